/- The texts of CursorSticky, merged: part 13. -/
import Derived.Test.YthpoomdillhcbaaQCursorSticky12
/- The reader of layer 7: Texts. -/
namespace Go.Proofs.Ythpoomdillhcbaa.Pa
open Go.Proofs.Ythpoomdillhcbaa.L Go.RowKit Go.Proofs.YthpoomdillhcbaaW.PrintWords Go.Proofs.YthpoomdillhcbaaW.PrintLast Go.Proofs.YthpoomdillhcbaaW.PrintMore
set_option linter.unusedVariables false
set_option linter.unusedSimpArgs false
variable {B : Nat × Nat}
theorem numF_less : ∀ (l : List Int) (i : Nat) (v x : Int) (rest : List Int), numF l i v = .inr (x, rest) → rest.length < l.length
  | [], i, v, x, rest, h => by rw [numF] at h; cases h
  | c :: l, i, v, x, rest, h => by
    rw [numF] at h
    split at h
    · split at h
      · split at h
        · injection h with h
          injection h with h1 h2
          subst h2
          simp
        · cases h
      · have := numF_less l _ _ _ _ h
        simp; omega
    · cases h
theorem blockF_less {l p rest : List Int} {most : Int} (h : blockF l most = .inr (p, rest)) : rest.length < l.length := by
  rcases hv : numF l 0 0 with n | ⟨v, r1⟩
  · rw [blockF, hv] at h; cases h
  · rw [blockF, hv] at h
    simp only at h
    have := numF_less _ _ _ _ _ hv
    split at h
    · split at h
      · injection h with h
        injection h with h1 h2
        subst h2
        simp only [List.length_drop]
        omega
      · cases h
    · cases h
/-- So many blocks, read off bytes: the error's number, or the blocks and the bytes behind them. -/
def txsF : Nat → List Int → Int → List (List Int) → Int ⊕ (List (List Int) × List Int)
  | 0, l, _, acc => .inr (acc, l)
  | n + 1, l, each, acc => match blockF l each with
    | .inl e => .inl e
    | .inr (p, rest) => txsF n rest each (acc ++ [p])
def textsF (l : List Int) (most each : Int) : Int ⊕ (List (List Int) × List Int) :=
  if most < 0 ∨ each < 0 then .inl 2 else match numF l 0 0 with
    | .inl n => .inl n
    | .inr (v, rest) => if v ≤ most then txsF v.toNat rest each [] else .inl 70
/-- How the closure of Texts ends. -/
def TxPost (B : Nat × Nat) (g pv : Nat) (bs : List Int) (w : World) (res : Int ⊕ (List (List Int) × List Int)) (e : Ending) (w' : World) : Prop :=
  (∃ ps rest w1 v, res = .inr (ps, rest) ∧ e = .returned (.tuple #[]) ∧ Rd w1 B g bs ((bs.length : Int) - rest.length) 0 ∧ Keeps w w1 g none ∧ Kd.R Kd.string 9 w1 w.heap.size (fun _ => True) v (ps.map strOfNums) ∧ w' = w1.setCell ⟨pv, 0, none⟩ v) ∨
  (∃ n at1, res = .inl n ∧ e = .panicked [{ v := .iface 44 (.int .i64 n), recovered := false }] ∧ Rd w' B g bs at1 0 ∧ Keeps w w' g none)
set_option maxRecDepth 100000 in
set_option maxHeartbeats 8000000 in
theorem tx_calls (g pm pe pr pv : Nat) (x : Value) (bs : List Int) (at_ most each : Int) (w : World) (h0 : 0 ≤ at_) (h1 : at_ ≤ bs.length) (hbl : bs.length < 8796093022208) (hm : -9223372036854775808 ≤ most ∧ most ≤ 9223372036854775807) (he : -9223372036854775808 ≤ each ∧ each ≤ 9223372036854775807) (hR : Rd w B g bs at_ 0)
    (hcm : w.cell? ⟨pm, 0, none⟩ = some (.int .i64 most)) (hce : w.cell? ⟨pe, 0, none⟩ = some (.int .i64 each)) (hcr : w.cell? ⟨pr, 0, none⟩ = some (.pointer (some ⟨g, 0, none⟩))) (hmg : pm ≠ g) (heg : pe ≠ g) (hrg : pr ≠ g) (hv : w.heap[pv]? = some (.cells #[x] 28 (0, 0))) (hg : pv ≠ g) :
    Calls Try.prog 84 #[.pointer (some ⟨pm, 0, none⟩), .pointer (some ⟨pe, 0, none⟩), .pointer (some ⟨pr, 0, none⟩), .pointer (some ⟨pv, 0, none⟩)] w fun e w' => TxPost B g pv bs w (textsF (bs.drop at_.toNat) most each) e w' := by
  have hw : 0 ≤ most → IntKind.u64.wrap most = most := fun h => by rw [IntKind.wrap_u64]; omega
  have HM := Aside0.mk (And.intro hcm (And.intro hce hcr))
  by_cases hneg : most < 0 ∨ each < 0
  · have HT := Aside0.mk (show textsF (bs.drop at_.toNat) most each = .inl 2 by unfold textsF; rw [if_pos hneg])
    have hR0 := Aside0.mk hR
    clear hR hw
    by_cases hm0 : most < 0
    · have d1 : decide (most ≥ 0) = false := by simpa using hm0
      clear hneg hm he
      go_enter Try.func84, Try.ntmps84
      go_wp2_with (go_at_call 78; refine (must_f (by first | rfl | (simp; omega)) _ _).mono ?_; rintro e w2 ⟨rfl, rfl⟩)
      all_goals exact ⟨rfl, .inr ⟨_, _, HT.out, rfl, hR0.out, Keeps.refl _ _ _⟩⟩
    · have d1 : decide (most ≥ 0) = true := by simp; omega
      have d2 : decide (each ≥ 0) = false := by simp; omega
      clear hneg hm he hm0
      go_enter Try.func84, Try.ntmps84
      go_wp2_with (go_at_call 78; refine (must_f (by first | rfl | (simp; omega)) _ _).mono ?_; rintro e w2 ⟨rfl, rfl⟩)
      all_goals exact ⟨rfl, .inr ⟨_, _, HT.out, rfl, hR0.out, Keeps.refl _ _ _⟩⟩
  have hm0 : 0 ≤ most := by omega
  have he0 : 0 ≤ each := by omega
  have hw := hw hm0
  have d1 : decide (most ≥ 0) = true := by simpa using hm0
  have d2 : decide (each ≥ 0) = true := by simpa using he0
  rcases hn : numF (bs.drop at_.toNat) 0 0 with n | ⟨v, r1⟩
  · have HT := Aside0.mk (show textsF (bs.drop at_.toNat) most each = .inl n by unfold textsF; rw [if_neg hneg, hn])
    have hN := Aside0.mk (number_no g bs at_ 0 n w h0 h1 hn hR)
    clear hn hR hneg
    go_enter Try.func84, Try.ntmps84
    go_wp2_with (first | (go_at_call 78; refine (must_s (by first | rfl | (simp; omega)) _ _).mono ?_; rintro e w2 ⟨rfl, hww⟩; subst hww) | (go_at_call 81; refine hN.out.mono ?_; rintro e w1 ⟨rfl, ⟨at1, hR1⟩, hK1⟩))
    all_goals exact ⟨rfl, .inr ⟨_, _, HT.out, rfl, hR1.out, hK1.out⟩⟩
  have hN := Aside0.mk (number_ok g bs r1 at_ 0 v w h0 h1 hn hR)
  obtain ⟨⟨k, hk1, hk2⟩, hv0, hv1⟩ := numF_rest _ _ _ _ _ hn
  have hls := numF_less _ _ _ _ _ hn
  obtain ⟨hr1, hr2⟩ := drop_back hk2 hk1
  by_cases hvm : v ≤ most
  case neg =>
    have HT := Aside0.mk (show textsF (bs.drop at_.toNat) most each = .inl 70 by unfold textsF; rw [if_neg hneg, hn]; exact if_neg hvm)
    have d3 : decide (v ≤ most) = false := by simpa using hvm
    clear hn hR hneg hk1 hk2 hr1 hr2 hls hvm
    go_enter Try.func84, Try.ntmps84
    go_wp2_with (first | (go_at_call 78; refine (must_s (by first | rfl | (simp; omega)) _ _).mono ?_; rintro e w2 ⟨rfl, hww⟩; subst hww) | (go_at_call 81; refine hN.out.mono ?_; rintro e w1 ⟨rfl, hR1, hK1⟩; have x1 := keeps_cell hK1.out HM.out.1 hmg; have x2 := keeps_cell hK1.out HM.out.2.1 heg; have x3 := keeps_cell hK1.out HM.out.2.2 hrg) | (go_at_call 78; refine (must_f (by first | rfl | (simp; omega)) _ _).mono ?_; rintro e w2 ⟨rfl, rfl⟩))
    all_goals exact ⟨rfl, .inr ⟨_, _, HT.out, rfl, hR1.out, hK1.out⟩⟩
  have HT := Aside0.mk (show textsF (bs.drop at_.toNat) most each = txsF v.toNat r1 each [] by unfold textsF; rw [if_neg hneg, hn]; exact if_pos hvm)
  have d3 : decide (v ≤ most) = true := by simpa using hvm
  have HX := Aside0.mk (And.intro hr1 (And.intro hr2 hls))
  have HV := Aside0.mk hv
  have hgw := Aside0.mk (Nat.lt_of_lt_of_le hR.lt hR.le)
  have HLE := Aside0.mk hR.le
  clear hn hR hneg hk1 hk2 hr1 hr2 hls hvm hv
  go_enter Try.func84, Try.ntmps84
  go_wp2_with (first | (go_at_call 78; refine (must_s (by first | rfl | (simp; omega)) _ _).mono ?_; rintro e w2 ⟨rfl, hww⟩; subst hww) | (go_at_call 81; refine hN.out.mono ?_; rintro e w1 ⟨rfl, hR1, hK1⟩; have x1 := keeps_cell hK1.out HM.out.1 hmg; have x2 := keeps_cell hK1.out HM.out.2.1 heg; have x3 := keeps_cell hK1.out HM.out.2.2 hrg))
  go_loopg [5, 21] v.toNat (fun kq v5 v21 w' => ∃ (i : Nat) (ps : List (List Int)) (rest : List Int), v21 = .int .u64 i ∧ Aside0 (kq = v.toNat - i ∧ i ≤ v.toNat ∧ ps.length = i ∧ rest = bs.drop (bs.length - rest.length) ∧ rest.length + i ≤ bs.length ∧ txsF v.toNat r1 each [] = txsF (v.toNat - i) rest each ps) ∧ Aside0 (Kd.R Kd.string 9 w' w.heap.size (fun _ => True) v5 (ps.map strOfNums)) ∧ Aside0 (Rd w' B g bs ((bs.length : Int) - rest.length) 0) ∧ Aside0 (Keeps w w' g none))
  case atStart => exact ⟨0, [], r1, rfl, ⟨by omega, by omega, rfl, HX.out.1, by have := HX.out.2.1; omega, by simp⟩, ⟨Kd.R_nil _ _ _ _ _⟩, hR1, hK1⟩
  case round =>
    obtain ⟨i, ps, rest, rfl, hi, hv, hRd, hK⟩ := hrel
    obtain ⟨A6, c6, hvs⟩ := Kd.R_slice hv.out
    subst hvs
    rw [List.length_map] at hv
    have y1 := keeps_cell hK.out HM.out.1 hmg
    have y2 := keeps_cell hK.out HM.out.2.1 heg
    have y3 := keeps_cell hK.out HM.out.2.2 hrg
    rcases Nat.lt_or_ge i v.toNat with hlt | hge
    · have hd2 : decide ((i : Int) < v) = true := by simp; omega
      have hTL := hi.out.2.2.2.2.2
      rw [show v.toNat - i = (v.toNat - (i + 1)) + 1 by omega, txsF] at hTL
      have hdr : bs.drop ((bs.length : Int) - rest.length).toNat = rest := by rw [show ((bs.length : Int) - rest.length).toNat = bs.length - rest.length by omega]; exact hi.out.2.2.2.1.symm
      rcases hp : blockF rest each with n | ⟨p, r2⟩
      · rw [hp] at hTL
        simp only at hTL
        have hBk := Aside0.mk (block_no g bs _ 0 each n wr (by have := hi.out.2.2.2.2.1; omega) (by omega) he0 he.2 (by rw [hdr]; exact hp) hRd.out)
        have HQ := Aside0.mk (HT.out.trans hTL)
        clear hTL hdr hp
        go_wp2_with (go_at_call 79; refine hBk.out.mono ?_; rintro e w3 ⟨rfl, ⟨at1, hR3⟩, hK3⟩)
        all_goals exact ⟨rfl, .inr ⟨_, _, HQ.out, rfl, hR3.out, hK.out.trans hK3.out (.inl rfl)⟩⟩
      · rw [hp] at hTL
        simp only at hTL
        have hBk := Aside0.mk (block_ok g bs p r2 _ 0 each wr (by have := hi.out.2.2.2.2.1; omega) (by omega) he0 he.2 (by rw [hdr]; exact hp) hRd.out)
        have hl2 := blockF_less hp
        obtain ⟨_, _, k2, hk3, hk4⟩ := blockF_len hp
        have hk5 := drop_back (bs := bs) (a := bs.length - rest.length) (k := k2) (rest := r2) (by rw [← hi.out.2.2.2.1]; exact hk4) (by rw [← hi.out.2.2.2.1]; exact hk3)
        have hX := Aside0.mk (And.intro hTL (And.intro hl2 hk5.1))
        clear hTL hdr hp hl2 hk3 hk4 hk5
        go_wp2_with (first | (go_at_call 79; refine hBk.out.mono ?_; rintro e w4 ⟨A, c, rfl, hc4, hC4, hR4, hK4⟩; have hcv := Kd.C_string (P := Try.prog) (A := A) (c := c) Try.underlying24 Try.underlying5 Try.underlying9 hC4.out; have hv4 := Aside0.mk (R_keeps_old hv.out hK4.out hgw.out)) | ((with_reducible refine gate_builtin (b := .append) (xs := #[.tmp 23, .tmp 28]) rfl ?_); at_builtin; refine Kd.R_append Kd.string (w0 := w4) w.heap.size rfl (.tmp 23) (.tmp 28) 28 9 (.string ⟨#[]⟩) 16 rfl Try.underlying28 info9 rfl (by decide) (by omega) (.slice A6 ps.length c6) (ps.map strOfNums) (strOfNums p) [.string (strOfNums p)] (fun _ => True) (fun _ => False) rfl rfl rfl (fun _ hk => hk.elim) (fun _ _ => trivial) hv4.out ?aB ?aS ?aL ?_; (case aB => exact Below.refl _ _); (case aS => exact Nat.le_trans hK.out.size hK4.out.size); (case aL => have := hi.out.2.2.1; have := hi.out.2.2.2.2.1; simp; omega); intro v5 w5 hv5 hb5 hg5 hat5; replace hv5 := Aside0.mk hv5; replace hb5 := Aside0.mk hb5; replace hg5 := Aside0.mk hg5; clear hat5))
        go_roundg (v.toNat - (i + 1))
        case measure => have := hi.out.1; omega
        case rel =>
          refine ⟨i + 1, ps ++ [p], r2, by simp, ⟨rfl, by omega, by simp; exact hi.out.2.2.1, hX.out.2.2, by have := hi.out.2.2.2.2.1; have := hX.out.2.1; omega, hX.out.1⟩, ⟨?_⟩, ⟨hR4.out.far hb5.out.size (fun j hj => hb5.out.block j (Nat.lt_of_lt_of_le hj HLE.out))⟩, ⟨?_⟩⟩
          · rw [List.map_append]; exact hv5.out
          · have k := hK.out.trans hK4.out (.inl rfl)
            exact ⟨Nat.le_trans k.size hb5.out.size, fun j h1 h2 h3 => (hb5.out.block j h1).trans (k.block j h1 h2 h3), hb5.out.os.trans k.os, hb5.out.tape.trans k.tape, hb5.out.output.trans k.output⟩
    · have hd2 : decide ((i : Int) < v) = false := by simp; omega
      have hTL := hi.out.2.2.2.2.2
      rw [show v.toNat - i = 0 by omega, txsF] at hTL
      have HQ := Aside0.mk (HT.out.trans hTL)
      clear hTL
      have hV1 := hK.out.blk HV.out hg (by simp)
      have c1 : wr.cell? ⟨pv, 0, none⟩ = some x := (blk_cell hV1 0).trans rfl
      have z1 := blk_frozen hV1 0
      clear hV1
      go_wp2
      exact ⟨rfl, _, results_none rfl _ _ _, .inl ⟨_, _, _, _, HQ.out, rfl, hRd.out, hK.out, hv.out, rfl⟩⟩
/-- What Texts answers, the place and the fault behind it. -/
def txR (bs : List Int) (at_ fault most each : Int) : List ByteArray × Int × Int :=
  if fault ≠ 0 then ([], at_, fault) else match textsF (bs.drop at_.toNat) most each with
    | .inr (ps, rest) => (ps.map strOfNums, (bs.length : Int) - rest.length, 0)
    | .inl n => ([], at_, n)
set_option maxHeartbeats 8000000 in
theorem texts_calls (g : Nat) (bs : List Int) (at_ fault most each : Int) (w : World) (hm : -9223372036854775808 ≤ most ∧ most ≤ 9223372036854775807) (he : -9223372036854775808 ≤ each ∧ each ≤ 9223372036854775807) (hbl : bs.length < 8796093022208) (h0 : 0 ≤ at_) (h1 : at_ ≤ bs.length) (hR : Rd w B g bs at_ fault) :
    Calls Try.prog 35 #[.pointer (some ⟨g, 0, none⟩), .int .i64 most, .int .i64 each] w fun e w' => ∃ v, e = .returned v ∧ Kd.R Kd.string 9 w' w.heap.size (fun _ => True) v (txR bs at_ fault most each).1 ∧ Aside0 (Rd w' B g bs (txR bs at_ fault most each).2.1 (txR bs at_ fault most each).2.2) ∧ Aside0 (Keeps w w' g none) := by
  have hmf : ∀ (fn : Fn) (first cap : Array Value) (w : World), (Instr.makeFunc fn first cap).run Try.prog w = .ok (.func fn first cap) w := fun _ _ _ _ => rfl
  obtain ⟨W2, hW2⟩ : ∃ W2, W2 = (((w.alloc (.cells #[.pointer (some ⟨g, 0, none⟩)] 42)).alloc (.cells #[.int .i64 most] 3)).alloc (.cells #[.int .i64 each] 3)).alloc (.cells #[.slice none 0 0] 28) := ⟨_, rfl⟩
  have hB2 : Below w.heap.size w W2 := by rw [hW2]; exact below_alloc (below_alloc (below_alloc (below_alloc (Below.refl _ _) _) _) _) _
  have b1 : W2.heap[w.heap.size]? = some (.cells #[.pointer (some ⟨g, 0, none⟩)] 42 (0, 0)) := by rw [hW2]; exact heap_alloc_old (heap_alloc_old (heap_alloc_old (by simpa using heap_alloc_new w _)))
  have bm : W2.heap[w.heap.size + 1]? = some (.cells #[.int .i64 most] 3 (0, 0)) := by rw [hW2]; exact heap_alloc_old (heap_alloc_old (by simpa using heap_alloc_new (w.alloc (.cells #[.pointer (some ⟨g, 0, none⟩)] 42)) _))
  have be : W2.heap[w.heap.size + 1 + 1]? = some (.cells #[.int .i64 each] 3 (0, 0)) := by rw [hW2]; exact heap_alloc_old (by simpa using heap_alloc_new ((w.alloc (.cells #[.pointer (some ⟨g, 0, none⟩)] 42)).alloc (.cells #[.int .i64 most] 3)) _)
  have b2 : W2.heap[w.heap.size + 1 + 1 + 1]? = some (.cells #[.slice none 0 0] 28 (0, 0)) := by rw [hW2]; simpa using heap_alloc_new (((w.alloc (.cells #[.pointer (some ⟨g, 0, none⟩)] 42)).alloc (.cells #[.int .i64 most] 3)).alloc (.cells #[.int .i64 each] 3)) _
  have hs2 : W2.heap.size = w.heap.size + 4 := by rw [hW2]; simp
  have hlt := hR.lt
  have hle := hR.le
  have hR2 := hR.below hB2
  have hF : ∀ (caps : Array Value) W, (callFunc 84 caps).run Try.prog W = .ok (.enter 84 caps) W := fun caps W => by simp [go_sem]
  have key : ∃ p at1 f1, txR bs at_ fault most each = (p, at1, f1) ∧ Calls Try.prog 76 #[.pointer (some ⟨g, 0, none⟩), .func (.func 84) #[] #[.pointer (some ⟨w.heap.size + 1, 0, none⟩), .pointer (some ⟨w.heap.size + 1 + 1, 0, none⟩), .pointer (some ⟨w.heap.size, 0, none⟩), .pointer (some ⟨w.heap.size + 1 + 1 + 1, 0, none⟩)]] W2 fun e w' => e = .returned (.tuple #[]) ∧ ∃ A c, Aside0 (w'.heap[w.heap.size + 1 + 1 + 1]? = some (.cells #[.slice A p.length c] 28 (0, 0))) ∧ Aside0 (Kd.R Kd.string 9 w' (w.heap.size + 4) (fun _ => True) (.slice A p.length c) p) ∧ Aside0 (Rd w' B g bs at1 f1) ∧ Aside0 (Keeps w w' g none) := by
    by_cases hz : fault = 0
    · subst hz
      have hq := fun W (hB : Below W2.heap.size W2 W) => tx_calls (B := B) g (w.heap.size + 1) (w.heap.size + 1 + 1) w.heap.size (w.heap.size + 1 + 1 + 1) (.slice none 0 0) bs at_ most each W h0 h1 hbl hm he (hR2.below hB) ((blk_cell (blk_below hB bm) 0).trans rfl) ((blk_cell (blk_below hB be) 0).trans rfl) ((blk_cell (blk_below hB b1) 0).trans rfl) (by omega) (by omega) (by omega) (blk_below hB b2) (by omega)
      rcases hn : textsF (bs.drop at_.toNat) most each with n | ⟨p, rest⟩
      · rw [hn] at hq
        refine ⟨[], at_, n, by simp [txR, hn], (reading_no g _ _ bs at_ n W2 (hF _) hR2 (fun W hB => (hq W hB).mono ?_)).mono ?_⟩
        · rintro e w' (⟨_, _, _, _, e1, _⟩ | ⟨n1, at1, e1, rfl, hR1, hK1⟩)
          · cases e1
          · injection e1 with e1
            subst e1
            exact ⟨rfl, ⟨at1, ⟨hR1⟩⟩, ⟨hK1⟩⟩
        rintro e w' ⟨rfl, hR', hK'⟩
        exact ⟨rfl, none, 0, ⟨hK'.out.blk b2 (by omega) (by simp)⟩, ⟨Kd.R_nil _ _ _ _ _⟩, hR', ⟨(Keeps.of_below hB2 g none).trans hK'.out (.inl rfl)⟩⟩
      · rw [hn] at hq
        refine ⟨p.map strOfNums, _, 0, by simp only [txR, hn]; rw [if_neg (by omega)], (reading_ok g _ _ bs at_ W2 (fun W w' => W2.heap.size ≤ W.heap.size ∧ ∃ w1 v, Rd w1 B g bs ((bs.length : Int) - rest.length) 0 ∧ Keeps W w1 g none ∧ Kd.R Kd.string 9 w1 W.heap.size (fun _ => True) v (p.map strOfNums) ∧ w' = w1.setCell ⟨w.heap.size + 1 + 1 + 1, 0, none⟩ v) (hF _) hR2 (fun W hB => (hq W hB).mono ?_)).mono ?_⟩
        · rintro e w' (⟨ps, r, w1, v, e1, rfl, hR1, hK1, hv, rfl⟩ | ⟨n1, at1, e1, _⟩)
          · injection e1 with e1
            injection e1 with e2 e3
            subst e2 e3
            exact ⟨rfl, ⟨hB.size, w1, v, hR1, hK1, hv, rfl⟩⟩
          · cases e1
        rintro e w' ⟨rfl, W, hB, ⟨hsz, w1, v, hR1, hK1, hv, rfl⟩⟩
        obtain ⟨A, c, rfl⟩ := Kd.R_slice hv
        have hV := hK1.blk (blk_below hB b2) (show w.heap.size + 1 + 1 + 1 ≠ g by omega) (by simp)
        refine ⟨rfl, A, c, ?_, ⟨Kd.R_lower (R_setCell_old hv (by show w.heap.size + 1 + 1 + 1 < W.heap.size; omega) _) (by omega)⟩, ⟨hR1.keep (Keeps.set_ (Keeps.refl w1 (w.heap.size + 1 + 1 + 1) none) 0 _) (by omega)⟩, ⟨keeps_far ((((Keeps.of_below hB2 g none).trans (Keeps.of_below hB g none) (.inl rfl))).trans hK1 (.inl rfl)) (by show w.heap.size ≤ w.heap.size + 1 + 1 + 1; omega) _⟩⟩
        have := blk_set hV 0 (.slice A (p.map strOfNums).length c)
        exact ⟨by simpa using this⟩
    · refine ⟨[], at_, fault, by simp [txR, hz], (reading_skip g _ bs at_ fault W2 hz hR2).mono ?_⟩
      rintro e w' ⟨rfl, hB⟩
      exact ⟨rfl, none, 0, ⟨blk_below hB b2⟩, ⟨Kd.R_nil _ _ _ _ _⟩, ⟨hR2.below hB⟩, ⟨(Keeps.of_below hB2 g none).trans (Keeps.of_below hB g none) (.inl rfl)⟩⟩
  obtain ⟨p, at1, f1, hu, hD⟩ := key
  rw [hu]
  rw [hW2] at hD
  have hD := Aside0.mk hD
  clear hu hF hR hR2 b1 b2 bm be hB2 hlt h0 h1 hm he hbl hs2
  go_enter Try.func35, Try.ntmps35
  go_wp2_with (go_at_call 76; refine hD.out.mono ?_; rintro e w1 ⟨rfl, A, c, hb1, hv1, hR1, hK1⟩; have c1 : w1.cell? ⟨w.heap.size + 1 + 1 + 1, 0, none⟩ = some (.slice A p.length c) := (blk_cell hb1.out 0).trans rfl; have z1 := blk_frozen hb1.out 0)
  have c2 : (w1.setCell ⟨w.heap.size + 1 + 1 + 1, 0, none⟩ (.slice A p.length c)).cell? ⟨w.heap.size + 1 + 1 + 1, 0, none⟩ = some (.slice A p.length c) := (blk_cell (blk_set hb1.out 0 (.slice A p.length c)) 0).trans rfl
  exact ⟨rfl, .slice A p.length c, by simp [results, Try.results35, Try.f35, go_sem, c2], _, rfl, Kd.R_lower (R_setCell_old hv1.out (by show w.heap.size + 1 + 1 + 1 < w.heap.size + 4; omega) _) (by omega), ⟨hR1.out.keep (Keeps.set_ (Keeps.refl w1 (w.heap.size + 1 + 1 + 1) none) 0 _) (by omega)⟩, ⟨keeps_far hK1.out (by show w.heap.size ≤ w.heap.size + 1 + 1 + 1; omega) _⟩⟩
end Go.Proofs.Ythpoomdillhcbaa.Pa
