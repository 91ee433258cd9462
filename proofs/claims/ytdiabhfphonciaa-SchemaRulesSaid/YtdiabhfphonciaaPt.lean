/- schema.Put, its walk by hand. -/
import Derived.Test.YtdiabhfphonciaaPa0
import Derived.Test.YtdiabhfphonciaaL
import Derived.Test.YtdiabhfphonciaaTk
import Derived.Test.YtdiabhfphonciaaPa4
import Derived.Test.YtdiabhfphonciaaPa4
import Derived.Lib.ConvBytes
import Derived.Test.YtdiabhfphonciaaCk
import Derived.Test.YtdiabhfphonciaaCl
import Derived.Defers
import Derived.Recover
import Derived.Laws.Pointers
import Derived.WalkLawsBesides
import Derived.RegionDies
import Derived.OpenShut
import Derived.Handy
import Derived.Lib.BitFns
import Derived.Laws.Bits64b
import Derived.Deep.QuietTactic
import Derived.Deep.RegionWith
namespace Go.Proofs.Ytdiabhfphonciaa.Pa
open Go.Proofs.Ytdiabhfphonciaa.L Go.RowKit Go.Proofs.YtdiabhfphonciaaW.PrintWords Go.Proofs.YtdiabhfphonciaaW.PrintLast Go.Proofs.YtdiabhfphonciaaW.PrintMore
set_option linter.unusedVariables false
set_option linter.unusedSimpArgs false
variable {B : Nat}

theorem bytesOf_len (s : ByteArray) : (bytesOf s).length = s.size := bytesOf_length s
theorem conv_bytes (s : ByteArray) (W : World) : (convert 9 22 (.string s)).run Try.prog W = .ok (.slice (some ⟨W.heap.size, 0, none⟩) (bytesOf s).length (grownCap W s.size 0 5)) (Lib.bytesWorld W 5 s) := by
  rw [bytesOf_len]
  exact Lib.run_convert_string_bytes W 9 22 5 s Try.underlying9 Try.underlying22 Try.underlying5
theorem conv_cap (s : ByteArray) (W : World) : (bytesOf s).length ≤ grownCap W s.size 0 5 := by
  rw [bytesOf_len]
  exact grownCap_ge W s.size 0 _
theorem conv_below (s : ByteArray) (W : World) : Below W.heap.size W (Lib.bytesWorld W 5 s) := by
  refine ⟨rfl, rfl, rfl, ?_, fun j hj => Lib.bytesWorld_at_old W _ s j hj⟩
  have h := Lib.bytesWorld_at_new W 5 s
  have := blk_lt h
  omega
theorem conv_C (s : ByteArray) (W : World) (hs : s.size ≤ 9223372036854775807) : Kd.C (Kd.int .u8) (Lib.bytesWorld W 5 s) (some ⟨W.heap.size, 0, none⟩) (bytesOf s).length (bytesOf s) := by
  refine ⟨rfl, by rw [bytesOf_len]; exact hs, fun _ => ⟨_, rfl, fun j p hj => ⟨[.int .u8 p], rfl, rfl, fun i u hu => ?_⟩⟩⟩
  cases i with
  | succ i => simp at hu
  | zero =>
    obtain rfl : Value.int .u8 p = u := by simpa using hu
    have h := Lib.bytesWorld_at_new W 5 s
    have ha : (⟨W.heap.size, 0, none⟩ : Addr).add (j * (Kd.int .u8).sz + 0) = ⟨W.heap.size, j, none⟩ := by
      have : (Kd.int .u8).sz = 1 := rfl
      rw [this]
      unfold Addr.add
      split
      · rename_i h0; have : j = 0 := by omega
        subst this; rfl
      · simp
    rw [ha]
    simp only [World.cell?, h]
    have hjl : j < s.data.size := by
      have := (List.getElem?_eq_some_iff.1 hj).1
      rw [bytesOf_len] at this
      exact this
    have hp : p = (s.data[j].toNat : Int) := by
      unfold bytesOf at hj
      rw [List.getElem?_map, Array.getElem?_toList, Array.getElem?_eq_getElem hjl] at hj
      simpa using hj.symm
    subst hp
    unfold Lib.bytesCells
    rw [Array.getElem?_append_left (by simpa using hjl), Array.getElem?_map, Array.getElem?_eq_getElem hjl]
    rfl
/-- Put's rounds: the columns that are left, the bytes so far. -/
def schema_Put.l (k : Nat) : List S42 → List Int → Option (List Int)
  | [], b => some b
  | c :: cs, b => if c.f0.size < 140737488355328 then (cursor_PutBlock.f k b (bytesOf c.f0)).bind fun t => (if t.length < 140737488355328 then schema_Put.l k cs (t ++ [if c.f2 = true then (c.f1 + 4) % 256 else c.f1 % 256]) else none) else none
def schema_Put.f (k : Nat) (l : List S42) : Option (List Int × Int) := (schema_Check.f k l).bind fun e => if e = 0 then (cursor_PutUvarint.f k [] (IntKind.u64.wrap l.length)).bind fun b => (schema_Put.l k l b).bind fun t => some (t, 0) else some ([], e)
theorem schema_Put.mono_l : ∀ (l : List S42) (b : List Int) (k : Nat), LeO (schema_Put.l k l b) (schema_Put.l (k + 1) l b)
  | [], _, _ => LeO.refl _
  | c :: cs, b, k => by
    rw [schema_Put.l, schema_Put.l]
    exact LeO.ite (LeO.bind (cursor_PutBlock.mono _ _ _) (fun t => LeO.ite (schema_Put.mono_l cs _ k) (LeO.none _))) (LeO.none _)
theorem schema_Put.mono : ∀ l k, LeO (schema_Put.f k l) (schema_Put.f (k + 1) l) := by
  intro l k
  unfold schema_Put.f
  exact LeO.bind (schema_Check.mono _ _) (fun e => LeO.ite (LeO.bind (cursor_PutUvarint.mono _ _ _) (fun b => LeO.bind (schema_Put.mono_l _ _ _) (fun t => LeO.refl _))) (LeO.refl _))
set_option maxHeartbeats 8000000 in
theorem schema_Put.calls (k : Nat) (A0 : Option Addr) (c0 : Nat) (l0 : List S42) (r1 : List Int) (r2 : Int) (w : World) (hr0 : Kd.C k42 w A0 l0.length l0) (hc0 : l0.length ≤ c0) (h : schema_Put.f k l0 = some (r1, r2)) :
    Calls Try.prog 12 #[.slice A0 l0.length c0] w fun e w' => ∃ v0_ : Value, e = .returned (.tuple #[v0_, .int .i64 r2]) ∧ Kd.R (Kd.int .u8) 5 w' w.heap.size (fun _ => True) v0_ r1 ∧ Below w.heap.size w w' := by
  unfold schema_Put.f at h
  replace h := Option.bind_eq_some_iff.mp h
  obtain ⟨ck, hck, h⟩ := h
  have hCk := Aside0.mk (schema_Check.calls k A0 c0 l0 ck w hr0 hc0 hck)
  have hR0 := Aside0.mk hr0
  have hm := hr0.2.1
  clear hr0 hck
  by_cases hz : ck = 0
  · rw [if_pos hz] at h
    have hw : IntKind.u64.wrap (l0.length : Int) = l0.length := by rw [IntKind.wrap_u64]; omega
    rw [hw] at h
    replace h := Option.bind_eq_some_iff.mp h
    obtain ⟨b0, hb0, h⟩ := h
    replace h := Option.bind_eq_some_iff.mp h
    obtain ⟨t, ht, h⟩ := h
    obtain ⟨rfl, rfl⟩ : t = r1 ∧ (0 : Int) = r2 := by have := Option.some.inj h; exact ⟨congrArg Prod.fst this, congrArg Prod.snd this⟩
    have hPu := Aside0.mk (fun W => cursor_PutUvarint.calls k none 0 [] _ b0 W (Kd.C_nil _ _) (by simp) hb0)
    replace ht := Aside0.mk ht
    have dC : (ck != 0) = false := by simpa using hz
    clear hz h hb0
    go_enter Try.func12, Try.ntmps12
    go_wp2_with (first | (go_at_call 16; refine hCk.out.mono ?_; rintro e w1 ⟨rfl, hb1⟩; replace hb1 := Aside0.mk hb1) | (go_at_call 32; refine (hPu.out _).mono ?_; rintro e w2 ⟨v2, rfl, hv2, hb2⟩; replace hv2 := Aside0.mk hv2; replace hb2 := Aside0.mk hb2))
    go_loopg [5, 20] l0.length (fun kq v5 v20 w' => ∃ (i : Nat) (b : List Int), v20 = .int .i64 i ∧ Aside0 (kq = l0.length - i ∧ i ≤ l0.length ∧ schema_Put.l k (l0.drop i) b = some t) ∧ Aside0 (Kd.R (Kd.int .u8) 5 w' w.heap.size (fun _ => True) v5 b) ∧ Aside0 (Below w.heap.size w w'))
    case atStart => exact ⟨0, b0, rfl, ⟨by omega, by omega, by simpa using ht.out⟩, ⟨Kd.R_lower hv2.out hb1.out.size⟩, ⟨below_then hb1.out hb1.out.size hb2.out⟩⟩
    case round =>
      obtain ⟨i, b, rfl, hi, hv, hB⟩ := hrel
      obtain ⟨A6, c6, hvs⟩ := Kd.R_slice hv.out
      subst hvs
      have HL := hi.out.2.2
      rcases Nat.lt_or_ge i l0.length with hlt | hge
      · have hR1 := Kd.C_below hR0.out hB.out
        have p1 : (0 : Int) ≤ i := by omega
        have q1 : (i : Int) < (l0.length : Int) := by omega
        obtain ⟨ad, e1, x0, x1, x2⟩ := at_T42 hR1 i p1 q1
        clear hR1
        subst e1
        obtain ⟨c, hc⟩ : ∃ c, c = rd_T42 l0 i := ⟨_, rfl⟩
        rw [← hc] at x0 x1 x2
        have hdr : l0.drop i = c :: l0.drop (i + 1) := by rw [List.drop_eq_getElem_cons hlt, hc]; simp [rd_T42, List.getD_eq_getElem?_getD, List.getElem?_eq_getElem hlt]
        replace hc := Aside0.mk hc
        simp only [Int.toNat_natCast] at x0 x1 x2
        rw [hdr, schema_Put.l] at HL
        clear hdr
        rcases c with ⟨nm, ty, nl⟩
        simp only at x0 x1 x2 HL
        have hw9 : wrap64 ((i : Int) + 1) = ((i + 1 : Nat) : Int) := by rw [wrap64_in (by omega) (by omega)]; omega
        have i5 : (Try.prog.info? 5).map (fun i => (i.zero, i.size, i.bytes)) = some (some (.int .u8 0), 1, 1) := by kernel_rfl
        by_cases hsz : nm.size < 140737488355328
        · rw [if_pos hsz] at HL
          replace HL := Option.bind_eq_some_iff.mp HL
          obtain ⟨u, hu, HL⟩ := HL
          by_cases hul : u.length < 140737488355328
          · rw [if_pos hul] at HL
            cases nl
            · simp only [Bool.false_eq_true, if_false] at HL
              have hcv := conv_bytes nm
              have hs9 : nm.size ≤ 9223372036854775807 := by omega
              have hPB := Aside0.mk (fun (o : Obj) (cap : Nat) (hcap : (bytesOf nm).length ≤ cap) => cursor_PutBlock.calls k A6 c6 b (some ⟨wr.heap.size + 1, 0, none⟩) cap (bytesOf nm) u (Lib.bytesWorld (wr.alloc o) 5 nm) (Kd.C_below (Kd.R_reads' (Kd.R_alloc hv.out o)).2.2 (conv_below nm _)) (Kd.R_reads' hv.out).2.1 (by have := conv_C nm (wr.alloc o) hs9; simpa using this) hcap hu)
              have hBB := Aside0.mk (fun (o : Obj) => below_then (below_alloc hB.out o) (below_alloc hB.out o).size (conv_below nm (wr.alloc o)))
              replace HL := Aside0.mk HL
              replace hul := Aside0.mk hul
              clear hu hs9
              go_wp2_with (first | (go_at_call 33; refine (hPB.out _ _ (conv_cap nm _)).mono ?_; rintro e w3 ⟨v3, rfl, hv3, hb3⟩; replace hv3 := Aside0.mk (Kd.R_lower hv3 (hBB.out _).size); replace hb3 := Aside0.mk (below_then (hBB.out _) (hBB.out _).size hb3)) | (at_builtin; refine Kd.R_append (Kd.int .u8) (w0 := w) w.heap.size rfl (.tmp 35) (.tmp 37) 22 5 (.int .u8 0) 1 rfl Try.underlying22 i5 rfl (by decide) (by omega) v3 u (ty % 256) [.int .u8 (ty % 256)] (fun _ => True) (fun _ => False) rfl rfl ?aP (fun _ hk => hk.elim) (fun _ _ => trivial) hv3.out hb3.out hb3.out.size ?aL ?_; (case aP => rfl); (case aL => have := hul.out; omega); intro v5 w5 hv5 hb5 hg5 hat5; replace hv5 := Aside0.mk hv5; replace hb5 := Aside0.mk hb5; clear hg5 hat5))
              go_roundg (l0.length - (i + 1))
              case measure => have := hi.out.1; omega
              case rel => exact ⟨i + 1, _, by simp, ⟨rfl, by omega, HL.out⟩, hv5, hb5⟩
            · simp only [if_true] at HL
              have hcv := conv_bytes nm
              have hs9 : nm.size ≤ 9223372036854775807 := by omega
              have hPB := Aside0.mk (fun (o : Obj) (cap : Nat) (hcap : (bytesOf nm).length ≤ cap) => cursor_PutBlock.calls k A6 c6 b (some ⟨wr.heap.size + 1, 0, none⟩) cap (bytesOf nm) u (Lib.bytesWorld (wr.alloc o) 5 nm) (Kd.C_below (Kd.R_reads' (Kd.R_alloc hv.out o)).2.2 (conv_below nm _)) (Kd.R_reads' hv.out).2.1 (by have := conv_C nm (wr.alloc o) hs9; simpa using this) hcap hu)
              have hBB := Aside0.mk (fun (o : Obj) => below_then (below_alloc hB.out o) (below_alloc hB.out o).size (conv_below nm (wr.alloc o)))
              replace HL := Aside0.mk HL
              replace hul := Aside0.mk hul
              clear hu hs9
              go_wp2_with (first | (go_at_call 33; refine (hPB.out _ _ (conv_cap nm _)).mono ?_; rintro e w3 ⟨v3, rfl, hv3, hb3⟩; replace hv3 := Aside0.mk (Kd.R_lower hv3 (hBB.out _).size); replace hb3 := Aside0.mk (below_then (hBB.out _) (hBB.out _).size hb3)) | (at_builtin; refine Kd.R_append (Kd.int .u8) (w0 := w) w.heap.size rfl (.tmp 35) (.tmp 37) 22 5 (.int .u8 0) 1 rfl Try.underlying22 i5 rfl (by decide) (by omega) v3 u ((ty + 4) % 256) [.int .u8 ((ty + 4) % 256)] (fun _ => True) (fun _ => False) rfl rfl ?aP (fun _ hk => hk.elim) (fun _ _ => trivial) hv3.out hb3.out hb3.out.size ?aL ?_; (case aP => rfl); (case aL => have := hul.out; omega); intro v5 w5 hv5 hb5 hg5 hat5; replace hv5 := Aside0.mk hv5; replace hb5 := Aside0.mk hb5; clear hg5 hat5))
              go_roundg (l0.length - (i + 1))
              case measure => have := hi.out.1; omega
              case rel => exact ⟨i + 1, _, by simp, ⟨rfl, by omega, HL.out⟩, hv5, hb5⟩
          · rw [if_neg hul] at HL; cases HL
        · rw [if_neg hsz] at HL; cases HL
      · have he : i = l0.length := by have := hi.out.2.1; omega
        rw [List.drop_eq_nil_of_le (by omega), schema_Put.l] at HL
        obtain rfl := Option.some.inj HL
        clear HL
        subst he
        go_wp2_with (fail)
        all_goals (go_ret2; exact ⟨_, rfl, hv.out, hB.out⟩)
  · rw [if_neg hz] at h
    obtain ⟨rfl, rfl⟩ : ([] : List Int) = r1 ∧ ck = r2 := by have := Option.some.inj h; exact ⟨congrArg Prod.fst this, congrArg Prod.snd this⟩
    have dC : (ck != 0) = true := by simpa using hz
    clear hz h
    go_enter Try.func12, Try.ntmps12
    go_wp2_with (first | (go_at_call 16; refine hCk.out.mono ?_; rintro e w1 ⟨rfl, hb1⟩))
    all_goals (go_ret2; exact ⟨_, rfl, Kd.R_nil _ _ _ _ _, hb1⟩)
end Go.Proofs.Ytdiabhfphonciaa.Pa
