/- known, its walk by hand: it answers true. -/
import Derived.Test.YtdiabhfphonciaaS6
import Derived.Lib.SmallJoins
namespace Go.Proofs.Ytdiabhfphonciaa.Pa
open Go.RowKit Go.Proofs.YtdiabhfphonciaaW.PrintWords Go.Proofs.YtdiabhfphonciaaW.PrintLast Go.Proofs.YtdiabhfphonciaaW.PrintMore Go.Proofs.Ytdiabhfphonciaa.L
set_option linter.unusedVariables false
set_option linter.unusedSimpArgs false
theorem cols_C {W : World} {g : Nat} {t : TypeId} {fr : Nat × Nat} (h : W.heap[g]? = some (.cells #[.string ⟨#[97]⟩, .int .i64 1, .bool false, .string ⟨#[98, 50]⟩, .int .i64 2, .bool true] t fr)) : Kd.C k42 W (some ⟨g, 0, none⟩) y42.length y42 := by
  refine ⟨rfl, by decide, fun _ => ⟨_, rfl, fun j p hj => ?_⟩⟩
  have hc : ∀ i, W.cell? ⟨g, i, none⟩ = #[Value.string ⟨#[97]⟩, .int .i64 1, .bool false, .string ⟨#[98, 50]⟩, .int .i64 2, .bool true][i]? := fun i => by simp only [World.cell?, h]; rfl
  have ha : ∀ i, (⟨g, 0, none⟩ : Addr).add i = ⟨g, i, none⟩ := fun i => add_plain g i
  rcases j with _ | _ | j
  · obtain rfl : (⟨⟨#[97]⟩, 1, false⟩ : S42) = p := by simpa [y42] using hj
    refine ⟨_, rfl, k42_mk _ _, fun i u hu => ?_⟩
    rw [ha, hc]
    rcases i with _ | _ | _ | i
    · simpa using hu
    · simpa using hu
    · simpa using hu
    · simp at hu
  · obtain rfl : (⟨⟨#[98, 50]⟩, 2, true⟩ : S42) = p := by simpa [y42] using hj
    refine ⟨_, rfl, k42_mk _ _, fun i u hu => ?_⟩
    rw [ha, hc]
    have e3 : k42.sz = 3 := rfl
    rcases i with _ | _ | _ | i
    · simpa [e3] using hu
    · simpa [e3] using hu
    · simpa [e3] using hu
    · simp at hu
  · simp [y42] at hj
theorem lit_C {W : World} {g : Nat} {t : TypeId} {fr : Nat × Nat} {C : Array Value} (bs : List Int) (hC : C = (bs.map (Value.int .u8)).toArray) (hl : bs.length ≤ 1000000) (h : W.heap[g]? = some (.cells C t fr)) : Kd.C (Kd.int .u8) W (some ⟨g, 0, none⟩) bs.length bs := by
  refine ⟨rfl, by omega, fun _ => ⟨_, rfl, fun j p hj => ⟨[.int .u8 p], rfl, rfl, fun i u hu => ?_⟩⟩⟩
  cases i with
  | succ i => simp at hu
  | zero =>
    obtain rfl : Value.int .u8 p = u := by simpa using hu
    rw [add_plain]
    simp only [World.cell?, h]
    have e3 : (Kd.int .u8).sz = 1 := rfl
    rw [hC, e3]
    simp [hj]
def colonnadelaw15_known.f : Option Bool := some true
set_option maxHeartbeats 8000000 in
theorem colonnadelaw15_known.calls (r : Bool) (w : World) (h : colonnadelaw15_known.f = some r) :
    Calls Try.prog 18 #[] w fun e w' => e = .returned (.bool r) ∧ Below w.heap.size w w' := by
  obtain rfl : true = r := Option.some.inj h
  clear h
  obtain ⟨k, hP, hT, hS, hCk, hF⟩ := known_facts
  have hPut := Aside0.mk (fun (W : World) (g : Nat) (hb : W.heap[g]? = some (.cells #[.string ⟨#[97]⟩, .int .i64 1, .bool false, .string ⟨#[98, 50]⟩, .int .i64 2, .bool true] 42 (0, 0))) => schema_Put.calls k (some ⟨g, 0, none⟩) 2 y42 _ 0 W (cols_C hb) (by decide) hP)
  have hTak := Aside0.mk (fun (W : World) (g : Nat) (C : Array Value) (t : TypeId) (fr : Nat × Nat) (hC : C = #[.int .u8 2, .int .u8 1, .int .u8 97, .int .u8 1, .int .u8 2, .int .u8 98, .int .u8 50, .int .u8 6]) (hb : W.heap[g]? = some (.cells C t fr)) => schema_Take.calls k (some ⟨g, 0, none⟩) 8 [2, 1, 97, 1, 2, 98, 50, 6] y42 0 W (lit_C _ hC (by decide) hb) (by decide) hT)
  have hconv : ∀ (W : World) (C : Array Value), (convert 22 22 (.slice (some ⟨W.heap.size, 0, none⟩) 8 8)).run Try.prog (W.alloc (.cells C 5)) = .ok (.slice (some ⟨W.heap.size, 0, none⟩) 8 8) (W.alloc (.cells C 5 (C.size, C.size + 1))) := fun W C => Lib.run_convert_bytes_const W 22 5 C 8 8 Try.underlying22 Try.underlying5
  have hX := Aside0.mk (And.intro hS (And.intro hCk hF))
  clear hP hT hS hCk hF
  go_enter Try.func18, Try.ntmps18
  have hFnd := Aside0.mk (fun (W : World) (g : Nat) (hb : W.heap[g]? = some (.cells #[.string ⟨#[97]⟩, .int .i64 1, .bool false, .string ⟨#[98, 50]⟩, .int .i64 2, .bool true] 42 (0, 0))) => schema_Find.calls (some ⟨g, 0, none⟩) 2 y42 ⟨#[98, 50]⟩ 1 true W (cols_C hb) (by decide) hX.out.2.2)
  have hSam := Aside0.mk (fun (W : World) (A : Option Addr) (c : Nat) (hR : Kd.C k42 W A y42.length y42) (hc : y42.length ≤ c) (g : Nat) (hb : W.heap[g]? = some (.cells #[.string ⟨#[97]⟩, .int .i64 1, .bool false, .string ⟨#[98, 50]⟩, .int .i64 2, .bool true] 42 (0, 0))) => schema_Same.calls k A c y42 (some ⟨g, 0, none⟩) 2 y42 true W hR hc (cols_C hb) (by decide) hX.out.1)
  have hChk := Aside0.mk (fun (W : World) => schema_Check.calls k none 0 [] 150 W (Kd.C_nil _ _) (by simp) hX.out.2.1)
  have hlen : y42.length = 2 := rfl
  have hstr : (strOfNums [2, 1, 97, 1, 2, 98, 50, 6]) = ⟨#[2, 1, 97, 1, 2, 98, 50, 6]⟩ := by decide +kernel
  go_wp2_with (first | (go_at_call 12; refine (hPut.out _ w.heap.size (by simpa using heap_alloc_new w _)).mono ?_; rintro e w1 ⟨v1, rfl, hv1, hb1⟩; have bk1 := Aside0.mk (blk_below hb1 (show (w.alloc _).heap[w.heap.size]? = some (.cells #[.string ⟨#[97]⟩, .int .i64 1, .bool false, .string ⟨#[98, 50]⟩, .int .i64 2, .bool true] 42 (0, 0)) by simpa using heap_alloc_new w _)); replace hv1 := Aside0.mk hv1; replace hb1 := Aside0.mk (below_then (below_alloc (Below.refl _ _) _) (by simp) hb1)) | (go_at_call 14; refine (hTak.out _ w1.heap.size _ _ _ rfl (by simpa using heap_alloc_new w1 _)).mono ?_; rintro e w2 ⟨v2, rfl, hv2, hb2⟩; have bk2 := Aside0.mk (blk_below hb2 (heap_alloc_old bk1.out)); replace hv1 := Aside0.mk (Kd.R_below (Kd.R_alloc hv1.out _) hb2); obtain ⟨A2, c2, hvs⟩ := Kd.R_slice hv2; subst hvs; replace hv2 := Aside0.mk hv2; replace hb2 := Aside0.mk (below_then (below_alloc hb1.out _) (below_alloc hb1.out _).size hb2)) | (go_at_call 23; refine (hFnd.out _ w.heap.size bk2.out).mono ?_; rintro e w3 ⟨rfl, hb3⟩; have hcv := own_string (P := Try.prog) Try.underlying22 Try.underlying5 Try.underlying9 (Kd.own_of_R (Kd.R_below hv1.out hb3)); have bk3 := Aside0.mk (blk_below hb3 bk2.out); have hv3 := Aside0.mk (Kd.R_below hv2.out hb3); replace hb3 := Aside0.mk (below_then hb2.out hb2.out.size hb3)) | (go_at_call 15; refine (hSam.out _ A2 c2 (Kd.R_reads' hv3.out).2.2 (Kd.R_reads' hv3.out).2.1 w.heap.size bk3.out).mono ?_; rintro e w4 ⟨rfl, hb4⟩; replace hb4 := Aside0.mk (below_then hb3.out hb3.out.size hb4)) | (go_at_call 16; refine (hChk.out _).mono ?_; rintro e w5 ⟨rfl, hb5⟩; replace hb5 := Aside0.mk (below_then hb4.out hb4.out.size hb5)))
  all_goals (go_ret; exact ⟨rfl, hb5.out⟩)
end Go.Proofs.Ytdiabhfphonciaa.Pa
