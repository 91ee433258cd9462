/- The texts of RunsForm, merged: part 51. -/
import Derived.Test.YthlpkdmandcngaaQRunsForm48
import Derived.Test.YthlpkdmandcngaaQRunsForm6
import Derived.Test.YthlpkdmandcngaaQRunsForm50
/- RunsForm: bytes that are read are just those that are written of what the runs mean. -/
namespace Go.Proofs.Ythlpkdmandcngaa.Pure
open Go.RowKit Go.Proofs.Ythlpkdmandcngaa.Pa Go.Proofs.Ythlpkdmandcngaa.L Go.Proofs.Ythlpkdmandcngaa.O Go.Proofs.YthlpkdmandcngaaW.PrintWords Go.Proofs.YthlpkdmandcngaaW.PrintLast Go.Proofs.YthlpkdmandcngaaW.PrintMore
set_option linter.unusedVariables false
set_option linter.unusedSimpArgs false
theorem awake_e : Evn (fun k => colonnadelaw10_awake.f k) true := Evn.up 20 colonnadelaw10_awake.mono (by kernel_rfl)
/-- What reading answers: runs that stand for themselves, or nothing. -/
structure GotN (b : List Int) (n : Int) (x : List S38) (e : Int) : Prop where
  rd : Evn (fun k => runs_Ints.f k b n) (x, e)
  no : e ≠ 0 → x = []
  un : Evn (fun k => runs_Unfold_int64.f k x) (unf (x.map npr), 0)
  len : e = 0 → ((unf (x.map npr)).length : Int) = n
  put : e = 0 → Evn (fun k => runs_PutInts.f k (unf (x.map npr))) b
  fold : e = 0 → Evn (fun k => runs_Fold_int64.f k (unf (x.map npr))) x
  small : x.length ≤ 16777216
theorem gotN (b : List Int) (hb : Bytes b) (hl : b.length < 140737488355328) (n : Int) (hn0 : -9223372036854775808 ≤ n) (hn1 : n ≤ 9223372036854775807) : ∃ x e, GotN b n x e := by
  obtain ⟨x, e, hx, hr, hp⟩ := nread_e b hb hl n hn0 hn1
  by_cases he : e = 0
  · subst he
    obtain ⟨n0, n1, h1, h2, h3, h4⟩ := rdA_ok CI hb hr.symm
    have hF := nFo_of rfl h1 hp
    have hsm : (unf (x.map npr)).length = sm (x.map npr) := unf_len _
    have hlen : (unf (x.map npr)).length ≤ 16777216 := by omega
    obtain ⟨r, hr1, hr2⟩ := nfold_e (unf (x.map npr)) (by omega)
    obtain rfl : r = x := hr1.uniq hF
    have hk : ∀ s ∈ r, CI.ok s.f0 := fun s hs => h4 (npr s) (List.mem_map_of_mem hs)
    have hput := nput_e hlen hF hk hr2
    rw [← h3] at hput
    exact ⟨r, 0, hx, fun h => absurd rfl h, nunf_of hF hlen, fun _ => by omega, fun _ => hput, fun _ => hr2, by have := hF.len; omega⟩
  · have hz := rdA_err CI hr.symm he
    obtain rfl : x = [] := by simpa using hz
    exact ⟨[], e, hx, fun _ => rfl, nunf_of nFo.nil (Nat.zero_le _), fun h => absurd h he, fun h => absurd h he, fun h => absurd h he, by simp⟩
structure GotT (b : List Int) (n : Int) (x : List S42) (e : Int) : Prop where
  rd : Evn (fun k => runs_Texts.f k b n) (x, e)
  no : e ≠ 0 → x = []
  un : Evn (fun k => runs_Unfold_string.f k x) (unf (x.map tpr), 0)
  len : e = 0 → ((unf (x.map tpr)).length : Int) = n
  put : e = 0 → Evn (fun k => runs_PutTexts.f k (unf (x.map tpr))) b
  fold : e = 0 → Evn (fun k => runs_Fold_string.f k (unf (x.map tpr))) x
  small : x.length ≤ 16777216
theorem gotT (b : List Int) (hb : Bytes b) (hl : b.length < 140737488355328) (n : Int) (hn0 : -9223372036854775808 ≤ n) (hn1 : n ≤ 9223372036854775807) : ∃ x e, GotT b n x e := by
  obtain ⟨x, e, hx, hr, hp⟩ := tread_e b hb hl n hn0 hn1
  by_cases he : e = 0
  · subst he
    obtain ⟨n0, n1, h1, h2, h3, h4⟩ := rdA_ok CT hb hr.symm
    have hF := tFo_of rfl h1 hp
    have hsm : (unf (x.map tpr)).length = sm (x.map tpr) := unf_len _
    have hlen : (unf (x.map tpr)).length ≤ 16777216 := by omega
    obtain ⟨r, hr1, hr2⟩ := tfold_e (unf (x.map tpr)) (by omega)
    obtain rfl : r = x := hr1.uniq hF
    have hk : ∀ s ∈ r, CT.ok s.f0 := fun s hs => h4 (tpr s) (List.mem_map_of_mem hs)
    have hput := tput_e hlen hF hk hr2
    rw [← h3] at hput
    exact ⟨r, 0, hx, fun h => absurd rfl h, tunf_of hF hlen, fun _ => by omega, fun _ => hput, fun _ => hr2, by have := hF.len; omega⟩
  · have hz := rdA_err CT hr.symm he
    obtain rfl : x = [] := by simpa using hz
    exact ⟨[], e, hx, fun _ => rfl, tunf_of tFo.nil (Nat.zero_le _), fun h => absurd h he, fun h => absurd h he, fun h => absurd h he, by simp⟩
theorem RunsForm (l0 : (List Int)) (a1 : Int) (h0 : (l0.length * 1 ≤ 140737488351232 ∧ ∀ y0_ ∈ l0, (Lit.int .u8 y0_).wf = true)) (h1 : (Lit.int .i64 a1).wf = true) : ∃ k, colonnadelaw10_RunsForm.f k l0 a1 = some true := by
  have hb : Bytes l0 := fun x hx => wf_u8 (h0.2 x hx)
  have hn := wf_i64 h1
  obtain ⟨x, e, gx⟩ := gotN l0 hb (by omega) a1 hn.1 hn.2
  obtain ⟨y, f, gy⟩ := gotT l0 hb (by omega) a1 hn.1 hn.2
  have hj1 : Evn (fun k => colonnadelaw10_RunsForm.j1 k l0 a1 y f (unf (y.map tpr)) false) true := by
    refine Evn.succ (fun _ => rfl) ?_
    simp only [colonnadelaw10_RunsForm.j1]
    refine Evn.neg (by decide) ?_
    by_cases hf : f = 0
    · exact Evn.pos hf (Evn.pos (gy.len hf) (Evn.bind (gy.put hf) (Evn.pos rfl (Evn.bind (gy.fold hf) (Evn.bind (tsameR_e y (by have := gy.small; omega)) (Evn.now _))))))
    · exact Evn.neg hf (Evn.now _)
  have hj0 : Evn (fun k => colonnadelaw10_RunsForm.j0 k l0 a1 x e y f (unf (x.map npr)) (unf (y.map tpr)) false) true := by
    refine Evn.succ (fun _ => rfl) ?_
    simp only [colonnadelaw10_RunsForm.j0]
    refine Evn.neg (by decide) ?_
    by_cases he : e = 0
    · exact Evn.pos he (Evn.pos (gx.len he) (Evn.bind (gx.put he) (Evn.pos rfl (Evn.bind (gx.fold he) (Evn.bind (nsameR_e x (by have := gx.small; omega)) hj1)))))
    · exact Evn.neg he hj1
  refine Evn.ex (r := true) ?_
  unfold colonnadelaw10_RunsForm.f
  refine Evn.bind awake_e (Evn.pos rfl (Evn.bind gx.rd (Evn.bind gy.rd (Evn.bind gx.un (Evn.bind gy.un (Evn.pos rfl (Evn.pos rfl ?_)))))))
  have hy0 : f ≠ 0 → decide ((y.length : Int) > 0) = false := fun h => by rw [gy.no h]; rfl
  by_cases he : e = 0
  · refine Evn.pos he ?_
    by_cases hf : f = 0
    · exact Evn.pos hf hj0
    · refine Evn.neg hf ?_
      rw [hy0 hf]
      exact hj0
  · refine Evn.neg he (Evn.neg (by rw [gx.no he]; simp) ?_)
    by_cases hf : f = 0
    · exact Evn.pos hf hj0
    · refine Evn.neg hf ?_
      rw [hy0 hf]
      exact hj0
end Go.Proofs.Ythlpkdmandcngaa.Pure
