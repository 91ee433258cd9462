/- The texts of RunsBack, merged: part 53. -/
import Derived.Test.YthlpkdmandcngaaQRunsBack49
import Derived.Test.YthlpkdmandcngaaQRunsBack7
import Derived.Test.YthlpkdmandcngaaQRunsBack52
/- RunsBack: any numbers and texts are read again as their runs; no beginning of the bytes, nor they with others behind them, nor with another number of values, is read. -/
namespace Go.Proofs.Ythlpkdmandcngaa.Pure
open Go.RowKit Go.Proofs.Ythlpkdmandcngaa.Pa Go.Proofs.Ythlpkdmandcngaa.L Go.Proofs.Ythlpkdmandcngaa.O Go.Proofs.YthlpkdmandcngaaW.PrintWords Go.Proofs.YthlpkdmandcngaaW.PrintLast Go.Proofs.YthlpkdmandcngaaW.PrintMore
set_option linter.unusedVariables false
set_option linter.unusedSimpArgs false
theorem awake_e : Evn (fun k => colonnadelaw10_awake.f k) true := Evn.up 20 colonnadelaw10_awake.mono (by kernel_rfl)
theorem pickn (a n : Int) (hn : 0 < n) (hn1 : n < 1000000000000000) : ∃ b, 0 ≤ b ∧ b < n ∧ colonnadelaw10_pick.f a n = some b := by
  have h1 := Int.tmod_lt_of_pos a hn
  have h2 := Int.lt_tmod_of_pos a hn
  unfold colonnadelaw10_pick.f
  rw [if_neg (by omega), if_neg (by omega)]
  by_cases h : Int.tmod a n < 0
  · rw [if_pos h, wrap64_in (by omega) (by omega)]
    exact ⟨_, by omega, by omega, rfl⟩
  · rw [if_neg h]
    exact ⟨_, by omega, by omega, rfl⟩

section
variable {l : List Int} {r : List S38} (hl : l.length ≤ 16777216) (hF : nFo l r) (hk : ∀ s ∈ r, CI.ok s.f0)
include hl hF hk
theorem n_ok : (∀ y ∈ r.map npr, CI.ok y.1) ∧ sm (r.map npr) = l.length ∧ sm (r.map npr) ≤ 16777216 ∧ (r.map npr).length < 18446744073709551616 := by
  have h1 : sm (r.map npr) = l.length := by rw [← hF.un]; exact (unf_len _).symm
  have h2 := hF.len
  refine ⟨fun y hy => ?_, h1, by omega, by rw [List.length_map]; omega⟩
  obtain ⟨s, hs, rfl⟩ := List.mem_map.1 hy
  exact hk s hs
theorem n_same : Evn (fun k => runs_Ints.f k (frm CI (r.map npr)) (l.length : Int)) (r, 0) := by
  obtain ⟨o1, o2, o3, o4⟩ := n_ok hl hF hk
  obtain ⟨_, hfl⟩ := nfrm_len hl hF hk
  obtain ⟨x, e, hx, hr, hp⟩ := nread_e (frm CI (r.map npr)) (nbytes_frm r) (by omega) (l.length : Int) (by omega) (by omega)
  have h := rdA_of CI hF.pr o1 o3 o4 (l.length : Int) [] (by omega) (by omega)
  rw [List.append_nil, if_neg (by omega), if_neg (by omega), if_pos rfl] at h
  rw [h] at hr
  obtain ⟨e1, rfl⟩ := Prod.mk.inj hr
  obtain rfl := npr_inj x r hp (fun s hs => by have := hF.n s hs; omega) e1
  exact hx
theorem n_cut (c : Nat) (hc : c < (frm CI (r.map npr)).length) : ∃ x, Evn (fun k => runs_Ints.f k ((frm CI (r.map npr)).take c) (l.length : Int)) (x, 71) := by
  obtain ⟨o1, o2, o3, o4⟩ := n_ok hl hF hk
  obtain ⟨_, hfl⟩ := nfrm_len hl hF hk
  obtain ⟨x, e, hx, hr, hp⟩ := nread_e ((frm CI (r.map npr)).take c) ((nbytes_frm r).take c) (by rw [List.length_take]; omega) (l.length : Int) (by omega) (by omega)
  have h := rdA_cut CI hF.pr o1 o3 o4 (l.length : Int) ((frm CI (r.map npr)).take c) ((frm CI (r.map npr)).drop c) (by omega) (by omega) (List.take_append_drop c _).symm (fun e => by
    have := congrArg List.length e
    rw [List.length_drop] at this
    simp only [List.length_nil] at this
    omega)
  rw [h] at hr
  obtain ⟨_, rfl⟩ := Prod.mk.inj hr
  exact ⟨x, hx⟩
theorem n_more (rest : List Int) (hb : Bytes rest) (hlen : rest.length ≤ 140737488351232) : ∃ x e, Evn (fun k => runs_Ints.f k (frm CI (r.map npr) ++ rest) (l.length : Int)) (x, e) ∧ (rest ≠ [] → e = 72) := by
  obtain ⟨o1, o2, o3, o4⟩ := n_ok hl hF hk
  obtain ⟨_, hfl⟩ := nfrm_len hl hF hk
  obtain ⟨x, e, hx, hr, hp⟩ := nread_e (frm CI (r.map npr) ++ rest) ((nbytes_frm r).append hb) (by rw [List.length_append]; omega) (l.length : Int) (by omega) (by omega)
  refine ⟨x, e, hx, fun hne => ?_⟩
  have h := rdA_of CI hF.pr o1 o3 o4 (l.length : Int) rest (by omega) (by omega)
  rw [if_neg (by omega), if_neg (by omega), if_neg hne] at h
  rw [h] at hr
  exact (Prod.mk.inj hr).2
theorem n_other (n : Int) (h0 : -1 ≤ n) (h1 : n ≤ 16777217) (hn : n ≠ l.length) : ∃ x e, Evn (fun k => runs_Ints.f k (frm CI (r.map npr)) n) (x, e) ∧ e ≠ 0 := by
  obtain ⟨o1, o2, o3, o4⟩ := n_ok hl hF hk
  obtain ⟨_, hfl⟩ := nfrm_len hl hF hk
  obtain ⟨x, e, hx, hr, hp⟩ := nread_e (frm CI (r.map npr)) (nbytes_frm r) (by omega) n (by omega) (by omega)
  refine ⟨x, e, hx, ?_⟩
  by_cases hm : n < 0 ∨ n > 16777216
  · unfold rdA at hr
    rw [if_pos hm] at hr
    rw [(Prod.mk.inj hr).2]
    decide
  · have h := rdA_of CI hF.pr o1 o3 o4 n [] (by omega) (by omega)
    rw [List.append_nil] at h
    by_cases h2 : n < sm (r.map npr)
    · rw [if_pos h2] at h
      rw [h] at hr
      rw [(Prod.mk.inj hr).2]
      decide
    · rw [if_neg h2, if_pos (by omega)] at h
      rw [h] at hr
      rw [(Prod.mk.inj hr).2]
      decide
end

section
variable {l : List ByteArray} {r : List S42} (hl : l.length ≤ 16777216) (hF : tFo l r) (hk : ∀ s ∈ r, CT.ok s.f0)
include hl hF hk
theorem t_ok : (∀ y ∈ r.map tpr, CT.ok y.1) ∧ sm (r.map tpr) = l.length ∧ sm (r.map tpr) ≤ 16777216 ∧ (r.map tpr).length < 18446744073709551616 := by
  have h1 : sm (r.map tpr) = l.length := by rw [← hF.un]; exact (unf_len _).symm
  have h2 := hF.len
  refine ⟨fun y hy => ?_, h1, by omega, by rw [List.length_map]; omega⟩
  obtain ⟨s, hs, rfl⟩ := List.mem_map.1 hy
  exact hk s hs
theorem t_same : Evn (fun k => runs_Texts.f k (frm CT (r.map tpr)) (l.length : Int)) (r, 0) := by
  obtain ⟨o1, o2, o3, o4⟩ := t_ok hl hF hk
  obtain ⟨_, hfl⟩ := tfrm_len hl hF hk
  obtain ⟨x, e, hx, hr, hp⟩ := tread_e (frm CT (r.map tpr)) (tbytes_frm r) (by omega) (l.length : Int) (by omega) (by omega)
  have h := rdA_of CT hF.pr o1 o3 o4 (l.length : Int) [] (by omega) (by omega)
  rw [List.append_nil, if_neg (by omega), if_neg (by omega), if_pos rfl] at h
  rw [h] at hr
  obtain ⟨e1, rfl⟩ := Prod.mk.inj hr
  obtain rfl := tpr_inj x r hp (fun s hs => by have := hF.n s hs; omega) e1
  exact hx
theorem t_cut (c : Nat) (hc : c < (frm CT (r.map tpr)).length) : ∃ x, Evn (fun k => runs_Texts.f k ((frm CT (r.map tpr)).take c) (l.length : Int)) (x, 71) := by
  obtain ⟨o1, o2, o3, o4⟩ := t_ok hl hF hk
  obtain ⟨_, hfl⟩ := tfrm_len hl hF hk
  obtain ⟨x, e, hx, hr, hp⟩ := tread_e ((frm CT (r.map tpr)).take c) ((tbytes_frm r).take c) (by rw [List.length_take]; omega) (l.length : Int) (by omega) (by omega)
  have h := rdA_cut CT hF.pr o1 o3 o4 (l.length : Int) ((frm CT (r.map tpr)).take c) ((frm CT (r.map tpr)).drop c) (by omega) (by omega) (List.take_append_drop c _).symm (fun e => by
    have := congrArg List.length e
    rw [List.length_drop] at this
    simp only [List.length_nil] at this
    omega)
  rw [h] at hr
  obtain ⟨_, rfl⟩ := Prod.mk.inj hr
  exact ⟨x, hx⟩
theorem t_more (rest : List Int) (hb : Bytes rest) (hlen : rest.length ≤ 140737488351232) : ∃ x e, Evn (fun k => runs_Texts.f k (frm CT (r.map tpr) ++ rest) (l.length : Int)) (x, e) ∧ (rest ≠ [] → e = 72) := by
  obtain ⟨o1, o2, o3, o4⟩ := t_ok hl hF hk
  obtain ⟨_, hfl⟩ := tfrm_len hl hF hk
  obtain ⟨x, e, hx, hr, hp⟩ := tread_e (frm CT (r.map tpr) ++ rest) ((tbytes_frm r).append hb) (by rw [List.length_append]; omega) (l.length : Int) (by omega) (by omega)
  refine ⟨x, e, hx, fun hne => ?_⟩
  have h := rdA_of CT hF.pr o1 o3 o4 (l.length : Int) rest (by omega) (by omega)
  rw [if_neg (by omega), if_neg (by omega), if_neg hne] at h
  rw [h] at hr
  exact (Prod.mk.inj hr).2
theorem t_other (n : Int) (h0 : -1 ≤ n) (h1 : n ≤ 16777217) (hn : n ≠ l.length) : ∃ x e, Evn (fun k => runs_Texts.f k (frm CT (r.map tpr)) n) (x, e) ∧ e ≠ 0 := by
  obtain ⟨o1, o2, o3, o4⟩ := t_ok hl hF hk
  obtain ⟨_, hfl⟩ := tfrm_len hl hF hk
  obtain ⟨x, e, hx, hr, hp⟩ := tread_e (frm CT (r.map tpr)) (tbytes_frm r) (by omega) n (by omega) (by omega)
  refine ⟨x, e, hx, ?_⟩
  by_cases hm : n < 0 ∨ n > 16777216
  · unfold rdA at hr
    rw [if_pos hm] at hr
    rw [(Prod.mk.inj hr).2]
    decide
  · have h := rdA_of CT hF.pr o1 o3 o4 n [] (by omega) (by omega)
    rw [List.append_nil] at h
    by_cases h2 : n < sm (r.map tpr)
    · rw [if_pos h2] at h
      rw [h] at hr
      rw [(Prod.mk.inj hr).2]
      decide
    · rw [if_neg h2, if_pos (by omega)] at h
      rw [h] at hr
      rw [(Prod.mk.inj hr).2]
      decide
end

theorem nok {l0 : List Int} (hv : ∀ v ∈ l0, -9223372036854775808 ≤ v ∧ v ≤ 9223372036854775807) {r : List S38} (hF : nFo l0 r) : ∀ s ∈ r, CI.ok s.f0 := fun s hs => by
  have h1 := hF.n s hs
  refine hv s.f0 ?_
  have : s.f0 ∈ unf (r.map npr) := by
    unfold unf
    refine List.mem_flatMap.2 ⟨npr s, List.mem_map_of_mem hs, ?_⟩
    show s.f0 ∈ List.replicate s.f1.toNat s.f0
    exact List.mem_replicate.2 ⟨by omega, rfl⟩
  rw [hF.un] at this
  exact this
theorem tok {l1 : List ByteArray} {q : List S42} (hF : tFo l1 q) (hs1 : ∀ s ∈ l1, s.size ≤ 65535) : ∀ s ∈ q, CT.ok s.f0 := fun s hs => by
  have h1 := hF.n s hs
  refine hs1 s.f0 ?_
  have : s.f0 ∈ unf (q.map tpr) := by
    unfold unf
    refine List.mem_flatMap.2 ⟨tpr s, List.mem_map_of_mem hs, ?_⟩
    show s.f0 ∈ List.replicate s.f1.toNat s.f0
    exact List.mem_replicate.2 ⟨by omega, rfl⟩
  rw [hF.un] at this
  exact this
section
variable (l0 : List Int) (l1 : List ByteArray) (a2 : Int) (l3 : List Int) (hl0 : l0.length ≤ 16777216) (hl1 : l1.length ≤ 16777216) (hv : ∀ v ∈ l0, -9223372036854775808 ≤ v ∧ v ≤ 9223372036854775807) (hb3 : Bytes l3) (hl3 : l3.length ≤ 140737488351232)
include hl0 hl1 hv hb3 hl3
theorem last (hs1 : ∀ s ∈ l1, s.size ≤ 65535) {r : List S38} {q : List S42} (hr : nFo l0 r) (hq : tFo l1 q) : Evn (fun k => colonnadelaw10_RunsBack.j2 k l0 l1 a2 l3 (frm CI (r.map npr)) (frm CT (q.map tpr)) false) true := by
  have kr := nok hv hr
  have kq := tok hq hs1
  obtain ⟨p1, m1⟩ := nfrm_len hl0 hr kr
  obtain ⟨p2, m2⟩ := tfrm_len hl1 hq kq
  obtain ⟨c1, d1, d2, e1⟩ := pickn a2 ((frm CI (r.map npr)).length : Int) (by omega) (by omega)
  obtain ⟨c2, d3, d4, e2⟩ := pickn a2 ((frm CT (q.map tpr)).length : Int) (by omega) (by omega)
  obtain ⟨x1, g1⟩ := n_cut hl0 hr kr c1.toNat (by omega)
  obtain ⟨x2, g2⟩ := t_cut hl1 hq kq c2.toNat (by omega)
  obtain ⟨x3, y3, g3, h3⟩ := n_more hl0 hr kr l3 hb3 hl3
  obtain ⟨x4, y4, g4, h4⟩ := t_more hl1 hq kq l3 hb3 hl3
  obtain ⟨x5, y5, g5, h5⟩ := n_other hl0 hr kr ((l0.length : Int) + 1) (by omega) (by omega) (by omega)
  obtain ⟨x6, y6, g6, h6⟩ := t_other hl1 hq kq ((l1.length : Int) - 1) (by omega) (by omega) (by omega)
  refine Evn.succ (fun _ => rfl) ?_
  simp only [colonnadelaw10_RunsBack.j2]
  refine Evn.neg (by decide) ?_
  rw [e1, e2]
  simp only [Option.bind_some]
  have q3 : Evn (fun k => runs_Ints.f k (([] : List Int) ++ frm CI (r.map npr) ++ l3) (l0.length : Int)) (x3, y3) := by rw [List.nil_append]; exact g3
  have q4 : Evn (fun k => runs_Texts.f k (([] : List Int) ++ frm CT (q.map tpr) ++ l3) (l1.length : Int)) (x4, y4) := by rw [List.nil_append]; exact g4
  have q5 : Evn (fun k => runs_Ints.f k (frm CI (r.map npr)) (wrap64 ((l0.length : Int) + 1))) (x5, y5) := by rw [wrap64_in (by omega) (by omega)]; exact g5
  have q6 : Evn (fun k => runs_Texts.f k (frm CT (q.map tpr)) (wrap64 ((l1.length : Int) - 1))) (x6, y6) := by rw [wrap64_in (by omega) (by omega)]; exact g6
  refine Evn.pos d1 (Evn.pos (by omega) (Evn.bind g1 (Evn.pos d3 (Evn.pos (by omega) (Evn.bind g2 (Evn.pos (by simp; omega) (Evn.pos (by simp; omega) (Evn.bind q3 (Evn.pos (by simp; omega) (Evn.pos (by simp; omega) (Evn.bind q4 (Evn.bind q5 (Evn.bind q6 (Evn.pos rfl (Evn.pos rfl (Evn.neg h5 (Evn.neg h6 ?_)))))))))))))))))
  by_cases hz : (l3.length : Int) = 0
  · exact Evn.pos hz (Evn.now _)
  · have hne : l3 ≠ [] := fun e => hz (by rw [e]; rfl)
    refine Evn.neg hz (Evn.pos (h3 hne) ?_)
    rw [h4 hne]
    exact Evn.now _
theorem loop (d : Nat) : ∀ i : Nat, i + d = l1.length → (∀ s ∈ l1.take i, s.size ≤ 65535) → Evn (fun k => colonnadelaw10_RunsBack.l0 k l0 l1 a2 l3 (i : Int)) true := by
  induction d with
  | zero =>
    intro i hi hs
    rw [List.take_of_length_le (by omega)] at hs
    obtain ⟨r, hr, hr2⟩ := nfold_e l0 (by omega)
    obtain ⟨q, hq, hq2⟩ := tfold_e l1 (by omega)
    have kr := nok hv hr
    have kq := tok hq hs
    have rl := hr.len
    have ql := hq.len
    refine Evn.succ (fun _ => rfl) ?_
    simp only [colonnadelaw10_RunsBack.l0]
    refine Evn.neg (by omega) (Evn.bind (nput_e hl0 hr kr hr2) (Evn.bind (tput_e hl1 hq kq hq2) (Evn.bind (n_same hl0 hr kr) (Evn.bind (t_same hl1 hq kq) (Evn.pos rfl (Evn.pos rfl (Evn.bind hr2 (Evn.bind (nsameR_e r (by omega)) (Evn.pos rfl (Evn.bind hq2 (Evn.bind (tsameR_e q (by omega)) ?_)))))))))))
    exact last l0 l1 a2 l3 hl0 hl1 hv hb3 hl3 hs hr hq
  | succ d ih =>
    intro i hi hs
    have hi' : i < l1.length := by omega
    refine Evn.succ (fun _ => rfl) ?_
    simp only [colonnadelaw10_RunsBack.l0]
    refine Evn.pos (by omega) (Evn.pos (by omega) ?_)
    rw [te_at l1 i hi']
    by_cases h : ((l1[i]).size : Int) > 65535
    · exact Evn.pos h (Evn.now _)
    · refine Evn.neg h ?_
      rw [wrap64_in (n := (i : Int) + 1) (by omega) (by omega), show (i : Int) + 1 = ((i + 1 : Nat) : Int) by omega]
      refine ih (i + 1) (by omega) (fun s hs' => ?_)
      rw [List.take_succ_eq_append_getElem hi'] at hs'
      rcases List.mem_append.1 hs' with h1 | h1
      · exact hs s h1
      · obtain rfl : s = l1[i] := by simpa using h1
        omega
end
theorem RunsBack (l0 : (List Int)) (l1 : (List ByteArray)) (a2 : Int) (l3 : (List Int)) (h0 : (l0.length * 8 ≤ 140737488351232 ∧ ∀ y0_ ∈ l0, (Lit.int .i64 y0_).wf = true)) (h1 : (l1.length * 16 ≤ 140737488351232 ∧ ∀ y0_ ∈ l1, y0_.size ≤ 140737488351232)) (h2 : (Lit.int .i64 a2).wf = true) (h3 : (l3.length * 1 ≤ 140737488351232 ∧ ∀ y0_ ∈ l3, (Lit.int .u8 y0_).wf = true)) : ∃ k, colonnadelaw10_RunsBack.f k l0 l1 a2 l3 = some true := by
  have hb3 : Bytes l3 := fun x hx => wf_u8 (h3.2 x hx)
  have hv : ∀ v ∈ l0, -9223372036854775808 ≤ v ∧ v ≤ 9223372036854775807 := fun v hv => wf_i64 (h0.2 v hv)
  have hyes : Evn (fun k => colonnadelaw10_RunsBack.j0 k l0 l1 a2 l3 true) true := by
    refine Evn.succ (fun _ => rfl) ?_
    simp only [colonnadelaw10_RunsBack.j0]
    exact Evn.pos trivial (Evn.now _)
  refine Evn.ex (r := true) ?_
  unfold colonnadelaw10_RunsBack.f
  refine Evn.bind awake_e (Evn.pos rfl ?_)
  by_cases hl : (l0.length : Int) > 16777216
  · exact Evn.pos hl hyes
  · refine Evn.neg hl ?_
    by_cases hm : (l1.length : Int) > 16777216
    · rw [decide_eq_true hm]
      exact hyes
    · rw [decide_eq_false hm]
      refine Evn.succ (fun _ => rfl) ?_
      simp only [colonnadelaw10_RunsBack.j0]
      refine Evn.neg (by decide) ?_
      exact loop l0 l1 a2 l3 (by omega) (by omega) hv hb3 (by omega) l1.length 0 (by omega) (by simp)
end Go.Proofs.Ythlpkdmandcngaa.Pure
