/- The texts of RunsBack, merged: part 35. -/
import Derived.Test.YthlpkdmandcngaaQRunsBack22
import Derived.Test.YthlpkdmandcngaaQRunsBack24
import Derived.Test.YthlpkdmandcngaaQRunsBack25
import Derived.Test.YthlpkdmandcngaaQRunsBack26
import Derived.Test.YthlpkdmandcngaaQRunsBack27
import Derived.Test.YthlpkdmandcngaaQRunsBack28
import Derived.Test.YthlpkdmandcngaaQRunsBack29
import Derived.Test.YthlpkdmandcngaaQRunsBack30
import Derived.Test.YthlpkdmandcngaaQRunsBack32
import Derived.Test.YthlpkdmandcngaaQRunsBack34
/- The loops of runs, plainly (written by mkru.py). -/
namespace Go.Proofs.Ythlpkdmandcngaa.Pa
open Go.RowKit Go.Proofs.YthlpkdmandcngaaW.PrintWords Go.Proofs.YthlpkdmandcngaaW.PrintLast Go.Proofs.YthlpkdmandcngaaW.PrintMore Go.Proofs.Ythlpkdmandcngaa.L
set_option linter.unusedVariables false
set_option linter.unusedSimpArgs false

/-! ### runs of texts -/
theorem trT_at (l : List S42) (i : Nat) (hi : i < l.length) : rd_T42 l (i : Int) = l[i] := by
  unfold rd_T42; rw [Int.toNat_natCast, List.getD_eq_getElem?_getD, List.getElem?_eq_getElem hi]; rfl
theorem te_at (l : List ByteArray) (i : Nat) (hi : i < l.length) : rdOf ByteArray.empty l (i : Int) = l[i] := by
  unfold rdOf; rw [Int.toNat_natCast, List.getD_eq_getElem?_getD, List.getElem?_eq_getElem hi]; rfl
def tpr (s : S42) : ByteArray × Nat := (s.f0, s.f1.toNat)
theorem tpr_inj : ∀ (a b : List S42), (∀ s ∈ a, 0 ≤ s.f1) → (∀ s ∈ b, 0 ≤ s.f1) → a.map tpr = b.map tpr → a = b
  | [], [], _, _, _ => rfl
  | [], _ :: _, _, _, e => by simp at e
  | _ :: _, [], _, _, e => by simp at e
  | x :: a, y :: b, ha, hb, e => by
    rw [List.map_cons, List.map_cons] at e
    injection e with e1 e2
    rw [tpr_inj a b (fun s hs => ha s (by simp [hs])) (fun s hs => hb s (by simp [hs])) e2]
    congr 1
    have h1 := ha x (by simp)
    have h2 := hb y (by simp)
    unfold tpr at e1
    injection e1 with e3 e4
    cases x; cases y
    simp only at e3 e4 h1 h2
    rw [e3]
    congr 1
    omega
/-- r: the runs of l. -/
structure tFo (l : List ByteArray) (r : List S42) : Prop where
  pr : Pr (r.map tpr)
  un : unf (r.map tpr) = l
  n : ∀ s ∈ r, 1 ≤ s.f1
theorem tFo.uniq {l : List ByteArray} {a b : List S42} (ha : tFo l a) (hb : tFo l b) : a = b :=
  tpr_inj a b (fun s hs => by have := ha.n s hs; omega) (fun s hs => by have := hb.n s hs; omega) (Pr_uniq _ _ ha.pr hb.pr (ha.un.trans hb.un.symm))
theorem tFo.len {l : List ByteArray} {a : List S42} (ha : tFo l a) : a.length ≤ l.length := by
  have := len_le_unf (a.map tpr) ha.pr.pos
  rw [ha.un, List.length_map] at this
  exact this
theorem tFo.max {l : List ByteArray} {a : List S42} (ha : tFo l a) : ∀ s ∈ a, s.f1 ≤ l.length := fun s hs => by
  have := mem_le_unf (a.map tpr) (tpr s) (List.mem_map_of_mem hs)
  rw [ha.un] at this
  have h2 := ha.n s hs
  unfold tpr at this
  simp only at this
  omega
theorem tFo.nil : tFo [] [] := ⟨trivial, rfl, by simp⟩
/-- The last run is of the last value. -/
theorem tFo.last {l : List ByteArray} {v : ByteArray} {a : List S42} (ha : tFo (l ++ [v]) a) : ∃ b s, a = b ++ [s] ∧ s.f0 = v := by
  rcases List.eq_nil_or_concat a with rfl | ⟨b, s, rfl⟩
  · have := ha.un; simp [unf] at this
  · refine ⟨b, s, by simp, ?_⟩
    have h := ha.un
    have hn := ha.n s (by simp)
    obtain ⟨m, hm⟩ : ∃ m, s.f1.toNat = m + 1 := ⟨s.f1.toNat - 1, by omega⟩
    rw [List.concat_eq_append, List.map_append, unf_app, List.map_cons, List.map_nil, unf_cons] at h
    unfold tpr at h
    simp only [hm, List.replicate_succ'] at h
    simp only [unf, List.flatMap_nil, List.append_nil, ← List.append_assoc] at h
    have := List.append_inj_right' h rfl
    simpa using this
theorem tFo.push {l : List ByteArray} {v : ByteArray} {a : List S42} (ha : tFo l a) (hv : ∀ b s, a = b ++ [s] → s.f0 ≠ v) : tFo (l ++ [v]) (a ++ [(⟨v, 1⟩ : S42)]) := by
  refine ⟨?_, ?_, ?_⟩
  · rcases List.eq_nil_or_concat a with rfl | ⟨b, s, rfl⟩
    · exact Nat.le_refl 1
    · have h := ha.pr
      rw [List.concat_eq_append, List.map_append] at h ⊢
      rw [List.map_append]
      exact Pr_snoc (b.map tpr) h (hv b s (by simp))
  · rw [List.map_append, unf_app, ha.un]
    rfl
  · intro s hs
    rcases List.mem_append.1 hs with hs | hs
    · exact ha.n s hs
    · obtain rfl : s = ⟨v, 1⟩ := by simpa using hs
      exact Int.le_refl 1
theorem tFo.more {l : List ByteArray} {b : List S42} {s : S42} (ha : tFo l (b ++ [s])) : tFo (l ++ [s.f0]) (b ++ [(⟨s.f0, s.f1 + 1⟩ : S42)]) := by
  have hn := ha.n s (by simp)
  refine ⟨?_, ?_, ?_⟩
  · have h := ha.pr
    rw [List.map_append] at h ⊢
    exact Pr_inc (m := (s.f1 + 1).toNat) (by omega) (b.map tpr) h
  · have h := ha.un
    rw [List.map_append, unf_app, List.map_cons, List.map_nil, unf_cons] at h
    rw [List.map_append, unf_app, ← h, List.map_cons, List.map_nil, unf_cons]
    unfold tpr
    simp only
    rw [show (s.f1 + 1).toNat = s.f1.toNat + 1 by omega, List.replicate_succ']
    simp [unf]
  · intro x hx
    rcases List.mem_append.1 hx with hx | hx
    · exact ha.n x (by simp [hx])
    · obtain rfl : x = ⟨s.f0, s.f1 + 1⟩ := by simpa using hx
      show 1 ≤ s.f1 + 1
      omega
theorem tfold_l0 (l : List ByteArray) (hl : l.length ≤ 1000000000) (d : Nat) : ∀ (i : Nat) (a : List S42), i + d = l.length → tFo (l.take i) a → ∃ r, tFo l r ∧ Evn (fun k => runs_Fold_string.l0 k l a l (l.length : Int) (i : Int)) r := by
  induction d with
  | zero =>
    intro i a hi ha
    rw [List.take_of_length_le (by omega)] at ha
    refine ⟨a, ha, Evn.succ (fun _ => rfl) ?_⟩
    simp only [runs_Fold_string.l0]
    exact Evn.neg (by omega) (Evn.now _)
  | succ d ih =>
    intro i a hi ha
    have hi' : i < l.length := by omega
    have hla := ha.len
    rw [List.length_take] at hla
    have hw : wrap64 ((i : Int) + 1) = ((i + 1 : Nat) : Int) := by rw [wrap64_in (by omega) (by omega)]; omega
    by_cases h0 : i = 0
    · subst h0
      obtain ⟨r, hr, he⟩ := ih 1 (a ++ [(⟨l[0], 1⟩ : S42)]) (by omega) (by
        have := ha.push (v := l[0]) (fun b s e => by
          have := ha.len
          rw [e] at this
          simp at this)
        rw [List.take_zero] at this
        rw [List.take_succ_eq_append_getElem hi', List.take_zero]
        exact this)
      refine ⟨r, hr, Evn.succ (fun _ => rfl) ?_⟩
      simp only [runs_Fold_string.l0]
      rw [te_at l 0 hi', hw]
      exact Evn.pos (by omega) (Evn.pos (by omega) (Evn.pos (by omega) (Evn.neg (by omega) (Evn.pos (by omega) he))))
    · obtain ⟨j, rfl⟩ : ∃ j, i = j + 1 := ⟨i - 1, by omega⟩
      have hj : j < l.length := by omega
      have hwj : wrap64 (((j + 1 : Nat) : Int) - 1) = (j : Int) := by rw [wrap64_in (by omega) (by omega)]; omega
      have hla0 := ha
      rw [List.take_succ_eq_append_getElem hj] at hla0
      obtain ⟨b, s, rfl, hs⟩ := hla0.last
      have hbl : (b ++ [s]).length = b.length + 1 := by simp
      have hwa : wrap64 (((b ++ [s]).length : Int) - 1) = (b.length : Int) := by rw [wrap64_in (by omega) (by omega)]; omega
      by_cases hv : l[j + 1] = l[j]
      · have hmax := ha.max s (by simp)
        have hmin := ha.n s (by simp)
        rw [List.length_take] at hmax
        have hrs : rd_T42 (b ++ [s]) (b.length : Int) = s := by
          rw [trT_at _ _ (by simp)]
          simp
        obtain ⟨r, hr, he⟩ := ih (j + 1 + 1) (b ++ [(⟨s.f0, s.f1 + 1⟩ : S42)]) (by omega) (by
          rw [List.take_succ_eq_append_getElem hi', hv, ← hs]
          exact ha.more)
        refine ⟨r, hr, Evn.succ (fun _ => rfl) ?_⟩
        simp only [runs_Fold_string.l0]
        rw [hwj, hwa, te_at l (j + 1) hi', te_at l j hj, hw, hrs, wrap64_in (n := s.f1 + 1) (by omega) (by omega), show (b ++ [s]).set ((b.length : Int)).toNat (⟨s.f0, s.f1 + 1⟩ : S42) = b ++ [(⟨s.f0, s.f1 + 1⟩ : S42)] by rw [Int.toNat_natCast, List.set_append_right _ _ (Nat.le_refl _)]; simp]
        exact Evn.pos (by omega) (Evn.pos (by omega) (Evn.pos (by omega) (Evn.pos (by omega) (Evn.pos (by omega) (Evn.pos (by omega) (Evn.pos (congrArg ByteArray.toList hv) (Evn.pos (by omega) (Evn.pos (by omega) he))))))))
      · obtain ⟨r, hr, he⟩ := ih (j + 1 + 1) (b ++ [s] ++ [(⟨l[j + 1], 1⟩ : S42)]) (by omega) (by
          rw [List.take_succ_eq_append_getElem hi']
          refine ha.push (fun b2 s2 e => ?_)
          have := List.append_inj_right' e rfl
          obtain rfl : s = s2 := by simpa using this
          rw [hs]
          exact fun e => hv e.symm)
        refine ⟨r, hr, Evn.succ (fun _ => rfl) ?_⟩
        simp only [runs_Fold_string.l0]
        rw [hwj, te_at l (j + 1) hi', te_at l j hj, hw]
        exact Evn.pos (by omega) (Evn.pos (by omega) (Evn.pos (by omega) (Evn.pos (by omega) (Evn.pos (by omega) (Evn.pos (by omega) (Evn.neg (fun e => hv (tl_inj e)) (Evn.pos (by omega) he)))))))
theorem tfold_e (l : List ByteArray) (hl : l.length ≤ 1000000000) : ∃ r, tFo l r ∧ Evn (fun k => runs_Fold_string.f k l) r :=
  tfold_l0 l hl l.length 0 [] (by omega) tFo.nil
/-! unfolding -/
def tsm (l : List S42) : Nat := (l.map fun s => s.f1.toNat).sum
theorem tsm_app (a b : List S42) : tsm (a ++ b) = tsm a + tsm b := by unfold tsm; rw [List.map_append, List.sum_append]
theorem tsm_unf (l : List S42) : (unf (l.map tpr)).length = tsm l := by rw [unf_len, List.map_map]; rfl
theorem tunf_l2 (rs : List S42) (j : Nat) (hj : (j : Int) ≤ 140737488355328) (n : Nat) (v : ByteArray) (x5 : Int) (hx5 : x5 = n) (y : Int) (r : List ByteArray × Int) (out : List ByteArray) (hn : n ≤ 16777216) (hr : Evn (fun k => runs_Unfold_string.l1 k (out ++ List.replicate n v) rs y ((j + 1 : Nat) : Int)) r) (d : Nat) : ∀ i, i + d = n → out.length + n ≤ 16777216 →
    Evn (fun k => runs_Unfold_string.l2 k (out ++ List.replicate i v) rs y (j : Int) (n : Int) (i : Int) v x5) r := by
  induction d with
  | zero =>
    intro i hi _
    obtain rfl : i = n := by omega
    refine Evn.succ (fun _ => rfl) ?_
    simp only [runs_Unfold_string.l2]
    refine Evn.neg (by omega) ?_
    rw [wrap64_in (n := (j : Int) + 1) (by omega) (by omega), show (j : Int) + 1 = ((j + 1 : Nat) : Int) by omega]
    exact hr
  | succ d ih =>
    intro i hi ho
    refine Evn.succ (fun _ => rfl) ?_
    simp only [runs_Unfold_string.l2]
    refine Evn.pos (by omega) (Evn.pos (by rw [List.length_append, List.length_replicate]; omega) ?_)
    rw [wrap64_in (n := (i : Int) + 1) (by omega) (by omega), show (i : Int) + 1 = ((i + 1 : Nat) : Int) by omega, List.append_assoc, ← List.replicate_succ']
    exact ih (i + 1) (by omega) ho
theorem tunf_l1 (rs : List S42) (hl : rs.length < 140737488355328) (hn : ∀ s ∈ rs, 1 ≤ s.f1) (hs : tsm rs ≤ 16777216) (d : Nat) : ∀ i : Nat, i + d = rs.length → Evn (fun k => runs_Unfold_string.l1 k (unf ((rs.take i).map tpr)) rs (rs.length : Int) (i : Int)) (unf (rs.map tpr), 0) := by
  induction d with
  | zero =>
    intro i hi
    rw [List.take_of_length_le (by omega)]
    refine Evn.succ (fun _ => rfl) ?_
    simp only [runs_Unfold_string.l1]
    exact Evn.neg (by omega) (Evn.now _)
  | succ d ih =>
    intro i hi
    have hi' : i < rs.length := by omega
    have hp := hn _ (List.getElem_mem hi')
    have h1 := ih (i + 1) (by omega)
    rw [List.take_succ_eq_append_getElem hi', List.map_append, unf_app, List.map_cons, List.map_nil, unf_cons] at h1
    have hmem := mem_le_unf (rs.map tpr) (tpr rs[i]) (List.mem_map_of_mem (List.getElem_mem hi'))
    rw [tsm_unf] at hmem
    have hle : (unf ((rs.take i).map tpr)).length + (rs[i]).f1.toNat ≤ 16777216 := by
      have e := tsm_app (rs.take i) (rs.drop i)
      rw [List.take_append_drop] at e
      rw [tsm_unf]
      rw [List.drop_eq_getElem_cons hi'] at e
      simp only [tsm, List.map_cons, List.sum_cons] at e hs ⊢
      omega
    refine Evn.succ (fun _ => rfl) ?_
    simp only [runs_Unfold_string.l1]
    refine Evn.pos (by omega) (Evn.pos (by omega) (Evn.pos (by omega) ?_))
    rw [trT_at rs i hi']
    obtain ⟨m, hm⟩ : ∃ m : Nat, (rs[i]).f1 = m := ⟨(rs[i]).f1.toNat, by omega⟩
    have hm2 : (tpr rs[i]).2 = m := by show (rs[i]).f1.toNat = m; omega
    rw [hm2] at h1
    rw [show unf ([] : List (ByteArray × Nat)) = [] from rfl, List.append_nil] at h1
    have h2 := tunf_l2 rs i (by omega) m (rs[i]).f0 (rs[i]).f1 hm (rs.length : Int) _ _ (by omega) h1 m 0 (by omega) (by omega)
    rw [List.replicate_zero, List.append_nil] at h2
    rw [← hm] at h2
    exact h2
theorem tunf_l0 (rs : List S42) (hl : rs.length < 140737488355328) (hv : ∀ s ∈ rs, -9223372036854775808 ≤ s.f1 ∧ s.f1 ≤ 9223372036854775807) (d : Nat) : ∀ i : Nat, i + d = rs.length → (∀ s ∈ rs.take i, 1 ≤ s.f1) →
    ∃ out e, Evn (fun k => runs_Unfold_string.l0 k rs (min (tsm (rs.take i)) 16777217 : Nat) rs (rs.length : Int) (i : Int)) (out, e) ∧ ((e = 0 ∧ (∀ s ∈ rs, 1 ≤ s.f1) ∧ tsm rs ≤ 16777216 ∧ out = unf (rs.map tpr)) ∨ (e ≠ 0 ∧ out = [] ∧ ¬ ((∀ s ∈ rs, 1 ≤ s.f1) ∧ tsm rs ≤ 16777216))) := by
  induction d with
  | zero =>
    intro i hi h1
    rw [List.take_of_length_le (by omega)] at h1 ⊢
    by_cases hs : tsm rs ≤ 16777216
    · refine ⟨unf (rs.map tpr), 0, Evn.succ (fun _ => rfl) ?_, .inl ⟨rfl, h1, hs, rfl⟩⟩
      simp only [runs_Unfold_string.l0]
      refine Evn.neg (by omega) (Evn.neg (by omega) (Evn.pos (by omega) (Evn.pos (by omega) ?_)))
      have := tunf_l1 rs hl h1 hs rs.length 0 (by omega)
      simpa [unf] using this
    · refine ⟨[], 3, Evn.succ (fun _ => rfl) ?_, .inr ⟨by decide, rfl, fun h => hs h.2⟩⟩
      simp only [runs_Unfold_string.l0]
      exact Evn.neg (by omega) (Evn.pos (by omega) (Evn.now _))
  | succ d ih =>
    intro i hi h1
    have hi' : i < rs.length := by omega
    have hvi := hv _ (List.getElem_mem hi')
    by_cases hp : (rs[i]).f1 < 1
    · refine ⟨[], 100, Evn.succ (fun _ => rfl) ?_, .inr ⟨by decide, rfl, fun h => by have := h.1 _ (List.getElem_mem hi'); omega⟩⟩
      simp only [runs_Unfold_string.l0]
      rw [trT_at rs i hi']
      exact Evn.pos (by omega) (Evn.pos (by omega) (Evn.pos (by omega) (Evn.pos hp (Evn.now _))))
    · obtain ⟨out, e, he, hc⟩ := ih (i + 1) (by omega) (fun s hs => by
        rw [List.take_succ_eq_append_getElem hi'] at hs
        rcases List.mem_append.1 hs with hs | hs
        · exact h1 s hs
        · obtain rfl : s = rs[i] := by simpa using hs
          omega)
      refine ⟨out, e, Evn.succ (fun _ => rfl) ?_, hc⟩
      simp only [runs_Unfold_string.l0]
      rw [trT_at rs i hi']
      refine Evn.pos (by omega) (Evn.pos (by omega) (Evn.pos (by omega) (Evn.neg hp ?_)))
      have es : tsm (rs.take (i + 1)) = tsm (rs.take i) + (rs[i]).f1.toNat := by
        rw [List.take_succ_eq_append_getElem hi', tsm_app]
        simp [tsm]
      rw [es] at he
      have em : mn (wrap64 (((min (tsm (rs.take i)) 16777217 : Nat) : Int) + mn (rs[i]).f1 16777217)) 16777217 = ((min (tsm (rs.take i) + (rs[i]).f1.toNat) 16777217 : Nat) : Int) := by
        have a1 : mn (rs[i]).f1 16777217 = min (rs[i]).f1 16777217 := by unfold mn; split <;> omega
        rw [a1, wrap64_in (by omega) (by omega)]
        unfold mn
        split <;> omega
      rw [em, wrap64_in (n := (i : Int) + 1) (by omega) (by omega), show (i : Int) + 1 = ((i + 1 : Nat) : Int) by omega]
      exact he
theorem tunf_e (rs : List S42) (hl : rs.length < 140737488355328) (hv : ∀ s ∈ rs, -9223372036854775808 ≤ s.f1 ∧ s.f1 ≤ 9223372036854775807) : ∃ out e, Evn (fun k => runs_Unfold_string.f k rs) (out, e) ∧ ((e = 0 ∧ (∀ s ∈ rs, 1 ≤ s.f1) ∧ tsm rs ≤ 16777216 ∧ out = unf (rs.map tpr)) ∨ (e ≠ 0 ∧ out = [] ∧ ¬ ((∀ s ∈ rs, 1 ≤ s.f1) ∧ tsm rs ≤ 16777216))) := by
  have := tunf_l0 rs hl hv rs.length 0 (by omega) (by simp)
  unfold runs_Unfold_string.f
  simpa [tsm] using this
/-- What was folded is unfolded again. -/
theorem tunf_of {l : List ByteArray} {a : List S42} (ha : tFo l a) (hl : l.length ≤ 16777216) : Evn (fun k => runs_Unfold_string.f k a) (l, 0) := by
  have h0 := ha.len
  obtain ⟨out, e, h, hc⟩ := tunf_e a (by omega) (fun s hs => by have := ha.n s hs; have := ha.max s hs; omega)
  have hs : tsm a = l.length := by rw [← tsm_unf, ha.un]
  rcases hc with ⟨rfl, _, _, rfl⟩ | ⟨_, _, hn⟩
  · rw [ha.un] at h
    exact h
  · exact absurd ⟨ha.n, by omega⟩ hn
/-! same -/
theorem tsame_l0 (l : List ByteArray) (hl : l.length ≤ 1000000000) (d : Nat) : ∀ i : Nat, i + d = l.length → Evn (fun k => colonnadelaw10_same_string.l0 k l l (i : Int)) true := by
  induction d with
  | zero =>
    intro i hi
    refine Evn.succ (fun _ => rfl) ?_
    simp only [colonnadelaw10_same_string.l0]
    exact Evn.neg (by omega) (Evn.now _)
  | succ d ih =>
    intro i hi
    refine Evn.succ (fun _ => rfl) ?_
    simp only [colonnadelaw10_same_string.l0]
    refine Evn.pos (by omega) (Evn.pos (by omega) (Evn.pos (by omega) (Evn.pos trivial ?_)))
    rw [wrap64_in (n := (i : Int) + 1) (by omega) (by omega), show (i : Int) + 1 = ((i + 1 : Nat) : Int) by omega]
    exact ih (i + 1) (by omega)
theorem tsame_e (l : List ByteArray) (hl : l.length ≤ 1000000000) : Evn (fun k => colonnadelaw10_same_string.f k l l) true := by
  unfold colonnadelaw10_same_string.f
  exact Evn.pos rfl (tsame_l0 l hl l.length 0 (by omega))
theorem tsameR_l0 (l : List S42) (hl : l.length ≤ 1000000000) (d : Nat) : ∀ i : Nat, i + d = l.length → Evn (fun k => runs_Run_string_19.l0 k l l (i : Int)) true := by
  induction d with
  | zero =>
    intro i hi
    refine Evn.succ (fun _ => rfl) ?_
    simp only [runs_Run_string_19.l0]
    exact Evn.neg (by omega) (Evn.now _)
  | succ d ih =>
    intro i hi
    refine Evn.succ (fun _ => rfl) ?_
    simp only [runs_Run_string_19.l0]
    refine Evn.pos (by omega) (Evn.pos (by omega) (Evn.pos (by omega) (Evn.neg (by simp) ?_)))
    rw [wrap64_in (n := (i : Int) + 1) (by omega) (by omega), show (i : Int) + 1 = ((i + 1 : Nat) : Int) by omega]
    exact ih (i + 1) (by omega)
theorem tsameR_e (l : List S42) (hl : l.length ≤ 1000000000) : Evn (fun k => runs_Run_string_19.f k l l) true := by
  unfold runs_Run_string_19.f
  exact Evn.pos rfl (tsameR_l0 l hl l.length 0 (by omega))

/-! ### runs of numbers -/
theorem nrT_at (l : List S38) (i : Nat) (hi : i < l.length) : rd_T38 l (i : Int) = l[i] := by
  unfold rd_T38; rw [Int.toNat_natCast, List.getD_eq_getElem?_getD, List.getElem?_eq_getElem hi]; rfl
theorem ne_at (l : List Int) (i : Nat) (hi : i < l.length) : rd l (i : Int) = l[i] := by
  unfold rd; rw [Int.toNat_natCast, List.getD_eq_getElem?_getD, List.getElem?_eq_getElem hi]; rfl
def npr (s : S38) : Int × Nat := (s.f0, s.f1.toNat)
theorem npr_inj : ∀ (a b : List S38), (∀ s ∈ a, 0 ≤ s.f1) → (∀ s ∈ b, 0 ≤ s.f1) → a.map npr = b.map npr → a = b
  | [], [], _, _, _ => rfl
  | [], _ :: _, _, _, e => by simp at e
  | _ :: _, [], _, _, e => by simp at e
  | x :: a, y :: b, ha, hb, e => by
    rw [List.map_cons, List.map_cons] at e
    injection e with e1 e2
    rw [npr_inj a b (fun s hs => ha s (by simp [hs])) (fun s hs => hb s (by simp [hs])) e2]
    congr 1
    have h1 := ha x (by simp)
    have h2 := hb y (by simp)
    unfold npr at e1
    injection e1 with e3 e4
    cases x; cases y
    simp only at e3 e4 h1 h2
    rw [e3]
    congr 1
    omega
/-- r: the runs of l. -/
structure nFo (l : List Int) (r : List S38) : Prop where
  pr : Pr (r.map npr)
  un : unf (r.map npr) = l
  n : ∀ s ∈ r, 1 ≤ s.f1
theorem nFo.uniq {l : List Int} {a b : List S38} (ha : nFo l a) (hb : nFo l b) : a = b :=
  npr_inj a b (fun s hs => by have := ha.n s hs; omega) (fun s hs => by have := hb.n s hs; omega) (Pr_uniq _ _ ha.pr hb.pr (ha.un.trans hb.un.symm))
theorem nFo.len {l : List Int} {a : List S38} (ha : nFo l a) : a.length ≤ l.length := by
  have := len_le_unf (a.map npr) ha.pr.pos
  rw [ha.un, List.length_map] at this
  exact this
theorem nFo.max {l : List Int} {a : List S38} (ha : nFo l a) : ∀ s ∈ a, s.f1 ≤ l.length := fun s hs => by
  have := mem_le_unf (a.map npr) (npr s) (List.mem_map_of_mem hs)
  rw [ha.un] at this
  have h2 := ha.n s hs
  unfold npr at this
  simp only at this
  omega
theorem nFo.nil : nFo [] [] := ⟨trivial, rfl, by simp⟩
/-- The last run is of the last value. -/
theorem nFo.last {l : List Int} {v : Int} {a : List S38} (ha : nFo (l ++ [v]) a) : ∃ b s, a = b ++ [s] ∧ s.f0 = v := by
  rcases List.eq_nil_or_concat a with rfl | ⟨b, s, rfl⟩
  · have := ha.un; simp [unf] at this
  · refine ⟨b, s, by simp, ?_⟩
    have h := ha.un
    have hn := ha.n s (by simp)
    obtain ⟨m, hm⟩ : ∃ m, s.f1.toNat = m + 1 := ⟨s.f1.toNat - 1, by omega⟩
    rw [List.concat_eq_append, List.map_append, unf_app, List.map_cons, List.map_nil, unf_cons] at h
    unfold npr at h
    simp only [hm, List.replicate_succ'] at h
    simp only [unf, List.flatMap_nil, List.append_nil, ← List.append_assoc] at h
    have := List.append_inj_right' h rfl
    simpa using this
theorem nFo.push {l : List Int} {v : Int} {a : List S38} (ha : nFo l a) (hv : ∀ b s, a = b ++ [s] → s.f0 ≠ v) : nFo (l ++ [v]) (a ++ [(⟨v, 1⟩ : S38)]) := by
  refine ⟨?_, ?_, ?_⟩
  · rcases List.eq_nil_or_concat a with rfl | ⟨b, s, rfl⟩
    · exact Nat.le_refl 1
    · have h := ha.pr
      rw [List.concat_eq_append, List.map_append] at h ⊢
      rw [List.map_append]
      exact Pr_snoc (b.map npr) h (hv b s (by simp))
  · rw [List.map_append, unf_app, ha.un]
    rfl
  · intro s hs
    rcases List.mem_append.1 hs with hs | hs
    · exact ha.n s hs
    · obtain rfl : s = ⟨v, 1⟩ := by simpa using hs
      exact Int.le_refl 1
theorem nFo.more {l : List Int} {b : List S38} {s : S38} (ha : nFo l (b ++ [s])) : nFo (l ++ [s.f0]) (b ++ [(⟨s.f0, s.f1 + 1⟩ : S38)]) := by
  have hn := ha.n s (by simp)
  refine ⟨?_, ?_, ?_⟩
  · have h := ha.pr
    rw [List.map_append] at h ⊢
    exact Pr_inc (m := (s.f1 + 1).toNat) (by omega) (b.map npr) h
  · have h := ha.un
    rw [List.map_append, unf_app, List.map_cons, List.map_nil, unf_cons] at h
    rw [List.map_append, unf_app, ← h, List.map_cons, List.map_nil, unf_cons]
    unfold npr
    simp only
    rw [show (s.f1 + 1).toNat = s.f1.toNat + 1 by omega, List.replicate_succ']
    simp [unf]
  · intro x hx
    rcases List.mem_append.1 hx with hx | hx
    · exact ha.n x (by simp [hx])
    · obtain rfl : x = ⟨s.f0, s.f1 + 1⟩ := by simpa using hx
      show 1 ≤ s.f1 + 1
      omega
theorem nfold_l0 (l : List Int) (hl : l.length ≤ 1000000000) (d : Nat) : ∀ (i : Nat) (a : List S38), i + d = l.length → nFo (l.take i) a → ∃ r, nFo l r ∧ Evn (fun k => runs_Fold_int64.l0 k l a l (l.length : Int) (i : Int)) r := by
  induction d with
  | zero =>
    intro i a hi ha
    rw [List.take_of_length_le (by omega)] at ha
    refine ⟨a, ha, Evn.succ (fun _ => rfl) ?_⟩
    simp only [runs_Fold_int64.l0]
    exact Evn.neg (by omega) (Evn.now _)
  | succ d ih =>
    intro i a hi ha
    have hi' : i < l.length := by omega
    have hla := ha.len
    rw [List.length_take] at hla
    have hw : wrap64 ((i : Int) + 1) = ((i + 1 : Nat) : Int) := by rw [wrap64_in (by omega) (by omega)]; omega
    by_cases h0 : i = 0
    · subst h0
      obtain ⟨r, hr, he⟩ := ih 1 (a ++ [(⟨l[0], 1⟩ : S38)]) (by omega) (by
        have := ha.push (v := l[0]) (fun b s e => by
          have := ha.len
          rw [e] at this
          simp at this)
        rw [List.take_zero] at this
        rw [List.take_succ_eq_append_getElem hi', List.take_zero]
        exact this)
      refine ⟨r, hr, Evn.succ (fun _ => rfl) ?_⟩
      simp only [runs_Fold_int64.l0]
      rw [ne_at l 0 hi', hw]
      exact Evn.pos (by omega) (Evn.pos (by omega) (Evn.pos (by omega) (Evn.neg (by omega) (Evn.pos (by omega) he))))
    · obtain ⟨j, rfl⟩ : ∃ j, i = j + 1 := ⟨i - 1, by omega⟩
      have hj : j < l.length := by omega
      have hwj : wrap64 (((j + 1 : Nat) : Int) - 1) = (j : Int) := by rw [wrap64_in (by omega) (by omega)]; omega
      have hla0 := ha
      rw [List.take_succ_eq_append_getElem hj] at hla0
      obtain ⟨b, s, rfl, hs⟩ := hla0.last
      have hbl : (b ++ [s]).length = b.length + 1 := by simp
      have hwa : wrap64 (((b ++ [s]).length : Int) - 1) = (b.length : Int) := by rw [wrap64_in (by omega) (by omega)]; omega
      by_cases hv : l[j + 1] = l[j]
      · have hmax := ha.max s (by simp)
        have hmin := ha.n s (by simp)
        rw [List.length_take] at hmax
        have hrs : rd_T38 (b ++ [s]) (b.length : Int) = s := by
          rw [nrT_at _ _ (by simp)]
          simp
        obtain ⟨r, hr, he⟩ := ih (j + 1 + 1) (b ++ [(⟨s.f0, s.f1 + 1⟩ : S38)]) (by omega) (by
          rw [List.take_succ_eq_append_getElem hi', hv, ← hs]
          exact ha.more)
        refine ⟨r, hr, Evn.succ (fun _ => rfl) ?_⟩
        simp only [runs_Fold_int64.l0]
        rw [hwj, hwa, ne_at l (j + 1) hi', ne_at l j hj, hw, hrs, wrap64_in (n := s.f1 + 1) (by omega) (by omega), show (b ++ [s]).set ((b.length : Int)).toNat (⟨s.f0, s.f1 + 1⟩ : S38) = b ++ [(⟨s.f0, s.f1 + 1⟩ : S38)] by rw [Int.toNat_natCast, List.set_append_right _ _ (Nat.le_refl _)]; simp]
        exact Evn.pos (by omega) (Evn.pos (by omega) (Evn.pos (by omega) (Evn.pos (by omega) (Evn.pos (by omega) (Evn.pos (by omega) (Evn.pos (id hv) (Evn.pos (by omega) (Evn.pos (by omega) he))))))))
      · obtain ⟨r, hr, he⟩ := ih (j + 1 + 1) (b ++ [s] ++ [(⟨l[j + 1], 1⟩ : S38)]) (by omega) (by
          rw [List.take_succ_eq_append_getElem hi']
          refine ha.push (fun b2 s2 e => ?_)
          have := List.append_inj_right' e rfl
          obtain rfl : s = s2 := by simpa using this
          rw [hs]
          exact fun e => hv e.symm)
        refine ⟨r, hr, Evn.succ (fun _ => rfl) ?_⟩
        simp only [runs_Fold_int64.l0]
        rw [hwj, ne_at l (j + 1) hi', ne_at l j hj, hw]
        exact Evn.pos (by omega) (Evn.pos (by omega) (Evn.pos (by omega) (Evn.pos (by omega) (Evn.pos (by omega) (Evn.pos (by omega) (Evn.neg (fun e => hv (id e)) (Evn.pos (by omega) he)))))))
theorem nfold_e (l : List Int) (hl : l.length ≤ 1000000000) : ∃ r, nFo l r ∧ Evn (fun k => runs_Fold_int64.f k l) r :=
  nfold_l0 l hl l.length 0 [] (by omega) nFo.nil
/-! unfolding -/
def nsm (l : List S38) : Nat := (l.map fun s => s.f1.toNat).sum
theorem nsm_app (a b : List S38) : nsm (a ++ b) = nsm a + nsm b := by unfold nsm; rw [List.map_append, List.sum_append]
theorem nsm_unf (l : List S38) : (unf (l.map npr)).length = nsm l := by rw [unf_len, List.map_map]; rfl
theorem nunf_l2 (rs : List S38) (j : Nat) (hj : (j : Int) ≤ 140737488355328) (n : Nat) (v : Int) (x5 : Int) (hx5 : x5 = n) (y : Int) (r : List Int × Int) (out : List Int) (hn : n ≤ 16777216) (hr : Evn (fun k => runs_Unfold_int64.l1 k (out ++ List.replicate n v) rs y ((j + 1 : Nat) : Int)) r) (d : Nat) : ∀ i, i + d = n → out.length + n ≤ 16777216 →
    Evn (fun k => runs_Unfold_int64.l2 k (out ++ List.replicate i v) rs y (j : Int) (n : Int) (i : Int) v x5) r := by
  induction d with
  | zero =>
    intro i hi _
    obtain rfl : i = n := by omega
    refine Evn.succ (fun _ => rfl) ?_
    simp only [runs_Unfold_int64.l2]
    refine Evn.neg (by omega) ?_
    rw [wrap64_in (n := (j : Int) + 1) (by omega) (by omega), show (j : Int) + 1 = ((j + 1 : Nat) : Int) by omega]
    exact hr
  | succ d ih =>
    intro i hi ho
    refine Evn.succ (fun _ => rfl) ?_
    simp only [runs_Unfold_int64.l2]
    refine Evn.pos (by omega) (Evn.pos (by rw [List.length_append, List.length_replicate]; omega) ?_)
    rw [wrap64_in (n := (i : Int) + 1) (by omega) (by omega), show (i : Int) + 1 = ((i + 1 : Nat) : Int) by omega, List.append_assoc, ← List.replicate_succ']
    exact ih (i + 1) (by omega) ho
theorem nunf_l1 (rs : List S38) (hl : rs.length < 140737488355328) (hn : ∀ s ∈ rs, 1 ≤ s.f1) (hs : nsm rs ≤ 16777216) (d : Nat) : ∀ i : Nat, i + d = rs.length → Evn (fun k => runs_Unfold_int64.l1 k (unf ((rs.take i).map npr)) rs (rs.length : Int) (i : Int)) (unf (rs.map npr), 0) := by
  induction d with
  | zero =>
    intro i hi
    rw [List.take_of_length_le (by omega)]
    refine Evn.succ (fun _ => rfl) ?_
    simp only [runs_Unfold_int64.l1]
    exact Evn.neg (by omega) (Evn.now _)
  | succ d ih =>
    intro i hi
    have hi' : i < rs.length := by omega
    have hp := hn _ (List.getElem_mem hi')
    have h1 := ih (i + 1) (by omega)
    rw [List.take_succ_eq_append_getElem hi', List.map_append, unf_app, List.map_cons, List.map_nil, unf_cons] at h1
    have hmem := mem_le_unf (rs.map npr) (npr rs[i]) (List.mem_map_of_mem (List.getElem_mem hi'))
    rw [nsm_unf] at hmem
    have hle : (unf ((rs.take i).map npr)).length + (rs[i]).f1.toNat ≤ 16777216 := by
      have e := nsm_app (rs.take i) (rs.drop i)
      rw [List.take_append_drop] at e
      rw [nsm_unf]
      rw [List.drop_eq_getElem_cons hi'] at e
      simp only [nsm, List.map_cons, List.sum_cons] at e hs ⊢
      omega
    refine Evn.succ (fun _ => rfl) ?_
    simp only [runs_Unfold_int64.l1]
    refine Evn.pos (by omega) (Evn.pos (by omega) (Evn.pos (by omega) ?_))
    rw [nrT_at rs i hi']
    obtain ⟨m, hm⟩ : ∃ m : Nat, (rs[i]).f1 = m := ⟨(rs[i]).f1.toNat, by omega⟩
    have hm2 : (npr rs[i]).2 = m := by show (rs[i]).f1.toNat = m; omega
    rw [hm2] at h1
    rw [show unf ([] : List (Int × Nat)) = [] from rfl, List.append_nil] at h1
    have h2 := nunf_l2 rs i (by omega) m (rs[i]).f0 (rs[i]).f1 hm (rs.length : Int) _ _ (by omega) h1 m 0 (by omega) (by omega)
    rw [List.replicate_zero, List.append_nil] at h2
    rw [← hm] at h2
    exact h2
theorem nunf_l0 (rs : List S38) (hl : rs.length < 140737488355328) (hv : ∀ s ∈ rs, -9223372036854775808 ≤ s.f1 ∧ s.f1 ≤ 9223372036854775807) (d : Nat) : ∀ i : Nat, i + d = rs.length → (∀ s ∈ rs.take i, 1 ≤ s.f1) →
    ∃ out e, Evn (fun k => runs_Unfold_int64.l0 k rs (min (nsm (rs.take i)) 16777217 : Nat) rs (rs.length : Int) (i : Int)) (out, e) ∧ ((e = 0 ∧ (∀ s ∈ rs, 1 ≤ s.f1) ∧ nsm rs ≤ 16777216 ∧ out = unf (rs.map npr)) ∨ (e ≠ 0 ∧ out = [] ∧ ¬ ((∀ s ∈ rs, 1 ≤ s.f1) ∧ nsm rs ≤ 16777216))) := by
  induction d with
  | zero =>
    intro i hi h1
    rw [List.take_of_length_le (by omega)] at h1 ⊢
    by_cases hs : nsm rs ≤ 16777216
    · refine ⟨unf (rs.map npr), 0, Evn.succ (fun _ => rfl) ?_, .inl ⟨rfl, h1, hs, rfl⟩⟩
      simp only [runs_Unfold_int64.l0]
      refine Evn.neg (by omega) (Evn.neg (by omega) (Evn.pos (by omega) (Evn.pos (by omega) ?_)))
      have := nunf_l1 rs hl h1 hs rs.length 0 (by omega)
      simpa [unf] using this
    · refine ⟨[], 3, Evn.succ (fun _ => rfl) ?_, .inr ⟨by decide, rfl, fun h => hs h.2⟩⟩
      simp only [runs_Unfold_int64.l0]
      exact Evn.neg (by omega) (Evn.pos (by omega) (Evn.now _))
  | succ d ih =>
    intro i hi h1
    have hi' : i < rs.length := by omega
    have hvi := hv _ (List.getElem_mem hi')
    by_cases hp : (rs[i]).f1 < 1
    · refine ⟨[], 100, Evn.succ (fun _ => rfl) ?_, .inr ⟨by decide, rfl, fun h => by have := h.1 _ (List.getElem_mem hi'); omega⟩⟩
      simp only [runs_Unfold_int64.l0]
      rw [nrT_at rs i hi']
      exact Evn.pos (by omega) (Evn.pos (by omega) (Evn.pos (by omega) (Evn.pos hp (Evn.now _))))
    · obtain ⟨out, e, he, hc⟩ := ih (i + 1) (by omega) (fun s hs => by
        rw [List.take_succ_eq_append_getElem hi'] at hs
        rcases List.mem_append.1 hs with hs | hs
        · exact h1 s hs
        · obtain rfl : s = rs[i] := by simpa using hs
          omega)
      refine ⟨out, e, Evn.succ (fun _ => rfl) ?_, hc⟩
      simp only [runs_Unfold_int64.l0]
      rw [nrT_at rs i hi']
      refine Evn.pos (by omega) (Evn.pos (by omega) (Evn.pos (by omega) (Evn.neg hp ?_)))
      have es : nsm (rs.take (i + 1)) = nsm (rs.take i) + (rs[i]).f1.toNat := by
        rw [List.take_succ_eq_append_getElem hi', nsm_app]
        simp [nsm]
      rw [es] at he
      have em : mn (wrap64 (((min (nsm (rs.take i)) 16777217 : Nat) : Int) + mn (rs[i]).f1 16777217)) 16777217 = ((min (nsm (rs.take i) + (rs[i]).f1.toNat) 16777217 : Nat) : Int) := by
        have a1 : mn (rs[i]).f1 16777217 = min (rs[i]).f1 16777217 := by unfold mn; split <;> omega
        rw [a1, wrap64_in (by omega) (by omega)]
        unfold mn
        split <;> omega
      rw [em, wrap64_in (n := (i : Int) + 1) (by omega) (by omega), show (i : Int) + 1 = ((i + 1 : Nat) : Int) by omega]
      exact he
theorem nunf_e (rs : List S38) (hl : rs.length < 140737488355328) (hv : ∀ s ∈ rs, -9223372036854775808 ≤ s.f1 ∧ s.f1 ≤ 9223372036854775807) : ∃ out e, Evn (fun k => runs_Unfold_int64.f k rs) (out, e) ∧ ((e = 0 ∧ (∀ s ∈ rs, 1 ≤ s.f1) ∧ nsm rs ≤ 16777216 ∧ out = unf (rs.map npr)) ∨ (e ≠ 0 ∧ out = [] ∧ ¬ ((∀ s ∈ rs, 1 ≤ s.f1) ∧ nsm rs ≤ 16777216))) := by
  have := nunf_l0 rs hl hv rs.length 0 (by omega) (by simp)
  unfold runs_Unfold_int64.f
  simpa [nsm] using this
/-- What was folded is unfolded again. -/
theorem nunf_of {l : List Int} {a : List S38} (ha : nFo l a) (hl : l.length ≤ 16777216) : Evn (fun k => runs_Unfold_int64.f k a) (l, 0) := by
  have h0 := ha.len
  obtain ⟨out, e, h, hc⟩ := nunf_e a (by omega) (fun s hs => by have := ha.n s hs; have := ha.max s hs; omega)
  have hs : nsm a = l.length := by rw [← nsm_unf, ha.un]
  rcases hc with ⟨rfl, _, _, rfl⟩ | ⟨_, _, hn⟩
  · rw [ha.un] at h
    exact h
  · exact absurd ⟨ha.n, by omega⟩ hn
/-! same -/
theorem nsame_l0 (l : List Int) (hl : l.length ≤ 1000000000) (d : Nat) : ∀ i : Nat, i + d = l.length → Evn (fun k => colonnadelaw10_same_int64.l0 k l l (i : Int)) true := by
  induction d with
  | zero =>
    intro i hi
    refine Evn.succ (fun _ => rfl) ?_
    simp only [colonnadelaw10_same_int64.l0]
    exact Evn.neg (by omega) (Evn.now _)
  | succ d ih =>
    intro i hi
    refine Evn.succ (fun _ => rfl) ?_
    simp only [colonnadelaw10_same_int64.l0]
    refine Evn.pos (by omega) (Evn.pos (by omega) (Evn.pos (by omega) (Evn.pos trivial ?_)))
    rw [wrap64_in (n := (i : Int) + 1) (by omega) (by omega), show (i : Int) + 1 = ((i + 1 : Nat) : Int) by omega]
    exact ih (i + 1) (by omega)
theorem nsame_e (l : List Int) (hl : l.length ≤ 1000000000) : Evn (fun k => colonnadelaw10_same_int64.f k l l) true := by
  unfold colonnadelaw10_same_int64.f
  exact Evn.pos rfl (nsame_l0 l hl l.length 0 (by omega))
theorem nsameR_l0 (l : List S38) (hl : l.length ≤ 1000000000) (d : Nat) : ∀ i : Nat, i + d = l.length → Evn (fun k => runs_Run_int64_17.l0 k l l (i : Int)) true := by
  induction d with
  | zero =>
    intro i hi
    refine Evn.succ (fun _ => rfl) ?_
    simp only [runs_Run_int64_17.l0]
    exact Evn.neg (by omega) (Evn.now _)
  | succ d ih =>
    intro i hi
    refine Evn.succ (fun _ => rfl) ?_
    simp only [runs_Run_int64_17.l0]
    refine Evn.pos (by omega) (Evn.pos (by omega) (Evn.pos (by omega) (Evn.neg (by simp) ?_)))
    rw [wrap64_in (n := (i : Int) + 1) (by omega) (by omega), show (i : Int) + 1 = ((i + 1 : Nat) : Int) by omega]
    exact ih (i + 1) (by omega)
theorem nsameR_e (l : List S38) (hl : l.length ≤ 1000000000) : Evn (fun k => runs_Run_int64_17.f k l l) true := by
  unfold runs_Run_int64_17.f
  exact Evn.pos rfl (nsameR_l0 l hl l.length 0 (by omega))

/-! ### a run at a place -/
theorem at_l0 (rs : List S42) (hl : rs.length < 1000000000) (hn : ∀ s ∈ rs, 1 ≤ s.f1 ∧ s.f1 ≤ 16777216) (d : Nat) : ∀ (j m : Nat), j + d = rs.length → m ≤ 1000000000 →
    Evn (fun k => runs_At_string.l0 k (m : Int) (⟨#[]⟩ : ByteArray) rs (rs.length : Int) (j : Int)) (match (unf ((rs.drop j).map tpr))[m]? with | some v => (v, true) | none => ((⟨#[]⟩ : ByteArray), false)) := by
  induction d with
  | zero =>
    intro j m hj hm
    rw [List.drop_eq_nil_of_le (by omega)]
    refine Evn.succ (fun _ => rfl) ?_
    simp only [runs_At_string.l0]
    exact Evn.neg (by omega) (Evn.now _)
  | succ d ih =>
    intro j m hj hm
    have hj' : j < rs.length := by omega
    have hp := hn _ (List.getElem_mem hj')
    have e2 : (tpr rs[j]).2 = (rs[j]).f1.toNat := rfl
    have e1 : (tpr rs[j]).1 = (rs[j]).f0 := rfl
    rw [List.drop_eq_getElem_cons hj', List.map_cons, unf_cons, e2, e1]
    refine Evn.succ (fun _ => rfl) ?_
    simp only [runs_At_string.l0]
    refine Evn.pos (by omega) (Evn.pos (by omega) (Evn.pos (by omega) ?_))
    rw [trT_at rs j hj']
    by_cases h : (m : Int) < (rs[j]).f1
    · refine Evn.pos h ?_
      rw [List.getElem?_append_left (by rw [List.length_replicate]; omega), List.getElem?_replicate, if_pos (by omega)]
      exact Evn.now _
    · refine Evn.neg h ?_
      have em : mx (rs[j]).f1 0 = (rs[j]).f1 := by unfold mx; rw [if_neg (by omega)]
      rw [List.getElem?_append_right (by rw [List.length_replicate]; omega), List.length_replicate, em, wrap64_in (n := (m : Int) - (rs[j]).f1) (by omega) (by omega), wrap64_in (n := (j : Int) + 1) (by omega) (by omega), show (m : Int) - (rs[j]).f1 = ((m - (rs[j]).f1.toNat : Nat) : Int) by omega, show (j : Int) + 1 = ((j + 1 : Nat) : Int) by omega]
      exact ih (j + 1) (m - (rs[j]).f1.toNat) (by omega) (by omega)
theorem at_e {l : List ByteArray} {a : List S42} (ha : tFo l a) (hl : l.length ≤ 16777216) (m : Nat) (hm : m ≤ 1000000000) : Evn (fun k => runs_At_string.f k a (m : Int)) (match l[m]? with | some v => (v, true) | none => ((⟨#[]⟩ : ByteArray), false)) := by
  have h := at_l0 a (by have := ha.len; omega) (fun s hs => ⟨ha.n s hs, by have := ha.max s hs; omega⟩) a.length 0 m (by omega) hm
  rw [List.drop_zero, ha.un] at h
  unfold runs_At_string.f
  exact Evn.neg (by omega) h
end Go.Proofs.Ythlpkdmandcngaa.Pa
