/- BloomBuilds: of any size and any values Build answers the document's filter or refusal, the list that is handed in stays as it was; three times, the same memory holding others each time. No conditions. -/
import Derived.Test.YtgmeefgihidomaaPa13
import Derived.Test.YtgmeefgihidomaaB2
import Derived.Test.YtgmeefgihidomaaOp
namespace Go.Proofs.Ytgmeefgihidomaa.B
open Go.RowKit Go.Proofs.Ytgmeefgihidomaa.Pa Go.Proofs.Ytgmeefgihidomaa.L Go.Proofs.YtgmeefgihidomaaW.PrintWords Go.Proofs.YtgmeefgihidomaaW.PrintLast Go.Proofs.YtgmeefgihidomaaW.PrintMore
/-- What is to be in a list: words, and texts not past some length. -/
def Wds (m : Nat) (l : List S40) : Prop := ∀ v ∈ l, Wd v ∧ v.f3.size ≤ 140737488351232 + m
theorem wds_set {m : Nat} {l : List S40} (h : Wds m l) (i : Nat) (v : S40) (hv : Wd v ∧ v.f3.size ≤ 140737488351232 + m) : Wds m (l.set i v) := fun x hx => by
  rcases List.mem_or_eq_of_mem_set hx with h1 | h1
  · exact h x h1
  · rw [h1]; exact hv
theorem builds_l1 (x0 x6 : Int) (R : Bool) (n m : Nat) (hn : n < 3518437208883) (hm : m < 1000)
    (hR : ∀ x : List S40, x.length = n → Wds (m + 1) x → Evn (fun k => colonnadelaw13_BloomBuilds.l0 k x0 x (wrap64 (x6 + 1))) R) :
    ∀ (d j : Nat) (x : List S40), j + d = n → x.length = n → (∀ v ∈ x, Wd v) → Wds m (x.drop j) → Wds (m + 1) (x.take j) → Evn (fun k => colonnadelaw13_BloomBuilds.l1 k x0 x x6 (j : Int)) R := by
  intro d
  induction d with
  | zero =>
    intro j x e hx _ h1 h2
    refine Evn.succ (fun _ => rfl) ?_
    simp only [colonnadelaw13_BloomBuilds.l1]
    refine Evn.neg (by omega) (hR x hx ?_)
    rw [List.take_of_length_le (by omega)] at h2
    exact h2
  | succ d ih =>
    intro j x e hx hw h1 h2
    refine Evn.succ (fun _ => rfl) ?_
    simp only [colonnadelaw13_BloomBuilds.l1]
    have hj : j < x.length := by omega
    rw [rd_T_nat, getD_lt hj, w1 (by omega), Int.toNat_natCast]
    have hd : (x.drop j) = x[j] :: x.drop (j + 1) := List.drop_eq_getElem_cons hj
    have hv := h1 x[j] (by rw [hd]; exact List.mem_cons_self)
    have h1' : Wds m (x.drop (j + 1)) := fun v hv => h1 v (by rw [hd]; exact List.mem_cons_of_mem _ hv)
    have hset : ∀ v : S40, Wd v ∧ v.f3.size ≤ 140737488351232 + (m + 1) → Evn (fun k => colonnadelaw13_BloomBuilds.l1 k x0 (x.set j v) x6 ((j + 1 : Nat) : Int)) R := by
      intro v hv
      refine ih (j + 1) (x.set j v) (by omega) (by simp [hx]) ?_ ?_ ?_
      · intro y hy
        rcases List.mem_or_eq_of_mem_set hy with h | h
        · exact hw y h
        · rw [h]; exact hv.1
      · rw [List.drop_set_of_lt (by omega)]; exact h1'
      · rw [List.take_succ_eq_append_getElem (by simp; omega), List.take_set_of_le (Nat.le_refl _)]
        intro y hy
        rcases List.mem_append.1 hy with h | h
        · exact h2 y h
        · rw [List.mem_singleton.1 h, List.getElem_set_self]; exact hv
    have hstay : Evn (fun k => colonnadelaw13_BloomBuilds.l1 k x0 x x6 ((j + 1 : Nat) : Int)) R := by
      refine ih (j + 1) x (by omega) hx hw h1' ?_
      rw [List.take_succ_eq_append_getElem hj]
      intro y hy
      rcases List.mem_append.1 hy with h | h
      · exact h2 y h
      · rw [List.mem_singleton.1 h]; exact ⟨hv.1, by omega⟩
    refine Evn.pos (by omega) (Evn.pos (by omega) ?_)
    by_cases c1 : x[j].f0 = 1
    · exact Evn.pos c1 (hset _ ⟨hv.1, by have := hv.2; simp only; omega⟩)
    · refine Evn.neg c1 ?_
      by_cases c2 : x[j].f0 = 2
      · refine Evn.pos c2 (Evn.pos (by omega) (hset _ ⟨hv.1, ?_⟩))
        have := hv.2
        simp only [ByteArray.size_append]
        show _ + 1 ≤ _
        omega
      · exact Evn.neg c2 hstay
end Go.Proofs.Ytgmeefgihidomaa.B
namespace Go.Proofs.Ytgmeefgihidomaa.Pure
set_option linter.unusedVariables false
open Go.RowKit Go.Proofs.Ytgmeefgihidomaa.Pa Go.Proofs.Ytgmeefgihidomaa.L Go.Proofs.Ytgmeefgihidomaa.B Go.Proofs.YtgmeefgihidomaaW.PrintWords Go.Proofs.YtgmeefgihidomaaW.PrintLast Go.Proofs.YtgmeefgihidomaaW.PrintMore
theorem BloomBuilds (a0 : Int) (l1 : (List S40)) (h0 : (Lit.int .i64 a0).wf = true) (h1 : (l1.length * 40 ≤ 140737488351232 ∧ ∀ y0_ ∈ l1, okS40 y0_)) : ∃ k, colonnadelaw13_BloomBuilds.f k a0 l1 = some true := by
  apply Evn.ex
  unfold colonnadelaw13_BloomBuilds.f colonnadelaw13_lentValues.f
  simp only [if_pos (show l1.length + 3 < 3518437208883 by omega), Option.bind_some]
  have hw : Wds 0 l1 := fun v hv => by
    have := h1.2 v hv
    refine ⟨?_, this.2.2.2⟩
    have h2 := this.2.2.1
    show v.f2 < 18446744073709551616
    simpa [Lit.wf] using h2
  have step : ∀ (d t : Nat) (x : List S40), t + d = 3 → x.length = l1.length → Wds t x → Evn (fun k => colonnadelaw13_BloomBuilds.l0 k a0 x (t : Int)) true := by
    intro d
    induction d with
    | zero =>
      intro t x e hx hw
      refine Evn.succ (fun _ => rfl) ?_
      simp only [colonnadelaw13_BloomBuilds.l0]
      exact Evn.neg (by omega) (Evn.now _)
    | succ d ih =>
      intro t x e hx hw
      refine Evn.succ (fun _ => rfl) ?_
      simp only [colonnadelaw13_BloomBuilds.l0, List.nil_append, Option.bind_some]
      refine Evn.pos (by omega) (Evn.pos (by simp; omega) ?_)
      refine Evn.bind (ref_build a0 x (by omega) (fun v hv => (hw v hv).1)) (Evn.bind (build_any a0 x (by omega) (fun v hv => (hw v hv).1)) (Evn.pos rfl (Evn.pos rfl (Evn.bind (kept_same x (by omega)) ?_))))
      refine Evn.succ (fun _ => rfl) ?_
      simp only [colonnadelaw13_BloomBuilds.j1]
      refine Evn.neg (by decide) ?_
      refine builds_l1 a0 t true l1.length t (by omega) (by omega) (fun y hy hwy => ?_) l1.length 0 x (by omega) hx (fun v hv => (hw v hv).1) (by simpa using hw) (fun v hv => by simp at hv)
      rw [w1 (by omega)]
      exact ih (t + 1) y (by omega) hy hwy
  exact step 3 0 l1 rfl rfl hw
end Go.Proofs.Ytgmeefgihidomaa.Pure
