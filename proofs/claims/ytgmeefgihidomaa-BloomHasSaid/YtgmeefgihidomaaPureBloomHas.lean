/- BloomHas: of any bytes and values Has and All answer as the document's, what is handed in stays as it was; three times, the same memory holding others each time. No conditions. -/
import Derived.Test.YtgmeefgihidomaaPa21
import Derived.Test.YtgmeefgihidomaaB2
import Derived.Test.YtgmeefgihidomaaOp
namespace Go.Proofs.Ytgmeefgihidomaa.B
open Go.RowKit Go.Proofs.Ytgmeefgihidomaa.Pa Go.Proofs.Ytgmeefgihidomaa.L Go.Proofs.YtgmeefgihidomaaW.PrintWords Go.Proofs.YtgmeefgihidomaaW.PrintLast Go.Proofs.YtgmeefgihidomaaW.PrintMore
theorem has_l3 (x7 : Int) (R : Bool) (b : List Int) (n : Nat) (hn : n < 3518437208883)
    (hR : ∀ x : List S40, x.length = n → (∀ v ∈ x, Wd v) → Evn (fun k => colonnadelaw13_BloomHas.l0 k b x (wrap64 (x7 + 1))) R) :
    ∀ (d j : Nat) (x : List S40), j + d = n → x.length = n → (∀ v ∈ x, Wd v) → Evn (fun k => colonnadelaw13_BloomHas.l3 k b x x7 (j : Int)) R := by
  intro d
  induction d with
  | zero =>
    intro j x e hx hw
    refine Evn.succ (fun _ => rfl) ?_
    simp only [colonnadelaw13_BloomHas.l3]
    exact Evn.neg (by omega) (hR x hx hw)
  | succ d ih =>
    intro j x e hx hw
    refine Evn.succ (fun _ => rfl) ?_
    simp only [colonnadelaw13_BloomHas.l3]
    have hj : j < x.length := by omega
    rw [rd_T_nat, getD_lt hj, w1 (by omega), Int.toNat_natCast]
    refine Evn.pos (by omega) (Evn.pos (by omega) ?_)
    by_cases c1 : x[j].f0 = 1
    · refine Evn.pos c1 (ih (j + 1) _ (by omega) (by simp [hx]) ?_)
      intro y hy
      rcases List.mem_or_eq_of_mem_set hy with h | h
      · exact hw y h
      · rw [h]
        have h3 := hw x[j] (List.getElem_mem hj)
        exact h3
    · exact Evn.neg c1 (ih (j + 1) x (by omega) hx hw)
theorem has_l2 (x7 : Int) (R : Bool) (x : List S40) (hx : x.length < 3518437208883) (hw : ∀ v ∈ x, Wd v) (n : Nat) (hn : n < 140737488355328)
    (hR : ∀ (b : List Int) (x : List S40), b.length = n → x.length < 3518437208883 → (∀ v ∈ x, Wd v) → Evn (fun k => colonnadelaw13_BloomHas.l0 k b x (wrap64 (x7 + 1))) R) :
    ∀ (d j : Nat) (b : List Int), j + d = n → b.length = n → Evn (fun k => colonnadelaw13_BloomHas.l2 k b x x7 (j : Int)) R := by
  intro d
  induction d with
  | zero =>
    intro j b e hb
    refine Evn.succ (fun _ => rfl) ?_
    simp only [colonnadelaw13_BloomHas.l2]
    exact Evn.neg (by omega) (has_l3 x7 R b x.length hx (fun y hy hwy => hR b y hb (by omega) hwy) x.length 0 x (by omega) rfl hw)
  | succ d ih =>
    intro j b e hb
    refine Evn.succ (fun _ => rfl) ?_
    simp only [colonnadelaw13_BloomHas.l2]
    rw [w1 (by omega)]
    exact Evn.pos (by omega) (Evn.pos (by omega) (ih (j + 1) _ (by omega) (by simp [hb])))
theorem keptb_same (l : List Int) (hl : l.length < 140737488355328) : colonnadelaw13_kept.f l l = some true := by
  unfold colonnadelaw13_kept.f
  rw [if_pos hl]
  simp
theorem has_l1 (x7 : Int) (R : Bool) (x : List S40) (hx : x.length < 3518437208883) (hw : ∀ v ∈ x, Wd v) (b : List Int) (hb : b.length < 140737488355328)
    (hR : Evn (fun k => colonnadelaw13_BloomHas.l2 k b x x7 0) R) :
    ∀ (d j : Nat), j + d = x.length → Evn (fun k => colonnadelaw13_BloomHas.l1 k b x x7 b x (j : Int)) R := by
  intro d
  induction d with
  | zero =>
    intro j e
    refine Evn.succ (fun _ => rfl) ?_
    simp only [colonnadelaw13_BloomHas.l1]
    exact Evn.neg (by omega) hR
  | succ d ih =>
    intro j e
    refine Evn.succ (fun _ => rfl) ?_
    simp only [colonnadelaw13_BloomHas.l1]
    have hj : j < x.length := by omega
    have hv := hw _ (List.getElem_mem hj)
    rw [rd_T_nat, getD_lt hj, w1 (by omega)]
    refine Evn.pos (by omega) (Evn.pos (by omega) (Evn.bind (has_any b hv) (Evn.pos (by omega) (Evn.bind (ref_has b hv) (Evn.neg (by simp) ?_)))))
    exact Evn.bindc (keptb_same b hb) (Evn.pos rfl (ih (j + 1) (by omega)))
end Go.Proofs.Ytgmeefgihidomaa.B
namespace Go.Proofs.Ytgmeefgihidomaa.Pure
set_option linter.unusedVariables false
open Go.RowKit Go.Proofs.Ytgmeefgihidomaa.Pa Go.Proofs.Ytgmeefgihidomaa.L Go.Proofs.Ytgmeefgihidomaa.B Go.Proofs.YtgmeefgihidomaaW.PrintWords Go.Proofs.YtgmeefgihidomaaW.PrintLast Go.Proofs.YtgmeefgihidomaaW.PrintMore
theorem BloomHas (l0 : (List Int)) (l1 : (List S40)) (h0 : (l0.length * 1 ≤ 140737488351232 ∧ ∀ y0_ ∈ l0, (Lit.int .u8 y0_).wf = true)) (h1 : (l1.length * 40 ≤ 140737488351232 ∧ ∀ y0_ ∈ l1, okS40 y0_)) : ∃ k, colonnadelaw13_BloomHas.f k l0 l1 = some true := by
  apply Evn.ex
  unfold colonnadelaw13_BloomHas.f colonnadelaw13_lentValues.f colonnadelaw13_lent.f
  simp only [if_pos (show l1.length + 3 < 3518437208883 by omega), if_pos (show l0.length + 20 ≤ 140737488355328 by omega), Option.bind_some]
  have hw : ∀ v ∈ l1, Wd v := fun v hv => by
    have h2 := (h1.2 v hv).2.2.1
    show v.f2 < 18446744073709551616
    simpa [Lit.wf] using h2
  have step : ∀ (d t : Nat) (b : List Int) (x : List S40), t + d = 3 → b.length = l0.length → x.length < 3518437208883 → (∀ v ∈ x, Wd v) → Evn (fun k => colonnadelaw13_BloomHas.l0 k b x (t : Int)) true := by
    intro d
    induction d with
    | zero =>
      intro t b x e hb hx hw
      refine Evn.succ (fun _ => rfl) ?_
      simp only [colonnadelaw13_BloomHas.l0]
      exact Evn.neg (by omega) (Evn.now _)
    | succ d ih =>
      intro t b x e hb hx hw
      refine Evn.succ (fun _ => rfl) ?_
      simp only [colonnadelaw13_BloomHas.l0, List.nil_append, Option.bind_some]
      refine Evn.pos (by omega) (Evn.pos (by simp; omega) (Evn.pos (by simpa using hx) ?_))
      have ha := all_any b x (by omega) hw
      refine Evn.bind ha.1 (Evn.bind ha.2 (Evn.neg (by simp) (Evn.bindc (keptb_same b (by omega)) (Evn.pos rfl (Evn.bind (kept_same x hx) ?_)))))
      refine Evn.succ (fun _ => rfl) ?_
      simp only [colonnadelaw13_BloomHas.j1]
      refine Evn.neg (by decide) ?_
      refine has_l1 t true x hx hw b (by omega) ?_ x.length 0 (by omega)
      refine has_l2 t true x hx hw b.length (by omega) (fun c y hc hy hwy => ?_) b.length 0 b (by omega) rfl
      rw [w1 (by omega)]
      exact ih (t + 1) c y (by omega) (by omega) hy hwy
  exact step 3 0 l0 l1 rfl rfl (by omega) hw
end Go.Proofs.Ytgmeefgihidomaa.Pure
