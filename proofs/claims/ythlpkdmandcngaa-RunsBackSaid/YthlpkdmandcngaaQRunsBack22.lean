/- The texts of RunsBack, merged: part 22. -/
import Derived.Test.YthlpkdmandcngaaQRunsBack8
/- Runs, plainly: what they mean, the proper ones, the fewest. -/
namespace Go.Proofs.Ythlpkdmandcngaa.L
set_option linter.unusedVariables false
set_option linter.unusedSimpArgs false
open Go.RowKit Go.Proofs.YthlpkdmandcngaaW.PrintWords Go.Proofs.YthlpkdmandcngaaW.PrintLast Go.Proofs.YthlpkdmandcngaaW.PrintMore
theorem Evn.up {α : Type} {g : Nat → Option α} {r : α} (K : Nat) (hm : ∀ k, LeO (g k) (g (k + 1))) (h : g K = some r) : Evn g r := by
  refine ⟨K, fun k hk => ?_⟩
  obtain ⟨d, rfl⟩ : ∃ d, k = K + d := ⟨k - K, by omega⟩
  clear hk
  induction d with
  | zero => exact h
  | succ d ih => exact hm _ _ ih
theorem tl_inj {a b : ByteArray} (h : a.toList = b.toList) : a = b := by
  rw [ByteArray.toList_eq, ByteArray.toList_eq] at h
  exact ByteArray.ext (Array.toList_inj.1 h)
section
variable {α : Type}
/-- What runs mean. -/
def unf (rs : List (α × Nat)) : List α := rs.flatMap fun r => List.replicate r.2 r.1
theorem unf_cons (r : α × Nat) (rs : List (α × Nat)) : unf (r :: rs) = List.replicate r.2 r.1 ++ unf rs := by simp [unf]
theorem unf_app (a b : List (α × Nat)) : unf (a ++ b) = unf a ++ unf b := by simp [unf]
/-- Proper runs: none is empty, no two neighbours are of the same value. -/
def Pr : List (α × Nat) → Prop
  | [] => True
  | [r] => 1 ≤ r.2
  | r :: s :: t => 1 ≤ r.2 ∧ r.1 ≠ s.1 ∧ Pr (s :: t)
theorem Pr.tail {r : α × Nat} : ∀ {t : List (α × Nat)}, Pr (r :: t) → Pr t
  | [], _ => trivial
  | _ :: _, h => h.2.2
theorem Pr.hd {r : α × Nat} : ∀ {t : List (α × Nat)}, Pr (r :: t) → 1 ≤ r.2
  | [], h => h
  | _ :: _, h => h.1
theorem Pr.pos : ∀ {rs : List (α × Nat)}, Pr rs → ∀ r ∈ rs, 1 ≤ r.2
  | [], _, r, hr => by simp at hr
  | s :: t, h, r, hr => by
    rcases List.mem_cons.1 hr with rfl | hr
    · exact h.hd
    · exact Pr.pos h.tail r hr
theorem unf_first {r : α × Nat} {t : List (α × Nat)} (h : 1 ≤ r.2) : ∃ u, unf (r :: t) = r.1 :: u := by
  obtain ⟨n, hn⟩ : ∃ n, r.2 = n + 1 := ⟨r.2 - 1, by omega⟩
  exact ⟨List.replicate n r.1 ++ unf t, by rw [unf_cons, hn, List.replicate_succ, List.cons_append]⟩
theorem Pr.next {r : α × Nat} {t : List (α × Nat)} (h : Pr (r :: t)) : ∀ y l, unf t = y :: l → y ≠ r.1 := by
  intro y l e
  cases t with
  | nil => simp [unf] at e
  | cons s t =>
    obtain ⟨u, hu⟩ := unf_first (t := t) h.tail.hd
    rw [hu] at e
    injection e with e1 _
    rw [← e1]
    exact fun he => h.2.1 he.symm
theorem rep_inj {x : α} : ∀ (m n : Nat) (u w : List α), (∀ y l, u = y :: l → y ≠ x) → (∀ y l, w = y :: l → y ≠ x) → List.replicate m x ++ u = List.replicate n x ++ w → m = n ∧ u = w
  | 0, 0, u, w, _, _, e => ⟨rfl, by simpa using e⟩
  | 0, n + 1, u, w, hu, _, e => by
    rw [List.replicate_zero, List.nil_append, List.replicate_succ, List.cons_append] at e
    exact absurd rfl (hu x _ e)
  | m + 1, 0, u, w, _, hw, e => by
    rw [List.replicate_zero, List.nil_append, List.replicate_succ, List.cons_append] at e
    exact absurd rfl (hw x _ e.symm)
  | m + 1, n + 1, u, w, hu, hw, e => by
    rw [List.replicate_succ, List.cons_append, List.replicate_succ, List.cons_append] at e
    injection e with _ e
    obtain ⟨rfl, h⟩ := rep_inj m n u w hu hw e
    exact ⟨rfl, h⟩
theorem Pr_uniq : ∀ (a b : List (α × Nat)), Pr a → Pr b → unf a = unf b → a = b
  | [], [], _, _, _ => rfl
  | [], s :: b, _, hb, e => by
    obtain ⟨u, hu⟩ := unf_first (t := b) hb.hd
    rw [hu] at e
    simp [unf] at e
  | r :: a, [], ha, _, e => by
    obtain ⟨u, hu⟩ := unf_first (t := a) ha.hd
    rw [hu] at e
    simp [unf] at e
  | r :: a, s :: b, ha, hb, e => by
    obtain ⟨u, hu⟩ := unf_first (t := a) ha.hd
    obtain ⟨v, hv⟩ := unf_first (t := b) hb.hd
    have e0 := e
    rw [hu, hv] at e0
    injection e0 with e1 _
    rw [unf_cons, unf_cons, e1] at e
    obtain ⟨e2, e3⟩ := rep_inj r.2 s.2 (unf a) (unf b) (by have := ha.next; rw [e1] at this; exact this) hb.next e
    have e4 := Pr_uniq a b ha.tail hb.tail e3
    rw [e4]
    congr 1
    exact Prod.ext e1 e2
theorem Pr_snoc {v : α} {r : α × Nat} : ∀ (a : List (α × Nat)), Pr (a ++ [r]) → r.1 ≠ v → Pr (a ++ [r] ++ [(v, 1)])
  | [], h, hv => ⟨h, hv, Nat.le_refl 1⟩
  | [s], h, hv => ⟨h.1, h.2.1, Pr_snoc [] h.2.2 hv⟩
  | s :: t :: a, h, hv => ⟨h.1, h.2.1, Pr_snoc (t :: a) h.2.2 hv⟩
theorem Pr_inc {x : α} {n m : Nat} (hm : 1 ≤ m) : ∀ (a : List (α × Nat)), Pr (a ++ [(x, n)]) → Pr (a ++ [(x, m)])
  | [], _ => hm
  | [s], h => ⟨h.1, h.2.1, Pr_inc hm [] h.2.2⟩
  | s :: t :: a, h => ⟨h.1, h.2.1, Pr_inc hm (t :: a) h.2.2⟩
theorem unf_len (rs : List (α × Nat)) : (unf rs).length = (rs.map (·.2)).sum := by
  induction rs with
  | nil => rfl
  | cons r rs ih => rw [unf_cons, List.length_append, List.length_replicate, ih, List.map_cons, List.sum_cons]
theorem len_le_unf : ∀ (rs : List (α × Nat)), (∀ r ∈ rs, 1 ≤ r.2) → rs.length ≤ (unf rs).length
  | [], _ => Nat.le_refl _
  | r :: rs, h => by
    have h1 := len_le_unf rs (fun s hs => h s (by simp [hs]))
    have h2 := h r (by simp)
    rw [unf_cons, List.length_append, List.length_replicate, List.length_cons]
    omega
theorem mem_le_unf : ∀ (rs : List (α × Nat)), ∀ r ∈ rs, r.2 ≤ (unf rs).length
  | [], r, hr => by simp at hr
  | s :: rs, r, hr => by
    rw [unf_cons, List.length_append, List.length_replicate]
    rcases List.mem_cons.1 hr with rfl | hr
    · omega
    · have := mem_le_unf rs r hr; omega
/-- Runs put together. -/
def norm [DecidableEq α] : List (α × Nat) → List (α × Nat)
  | [] => []
  | r :: rs => if r.2 = 0 then norm rs else match norm rs with
    | [] => [r]
    | s :: t => if s.1 = r.1 then (r.1, r.2 + s.2) :: t else r :: s :: t
theorem norm_spec [DecidableEq α] : ∀ rs : List (α × Nat), Pr (norm rs) ∧ unf (norm rs) = unf rs ∧ (norm rs).length ≤ rs.length
  | [] => ⟨trivial, rfl, Nat.le_refl _⟩
  | r :: rs => by
    obtain ⟨h1, h2, h3⟩ := norm_spec rs
    rw [norm]
    by_cases h0 : r.2 = 0
    · rw [if_pos h0]
      refine ⟨h1, ?_, by rw [List.length_cons]; omega⟩
      rw [unf_cons, h0, h2]
      rfl
    · rw [if_neg h0]
      rcases hn : norm rs with _ | ⟨s, t⟩
      · rw [hn] at h2 h3
        refine ⟨by show 1 ≤ r.2; omega, ?_, by simp⟩
        rw [unf_cons, unf_cons, ← h2]
      · rw [hn] at h1 h2 h3
        by_cases hs : s.1 = r.1
        · simp only [if_pos hs]
          refine ⟨?_, ?_, by simp only [List.length_cons] at h3 ⊢; omega⟩
          · cases t with
            | nil => show 1 ≤ r.2 + s.2; omega
            | cons u t => exact ⟨by show 1 ≤ r.2 + s.2; omega, by have := h1.2.1; rw [hs] at this; exact this, h1.2.2⟩
          · rw [unf_cons, unf_cons, ← h2, unf_cons, hs, ← List.append_assoc, List.replicate_append_replicate]
        · simp only [if_neg hs]
          refine ⟨⟨by omega, fun e => hs e.symm, h1⟩, ?_, by simp only [List.length_cons] at h3 ⊢; omega⟩
          rw [unf_cons, h2, unf_cons]
/-- Of all runs that mean the same the proper ones are the fewest. -/
theorem Pr_least [DecidableEq α] {a b : List (α × Nat)} (ha : Pr a) (e : unf a = unf b) : a.length ≤ b.length := by
  obtain ⟨h1, h2, h3⟩ := norm_spec b
  rw [Pr_uniq a (norm b) ha h1 (e.trans h2.symm)]
  exact h3
end
end Go.Proofs.Ythlpkdmandcngaa.L
