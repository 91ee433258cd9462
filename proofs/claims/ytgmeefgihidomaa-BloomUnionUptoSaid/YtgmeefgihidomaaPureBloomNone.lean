/- BloomNone: of any size number and any lists of values each value that was put into a filter is found in it and in its Join with any other filter of the size. Conditions: none beyond what arguments are. -/
import Derived.Test.YtgmeefgihidomaaPa46
import Derived.Test.YtgmeefgihidomaaOp
import Derived.Test.YtgmeefgihidomaaB
namespace Go.Proofs.Ytgmeefgihidomaa.B
set_option linter.unusedSimpArgs false
open Go.RowKit Go.Proofs.Ytgmeefgihidomaa.Pa Go.Proofs.Ytgmeefgihidomaa.L Go.Proofs.YtgmeefgihidomaaW.PrintWords Go.Proofs.YtgmeefgihidomaaW.PrintLast Go.Proofs.YtgmeefgihidomaaW.PrintMore

/-! ### the law's own functions -/
/-- The sizes. -/
theorem fits : ∀ t : Nat, t < 14 → Fit (8 * 2 ^ t) ∧ Fit8 (8 * 2 ^ t) := by unfold Fit Fit8; decide +kernel
theorem shl8 : ∀ t : Nat, t < 14 → shl .i64 8 (IntKind.u64.wrap (t : Int)) = ((8 * 2 ^ t : Nat) : Int) := by decide +kernel
theorem size (a0 : Int) : ∃ n : Nat, colonnadelaw13_size.f a0 = some (n : Int) ∧ Fit n ∧ Fit8 n := by
  unfold colonnadelaw13_size.f colonnadelaw13_pick.f
  rw [if_neg (by omega)]
  have key : ∀ t : Nat, t < 14 → (some (t : Int)).bind (fun t448 => if 0 ≤ IntKind.u64.wrap t448 then some (shl .i64 8 (IntKind.u64.wrap t448)) else none) = some ((8 * 2 ^ t : Nat) : Int) := by
    intro t ht
    rw [Option.bind_some, if_pos (by rw [u64_in (by omega) (by omega)]; omega), shl8 t ht]
  have h1 := Int.tmod_lt_of_pos a0 (show (0 : Int) < 14 by omega)
  have h2 : -14 < Int.tmod a0 14 := by have := Int.tmod_add_mul_tdiv a0 14; rcases Int.le_total 0 a0 with h | h
                                       · rw [Int.tmod_eq_emod_of_nonneg h]; omega
                                       · have := Int.neg_tmod a0 14; rw [Int.tmod_eq_emod_of_nonneg (show 0 ≤ -a0 by omega)] at this; omega
  by_cases hc : Int.tmod a0 14 < 0
  · rw [if_pos hc, wrap64_in (by omega) (by omega)]
    obtain ⟨t, ht⟩ := Int.eq_ofNat_of_zero_le (show 0 ≤ Int.tmod a0 14 + 14 by omega)
    rw [ht]
    exact ⟨8 * 2 ^ t, key t (by omega), fits t (by omega)⟩
  · rw [if_neg hc]
    obtain ⟨t, ht⟩ := Int.eq_ofNat_of_zero_le (show 0 ≤ Int.tmod a0 14 by omega)
    rw [ht]
    exact ⟨8 * 2 ^ t, key t (by omega), fits t (by omega)⟩
def ok (v : S40) : Prop := Cnt v ∧ v.f3.size ≤ 140737488351232
theorem values_l0 (l : List S40) (hl : l.length < 3518437208883) : ∀ (d j : Nat) (x : List S40), j + d = l.length → x.length ≤ j → (∀ v ∈ x, ok v) →
    ∃ r, Evn (fun k => colonnadelaw13_values.l0 k l x (j : Int)) r ∧ r.length ≤ l.length ∧ ∀ v ∈ r, ok v := by
  intro d
  induction d with
  | zero =>
    intro j x e hx ho
    refine ⟨x, Evn.succ (fun _ => rfl) ?_, by omega, ho⟩
    simp only [colonnadelaw13_values.l0]
    exact Evn.neg (by omega) (Evn.now _)
  | succ d ih =>
    intro j x e hx ho
    have hj : j < l.length := by omega
    by_cases h1 : l[j].f0 = 1
    · obtain ⟨r, hr, h2⟩ := ih (j + 1) (x ++ [⟨1, l[j].f1, 0, ⟨#[]⟩⟩]) (by omega) (by simp; omega) (by
        intro v hv
        rcases List.mem_append.1 hv with h | h
        · exact ho v h
        · rw [List.mem_singleton.1 h]; exact ⟨⟨Or.inl ⟨rfl, by simp [ByteArray.toList_eq]⟩, rfl⟩, Nat.zero_le _⟩)
      refine ⟨r, Evn.succ (fun _ => rfl) ?_, h2⟩
      simp only [colonnadelaw13_values.l0]
      rw [rd_T_nat, getD_lt hj, w1 (by omega)]
      exact Evn.pos (by omega) (Evn.pos (by omega) (Evn.pos h1 (Evn.pos (by omega) hr)))
    · by_cases h3 : (l[j].f3.size : Int) ≤ 65535
      · obtain ⟨r, hr, h2⟩ := ih (j + 1) (x ++ [⟨2, 0, 0, l[j].f3⟩]) (by omega) (by simp; omega) (by
          intro v hv
          rcases List.mem_append.1 hv with h | h
          · exact ho v h
          · rw [List.mem_singleton.1 h]; exact ⟨⟨Or.inr ⟨rfl, rfl, by simp; omega⟩, rfl⟩, by simp; omega⟩)
        refine ⟨r, Evn.succ (fun _ => rfl) ?_, h2⟩
        simp only [colonnadelaw13_values.l0]
        rw [rd_T_nat, getD_lt hj, w1 (by omega)]
        exact Evn.pos (by omega) (Evn.pos (by omega) (Evn.neg h1 (Evn.pos h3 (Evn.pos (by omega) hr))))
      · obtain ⟨r, hr, h2⟩ := ih (j + 1) x (by omega) (by omega) ho
        refine ⟨r, Evn.succ (fun _ => rfl) ?_, h2⟩
        simp only [colonnadelaw13_values.l0]
        rw [rd_T_nat, getD_lt hj, w1 (by omega)]
        exact Evn.pos (by omega) (Evn.pos (by omega) (Evn.neg h1 (Evn.neg h3 hr)))
theorem values (l : List S40) (hl : l.length < 3518437208883) : ∃ r, Evn (fun k => colonnadelaw13_values.f k l) r ∧ r.length ≤ l.length ∧ ∀ v ∈ r, ok v :=
  values_l0 l hl l.length 0 [] (by omega) (by simp) (fun v hv => by simp at hv)

/-! ### what is found -/
theorem hs_flt {n : Nat} (h : Fit n) (l : List S40) {v : S40} (hv : v ∈ l) : hs (flt n l) v = true := by
  unfold hs
  rw [flt_len, List.all_eq_true]
  intro p hp
  have := pls_range h v p hp
  rw [flt_bit h l p this.1 this.2, List.any_eq_true]
  exact ⟨v, hv, decide_eq_true hp⟩
theorem hs_none {n : Nat} (h : Fit n) (v : S40) : hs (flt n []) v = false := by
  unfold hs
  rw [flt_len]
  have hr := pls_range h v
  obtain ⟨p, t, e⟩ := pls_cons v n
  rw [e] at hr ⊢
  have hp := hr p (by simp)
  rw [List.all_cons, flt_bit h [] p hp.1 hp.2]
  rfl
theorem hs_jn {n : Nat} (h : Fit n) {a b : List Int} (ha : Bytes a) (hb : Bytes b) (hla : a.length = n) (hlb : b.length = n) {v : S40} (hv : hs a v = true ∨ hs b v = true) : hs (jn a b) v = true := by
  have h2 := h.2.1
  unfold hs at *
  rw [jn_len (by omega), List.all_eq_true]
  rw [hla, hlb] at hv
  rw [hla]
  intro p hp
  have hr := pls_range h v p hp
  rw [bit_jn ha hb (by omega) (by omega) p hr.1 (by omega), Bool.or_eq_true]
  rcases hv with hv | hv
  · exact Or.inl (List.all_eq_true.1 hv p hp)
  · exact Or.inr (List.all_eq_true.1 hv p hp)
/-- The first check. -/
theorem awake : Evn (fun k => colonnadelaw13_awake.f k) true := by
  have hF := fits 3 (by omega)
  have hF1 : Fit 64 := hF.1
  have hF8 : Fit8 64 := hF.2
  have hv : ok ⟨1, 5, 0, ⟨#[]⟩⟩ := ⟨⟨Or.inl ⟨rfl, by simp [ByteArray.toList_eq]⟩, rfl⟩, by decide⟩
  have hw : ok ⟨2, 0, 0, ⟨#[97]⟩⟩ := ⟨⟨Or.inr ⟨rfl, rfl, by decide⟩, rfl⟩, by decide⟩
  generalize hvd : (⟨1, 5, 0, ⟨#[]⟩⟩ : S40) = v at hv
  generalize hwd : (⟨2, 0, 0, ⟨#[97]⟩⟩ : S40) = w at hw
  have lb := flt_len 64 [v, w]
  have lc := flt_len 64 []
  unfold colonnadelaw13_awake.f
  refine Evn.bind (buildf hF1 hF8 _ (by simp) (by
    intro x hx
    simp only [hvd, hwd, List.mem_cons, List.not_mem_nil, or_false] at hx
    rcases hx with rfl | rfl
    · exact hv
    · exact hw)) ?_
  refine Evn.bind (buildf hF1 hF8 _ (by simp) (by intro x hx; simp at hx)) ?_
  simp only [hvd, hwd]
  refine Evn.pos (by trivial) (Evn.pos (by trivial) (Evn.pos (by rw [lb]; rfl) ?_))
  refine Evn.succ (fun _ => rfl) ?_
  simp only [colonnadelaw13_awake.j0]
  refine Evn.neg (by rw [lc]; decide) ?_
  have h1 := has (b := flt 64 [v, w]) (by rw [lb]; exact hF1) (by rw [lb]; exact hF8) hv
  have h2 := has (b := flt 64 [v, w]) (by rw [lb]; exact hF1) (by rw [lb]; exact hF8) hw
  have h3 := has (b := flt 64 []) (by rw [lc]; exact hF1) (by rw [lc]; exact hF8) hv
  have h4 := all (b := flt 64 [v, w]) (by rw [lb]; exact hF1) (by rw [lb]; exact hF8) [w, v] (by simp) (by
    intro x hx
    simp only [List.mem_cons, List.not_mem_nil, or_false] at hx
    rcases hx with rfl | rfl
    · exact hw
    · exact hv)
  have h5 := all (b := flt 64 []) (by rw [lc]; exact hF1) (by rw [lc]; exact hF8) [w] (by simp) (by
    intro x hx
    simp only [List.mem_cons, List.not_mem_nil, or_false] at hx
    subst hx; exact hw)
  rw [hs_flt hF1 _ (by simp)] at h1 h2
  rw [hs_none hF1] at h3
  rw [show [w, v].all (hs (flt 64 [v, w])) = true by simp [hs_flt hF1]] at h4
  rw [show [w].all (hs (flt 64 [])) = false by simp [hs_none hF1]] at h5
  have e1 : v.f0 = 1 ∧ v.f1 = 5 ∧ v.f2 = 0 ∧ v.f3 = ⟨#[]⟩ := by subst hvd; exact ⟨rfl, rfl, rfl, rfl⟩
  have e2 : w.f0 = 2 ∧ w.f1 = 0 ∧ w.f2 = 0 ∧ w.f3 = ⟨#[97]⟩ := by subst hwd; exact ⟨rfl, rfl, rfl, rfl⟩
  rw [e1.1, e1.2.1, e1.2.2.1, e1.2.2.2] at h1 h3
  rw [e2.1, e2.2.1, e2.2.2.1, e2.2.2.2] at h2
  simp only [hvd, hwd]
  refine Evn.bind h1 (Evn.pos (by trivial) ?_)
  refine Evn.bind h2 (Evn.pos (by trivial) ?_)
  refine Evn.bind h3 (Evn.neg (by decide) ?_)
  refine Evn.bind h4 (Evn.pos (by trivial) ?_)
  refine Evn.bind h5 (Evn.neg (by decide) ?_)
  have hne : ((strOfNums (flt 64 [v, w])).toList != (strOfNums (flt 64 [])).toList) = true := by
    rw [bne, str_beq (flt_bytes hF1 _) (flt_bytes hF1 _), Bool.not_eq_true', beq_eq_false_iff_ne]
    intro e
    have a := hs_flt hF1 [v, w] (v := v) (by simp)
    rw [e, hs_none hF1] at a
    exact Bool.noConfusion a
  rw [hne]
  exact Evn.now _
end Go.Proofs.Ytgmeefgihidomaa.B
namespace Go.Proofs.Ytgmeefgihidomaa.Pure
open Go.RowKit Go.Proofs.Ytgmeefgihidomaa.Pa Go.Proofs.Ytgmeefgihidomaa.L Go.Proofs.Ytgmeefgihidomaa.B Go.Proofs.YtgmeefgihidomaaW.PrintWords Go.Proofs.YtgmeefgihidomaaW.PrintLast Go.Proofs.YtgmeefgihidomaaW.PrintMore
theorem BloomNone (a0 : Int) (l1 : (List S40)) (l2 : (List S40)) (h0 : (Lit.int .i64 a0).wf = true) (h1 : (l1.length * 40 ≤ 140737488351232 ∧ ∀ y0_ ∈ l1, okS40 y0_)) (h2 : (l2.length * 40 ≤ 140737488351232 ∧ ∀ y0_ ∈ l2, okS40 y0_)) : ∃ k, colonnadelaw13_BloomNone.f k a0 l1 l2 = some true := by
  apply Evn.ex
  obtain ⟨n, hn, hF, hF8⟩ := size a0
  obtain ⟨a, ha, hal, hao⟩ := values l1 (by omega)
  obtain ⟨c, hc, hcl, hco⟩ := values l2 (by omega)
  unfold colonnadelaw13_BloomNone.f
  refine Evn.bind awake (Evn.pos (by trivial) ?_)
  refine Evn.bind ha ?_
  simp only [hn, Option.bind_some]
  refine Evn.bind (buildf hF hF8 a (by omega) hao) (Evn.bind hc (Evn.bind (buildf hF hF8 c (by omega) hco) ?_))
  have lb := flt_len n a
  have lc := flt_len n c
  have all1 := all (b := flt n a) (by rw [lb]; exact hF) (by rw [lb]; exact hF8) a (by omega) hao
  rw [show a.all (hs (flt n a)) = true from List.all_eq_true.2 fun v hv => hs_flt hF a hv] at all1
  refine Evn.pos (by trivial) (Evn.pos (by trivial) (Evn.pos (by rw [lb]) ?_))
  refine Evn.bind all1 ?_
  refine Evn.succ (fun _ => rfl) ?_
  simp only [colonnadelaw13_BloomNone.j0]
  refine Evn.neg (by decide) ?_
  have step : ∀ (d j : Nat), j + d = a.length → Evn (fun k => colonnadelaw13_BloomNone.l0 k a0 l2 a (flt n a) (flt n c) (j : Int)) true := by
    intro d
    induction d with
    | zero =>
      intro j e
      refine Evn.succ (fun _ => rfl) ?_
      simp only [colonnadelaw13_BloomNone.l0]
      refine Evn.neg (by omega) ?_
      have hj := join hF [flt n c, flt n a] (by simp) (by
        intro b hb
        simp only [List.mem_cons, List.not_mem_nil, or_false] at hb
        rcases hb with rfl | rfl
        · exact lc
        · exact lb)
      refine Evn.bind hj ?_
      rw [if_neg (by simp)]
      simp only [List.foldl_cons, List.foldl_nil, hn, Option.bind_some]
      have lz : (List.replicate n (0 : Int)).length = n := by simp
      have l1' : (jn (List.replicate n 0) (flt n c)).length = n := by rw [jn_len (by omega), lz]
      have l2' : (jn (jn (List.replicate n 0) (flt n c)) (flt n a)).length = n := by rw [jn_len (by omega), l1']
      refine Evn.pos (by trivial) (Evn.pos (by rw [l2']) ?_)
      have A : ∀ v ∈ a, hs (jn (jn (List.replicate n 0) (flt n c)) (flt n a)) v = true := fun v hv =>
        hs_jn hF jn_bytes (flt_bytes hF a) l1' lb (Or.inr (hs_flt hF a hv))
      have C : ∀ v ∈ c, hs (jn (jn (List.replicate n 0) (flt n c)) (flt n a)) v = true := fun v hv =>
        hs_jn hF jn_bytes (flt_bytes hF a) l1' lb (Or.inl (hs_jn hF (zeros n) (flt_bytes hF c) lz lc (Or.inr (hs_flt hF c hv))))
      have aa := all (b := jn (jn (List.replicate n 0) (flt n c)) (flt n a)) (by rw [l2']; exact hF) (by rw [l2']; exact hF8) a (by omega) hao
      have ac := all (b := jn (jn (List.replicate n 0) (flt n c)) (flt n a)) (by rw [l2']; exact hF) (by rw [l2']; exact hF8) c (by omega) hco
      rw [List.all_eq_true.2 A] at aa
      rw [List.all_eq_true.2 C] at ac
      refine Evn.bind aa (Evn.pos (by trivial) ?_)
      refine Evn.bind hc (Evn.bind ac (Evn.now _))
    | succ d ih =>
      intro j e
      have hj : j < a.length := by omega
      refine Evn.succ (fun _ => rfl) ?_
      simp only [colonnadelaw13_BloomNone.l0]
      have hh := has (b := flt n a) (by rw [lb]; exact hF) (by rw [lb]; exact hF8) (hao _ (List.getElem_mem hj))
      rw [hs_flt hF a (List.getElem_mem hj)] at hh
      rw [rd_T_nat, getD_lt hj, w1 (by omega)]
      refine Evn.pos (by omega) (Evn.pos (by omega) (Evn.bind hh (Evn.pos (by trivial) ?_)))
      exact ih (j + 1) (by omega)
  exact step a.length 0 (by omega)
end Go.Proofs.Ytgmeefgihidomaa.Pure
