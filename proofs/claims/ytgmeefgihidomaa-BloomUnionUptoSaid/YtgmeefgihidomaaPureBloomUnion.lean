/- BloomUnion: of any size number and any lists of values, together of bulk at most 1048576, the filter of all values is the Join of the lists' filters, whatever the order. -/
import Derived.Test.YtgmeefgihidomaaPa47
import Derived.Test.YtgmeefgihidomaaPureBloomNone
namespace Go.Proofs.Ytgmeefgihidomaa.B
set_option linter.unusedSimpArgs false
open Go.RowKit Go.Proofs.Ytgmeefgihidomaa.Pa Go.Proofs.Ytgmeefgihidomaa.L Go.Proofs.Ytgmeefgihidomaa.O Go.Proofs.YtgmeefgihidomaaW.PrintWords Go.Proofs.YtgmeefgihidomaaW.PrintLast Go.Proofs.YtgmeefgihidomaaW.PrintMore

theorem flt_congr {n : Nat} (h : Fit n) {a b : List S40} (hab : ∀ v, v ∈ a ↔ v ∈ b) : flt n a = flt n b := by
  have la := flt_len n a
  have lb := flt_len n b
  have h2 := h.2.1
  refine bits_ext (flt_bytes h a) (flt_bytes h b) (by omega) (by omega) (fun q h0 h1 => ?_)
  rw [flt_bit h a q h0 (by omega), flt_bit h b q h0 (by omega), Bool.eq_iff_iff, List.any_eq_true, List.any_eq_true]
  constructor
  · rintro ⟨v, hv, hq⟩; exact ⟨v, (hab v).1 hv, hq⟩
  · rintro ⟨v, hv, hq⟩; exact ⟨v, (hab v).2 hv, hq⟩
theorem joins_spec {n : Nat} (h : Fit n) : ∀ (fs : List (List Int)) (b : List Int), Bytes b → b.length = n → (∀ f ∈ fs, Bytes f ∧ f.length = n) →
    Bytes (fs.foldl jn b) ∧ (fs.foldl jn b).length = n ∧ ∀ q : Int, 0 ≤ q → q < 8 * n → bit (fs.foldl jn b) q = (bit b q || fs.any fun f => bit f q) := by
  intro fs
  induction fs with
  | nil => intro b hB hb _; exact ⟨hB, hb, fun q _ _ => by simp⟩
  | cons f fs ih =>
    intro b hB hb hf
    have h2 := h.2.1
    have h0 := hf f (by simp)
    have hl : (jn b f).length = n := by rw [jn_len (by omega), hb]
    obtain ⟨r1, r2, r3⟩ := ih (jn b f) jn_bytes hl (fun x hx => hf x (by simp [hx]))
    refine ⟨r1, r2, fun q q0 q1 => ?_⟩
    rw [List.foldl_cons, r3 q q0 q1, bit_jn hB h0.1 (by omega) (by omega) q q0 (by omega), List.any_cons, Bool.or_assoc]
/-- The filters of some lists, put together: the filter of all. -/
theorem join_flts {n : Nat} (h : Fit n) (ls : List (List S40)) : (ls.map (flt n)).foldl jn (List.replicate n 0) = flt n ls.flatten := by
  have h2 := h.2.1
  obtain ⟨r1, r2, r3⟩ := joins_spec h (ls.map (flt n)) (List.replicate n 0) (zeros n) (by simp) (by
    intro f hf
    obtain ⟨a, _, rfl⟩ := List.mem_map.1 hf
    exact ⟨flt_bytes h a, flt_len n a⟩)
  have lb := flt_len n ls.flatten
  refine bits_ext r1 (flt_bytes h _) (by omega) (by omega) (fun q q0 q1 => ?_)
  rw [r3 q q0 (by omega), bit_zeros h2 q q0 (by omega), Bool.false_or, flt_bit h _ q q0 (by omega), Bool.eq_iff_iff, List.any_eq_true, List.any_eq_true]
  constructor
  · rintro ⟨f, hf, hq⟩
    obtain ⟨a, ha, rfl⟩ := List.mem_map.1 hf
    rw [flt_bit h a q q0 (by omega), List.any_eq_true] at hq
    obtain ⟨v, hv, hp⟩ := hq
    exact ⟨v, List.mem_flatten.2 ⟨a, ha, hv⟩, hp⟩
  · rintro ⟨v, hv, hp⟩
    obtain ⟨a, ha, hva⟩ := List.mem_flatten.1 hv
    refine ⟨flt n a, List.mem_map.2 ⟨a, ha, rfl⟩, ?_⟩
    rw [flt_bit h a q q0 (by omega), List.any_eq_true]
    exact ⟨v, hva, hp⟩
theorem bS_one (x : S40) : 1 ≤ bS40 x := by simp only [bS40]; omega
theorem len_sum (l : List S40) : l.length ≤ (l.map bS40).sum := by
  induction l with
  | nil => simp
  | cons x l ih => have := bS_one x; simp only [List.length_cons, List.map_cons, List.sum_cons]; omega
theorem lens_sum (l : List (List S40)) : (l.map List.length).sum + l.length ≤ (l.map (sumB bS40)).sum := by
  induction l with
  | nil => simp
  | cons x l ih => have := len_sum x; simp only [List.length_cons, List.map_cons, List.sum_cons, sumB] at ih ⊢; omega
theorem take_sum (l : List (List S40)) (j : Nat) (h : j < l.length) : ((l.take (j + 1)).map List.length).sum = ((l.take j).map List.length).sum + l[j].length := by
  rw [List.take_succ_eq_append_getElem h, List.map_append, List.sum_append]; simp only [List.map_cons, List.map_nil, List.sum_cons, List.sum_nil, Nat.add_zero]
theorem take_le (l : List (List S40)) (j : Nat) : ((l.take j).map List.length).sum ≤ (l.map List.length).sum := by
  have : l = l.take j ++ l.drop j := (List.take_append_drop j l).symm
  have e : (l.map List.length).sum = ((l.take j).map List.length).sum + ((l.drop j).map List.length).sum := by rw [← List.sum_append, ← List.map_append, ← this]
  omega
end Go.Proofs.Ytgmeefgihidomaa.B
namespace Go.Proofs.Ytgmeefgihidomaa.Pure
open Go.RowKit Go.Proofs.Ytgmeefgihidomaa.Pa Go.Proofs.Ytgmeefgihidomaa.L Go.Proofs.Ytgmeefgihidomaa.B Go.Proofs.Ytgmeefgihidomaa.O Go.Proofs.YtgmeefgihidomaaW.PrintWords Go.Proofs.YtgmeefgihidomaaW.PrintLast Go.Proofs.YtgmeefgihidomaaW.PrintMore
/-- The last part: all is built. -/
theorem union_l1 (a0 : Int) (l1 : List (List S40)) {n : Nat} (hn : colonnadelaw13_size.f a0 = some (n : Int)) (hF : Fit n) (hF8 : Fit8 n) (ls : List (List S40)) (hla : ls.length = l1.length) (hl1 : l1.length ≤ 1048576) (hal : ls.flatten.length ≤ 1048576) (hok : ∀ v ∈ ls.flatten, ok v) :
    ∀ (d : Nat) (back : List S40), d ≤ ls.flatten.length → back.length = 2 * (ls.flatten.length - d) → (∀ v ∈ back, v ∈ ls.flatten) → (∀ i (h : i < ls.flatten.length), d ≤ i → ls.flatten[i] ∈ back) →
      Evn (fun k => colonnadelaw13_BloomUnion.l1 k a0 l1 ls.flatten back (ls.map (B.flt n)) ((d : Int) - 1)) true := by
  generalize hall : ls.flatten = all at *
  intro d
  induction d with
  | zero =>
    intro back hd hb hin hout
    refine Evn.succ (fun _ => rfl) ?_
    simp only [colonnadelaw13_BloomUnion.l1]
    refine Evn.neg (by omega) ?_
    simp only [hn, Option.bind_some]
    have hbo : ∀ v ∈ back, ok v := fun v hv => hok v (hin v hv)
    have lo := flt_len n all
    refine Evn.bind (buildf hF hF8 all (by omega) hok) ?_
    refine Evn.bind (buildf hF hF8 back (by omega) hbo) ?_
    have e2 : B.flt n back = B.flt n all := flt_congr hF (fun v => ⟨hin v, fun hv => by
      obtain ⟨i, hi, rfl⟩ := List.getElem_of_mem hv
      exact hout i hi (by omega)⟩)
    have hj := join hF (ls.map (B.flt n)) (by simp; omega) (by
      intro b hb
      obtain ⟨a, _, rfl⟩ := List.mem_map.1 hb
      exact flt_len n a)
    refine Evn.bind hj ?_
    have hs := join hF [B.flt n all, B.flt n all, B.flt n back] (by simp) (by
      intro b hb
      simp only [List.mem_cons, List.not_mem_nil, or_false] at hb
      rcases hb with rfl | rfl | rfl
      · exact lo
      · exact lo
      · exact flt_len n back)
    refine Evn.bind hs ?_
    have e3 : [B.flt n all, B.flt n all, B.flt n back].foldl jn (List.replicate n 0) = B.flt n all := by
      have := join_flts hF [all, all, back]
      simp only [List.map_cons, List.map_nil] at this
      rw [this]
      refine flt_congr hF (fun v => ?_)
      simp only [List.flatten_cons, List.flatten_nil, List.append_nil, List.mem_append]
      constructor
      · rintro (h | h | h)
        · exact h
        · exact h
        · exact hin v h
      · exact Or.inl
    rw [if_neg (show ¬ [B.flt n all, B.flt n all, B.flt n back] = [] by simp), e3]
    refine Evn.pos (by trivial) (Evn.pos (by trivial) (Evn.pos (by trivial) (Evn.pos (by trivial) (Evn.pos (by rw [e2]) (Evn.pos (by trivial) ?_)))))
    by_cases h0 : l1.length = 0
    · have has : ls = [] := List.eq_nil_of_length_eq_zero (by omega)
      refine Evn.pos (by omega) (Evn.pos (by rw [has]; rfl) (Evn.now _))
    · refine Evn.neg (by omega) (Evn.pos (by omega) ?_)
      have has : ¬ ls.map (B.flt n) = [] := by
        intro e
        have := congrArg List.length e
        simp at this
        rw [this] at hla; simp at hla; omega
      rw [if_neg has, join_flts hF ls, hall]
      simp only [beq_self_eq_true]
      exact Evn.now _
  | succ d ih =>
    intro back hd hb hin hout
    refine Evn.succ (fun _ => rfl) ?_
    simp only [colonnadelaw13_BloomUnion.l1]
    have e0 : ((d + 1 : Nat) : Int) - 1 = (d : Int) := by omega
    have e1 : wrap64 (wrap64 ((all.length : Int) - 1) - (d : Int)) = ((all.length - 1 - d : Nat) : Int) := by
      rw [wrap64_in (n := (all.length : Int) - 1) (by omega) (by omega), wrap64_in (by omega) (by omega)]; omega
    rw [e0, e1, wrap64_in (n := (d : Int) - 1) (by omega) (by omega), rd_T_nat, rd_T_nat, getD_lt (show d < all.length by omega), getD_lt (show all.length - 1 - d < all.length by omega)]
    refine Evn.pos (by omega) (Evn.pos (by omega) (Evn.pos (by omega) (Evn.pos (by omega) (Evn.pos (by omega) ?_))))
    simp only [Option.bind_some]
    refine Evn.pos (by simp; omega) ?_
    refine ih _ (by omega) (by simp; omega) ?_ ?_
    · intro v hv
      rcases List.mem_append.1 hv with h | h
      · exact hin v h
      · simp only [List.mem_cons, List.not_mem_nil, or_false] at h
        rcases h with rfl | rfl
        · exact List.getElem_mem _
        · exact List.getElem_mem _
    · intro i hi hdi
      rw [List.mem_append]
      by_cases e : i = d
      · subst e; exact Or.inr (by simp)
      · exact Or.inl (hout i hi (by omega))
theorem BloomUnion (a0 : Int) (l1 : (List (List S40))) (h0 : (Lit.int .i64 a0).wf = true) (h1 : (l1.length * 24 ≤ 140737488351232 ∧ ∀ y0_ ∈ l1, (y0_.length * 40 ≤ 140737488351232 ∧ ∀ y1_ ∈ y0_, okS40 y1_))) (hsmall : (sumB (sumB bS40)) l1 ≤ 1048576) : ∃ k, colonnadelaw13_BloomUnion.f k a0 l1 = some true := by
  apply Evn.ex
  obtain ⟨n, hn, hF, hF8⟩ := size a0
  have hs := lens_sum l1
  have hsm : (l1.map (sumB bS40)).sum + 1 ≤ 1048576 := hsmall
  unfold colonnadelaw13_BloomUnion.f
  refine Evn.bind awake (Evn.pos (by trivial) ?_)
  have step : ∀ (d j : Nat) (ls : List (List S40)), j + d = l1.length → ls.length = j → ls.flatten.length ≤ ((l1.take j).map List.length).sum → (∀ v ∈ ls.flatten, ok v) →
      Evn (fun k => colonnadelaw13_BloomUnion.l0 k a0 l1 ls.flatten (ls.map (B.flt n)) (j : Int)) true := by
    intro d
    induction d with
    | zero =>
      intro j ls e hl hlen hok
      refine Evn.succ (fun _ => rfl) ?_
      simp only [colonnadelaw13_BloomUnion.l0]
      refine Evn.neg (by omega) ?_
      have := take_le l1 j
      rw [wrap64_in (by omega) (by omega)]
      exact union_l1 a0 l1 hn hF hF8 ls (by omega) (by omega) (by omega) hok ls.flatten.length [] (Nat.le_refl _) (by simp) (fun v hv => by simp at hv) (fun i hi hd => by omega)
    | succ d ih =>
      intro j ls e hl hlen hok
      have hj : j < l1.length := by omega
      refine Evn.succ (fun _ => rfl) ?_
      simp only [colonnadelaw13_BloomUnion.l0]
      have er : rd_L8 l1 (j : Int) = l1[j] := by unfold rd_L8; rw [Int.toNat_natCast, getD_lt hj]
      have t1 := take_le l1 j
      have t2 := take_le l1 (j + 1)
      have t3 := take_sum l1 j hj
      obtain ⟨a, ha, hal, hao⟩ := values l1[j] (by omega)
      rw [er, w1 (by omega)]
      refine Evn.pos (by omega) (Evn.pos (by omega) (Evn.bind ha ?_))
      refine Evn.pos (by omega) ?_
      simp only [hn, Option.bind_some]
      refine Evn.bind (buildf hF hF8 a (by omega) hao) ?_
      refine Evn.pos (by trivial) (Evn.pos (by simp; omega) ?_)
      have := ih (j + 1) (ls ++ [a]) (by omega) (by simp; omega) (by rw [t3, List.flatten_append, List.length_append]; simp only [List.flatten_cons, List.flatten_nil, List.append_nil]; omega) (by
        intro v hv
        simp only [List.flatten_append, List.flatten_cons, List.flatten_nil, List.append_nil, List.mem_append] at hv
        rcases hv with h | h
        · exact hok v h
        · exact hao v h)
      simp only [List.flatten_append, List.flatten_cons, List.flatten_nil, List.append_nil, List.map_append, List.map_cons, List.map_nil] at this
      exact this
  exact step l1.length 0 [] (by omega) rfl (by simp) (fun v hv => by simp at hv)
end Go.Proofs.Ytgmeefgihidomaa.Pure
