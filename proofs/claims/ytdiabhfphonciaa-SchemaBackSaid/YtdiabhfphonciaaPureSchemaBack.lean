/- SchemaBack: of any columns, other ones, and a byte: what is put of columns comes back, each name at its place; no shorter beginning and none with the byte behind is taken; other columns have another form. No conditions. -/
import Derived.Test.YtdiabhfphonciaaPa21
import Derived.Test.YtdiabhfphonciaaS6
import Derived.Test.YtdiabhfphonciaaOp
namespace Go.Proofs.Ytdiabhfphonciaa.Pa
open Go.RowKit Go.Proofs.YtdiabhfphonciaaW.PrintWords Go.Proofs.YtdiabhfphonciaaW.PrintLast Go.Proofs.YtdiabhfphonciaaW.PrintMore Go.Proofs.Ytdiabhfphonciaa.L
set_option linter.unusedVariables false
set_option linter.unusedSimpArgs false
theorem enc_prefix {l m : List S42} {rest : List Int} (hl : OK l) (hm : OK m) (h : enc l = enc m ++ rest) : l = m ∧ rest = [] := by
  have n1 := numF_sf l.length (by have := hl.2.1; omega) (encB l)
  have n2 := numF_sf m.length (by have := hm.2.1; omega) (encB m ++ rest)
  have e : sf l.length ++ encB l = sf m.length ++ (encB m ++ rest) := by rw [← List.append_assoc]; exact h
  rw [e, n2] at n1
  simp only [Sum.inr.injEq, Prod.mk.injEq] at n1
  have t1 := takeS_of l [] [] hl.2.2.1
  have t2 := takeS_of m rest [] hm.2.2.1
  have el : l.length = m.length := by omega
  rw [List.append_nil, ← n1.2, el, t2] at t1
  simp only [Option.some.injEq, Prod.mk.injEq, List.nil_append] at t1
  exact ⟨t1.1.symm, t1.2⟩
theorem enc_small {l : List S42} (h : OK l) : (enc l).length ≤ 20000 := by
  have h1 := encB_len l h.2.2.1
  have h2 := sf_len 1 l.length (by have := h.2.1; omega)
  have h3 := h.2.1
  simp only [enc, List.length_append]
  omega
theorem find_i : ∀ (l : List S42) (i : Nat) (n : Int), (l.map key).Nodup → ∀ h : i < l.length, schema_Find.i l l[i].f0 n = n + i := by
  intro l
  induction l with
  | nil => intro i n _ h; simp at h
  | cons c l ih =>
    intro i n hn h
    rw [List.map_cons, List.nodup_cons] at hn
    cases i with
    | zero => simp [schema_Find.i]
    | succ i =>
      have hi : i < l.length := by simpa using h
      have hne : ¬ c.f0.toList = l[i].f0.toList := fun e => hn.1 (List.mem_map.2 ⟨l[i], List.getElem_mem hi, by simp only [key]; rw [← ByteArray.toList_eq, ← ByteArray.toList_eq, e]⟩)
      simp only [schema_Find.i, List.getElem_cons_succ, if_neg hne]
      rw [ih i (n + 1) hn.2 hi]
      omega
theorem no_take (bs : List Int) (hb : Bytes bs) (hl : bs.length < 140737488355328) (hno : ∀ l, OK l → enc l ≠ bs) : Evn (fun k => schema_Take.f k bs) ([], 150) := by
  obtain ⟨res, ht, hr⟩ := take_f bs hb hl
  rcases hr.1 with e | ⟨l, e, h1, h2⟩
  · rw [e] at ht; exact ht
  · exact absurd h2 (hno l h1)
theorem back_l1 (x0 x1 : List S42) (x2 : Int) (R : Bool) (h0 : OK x0)
    (hR : Evn (fun k => (colonnadelaw15_twin.f (enc x0)).bind fun t318 => (if t318.length < 140737488355328 then ((schema_Take.f k (t318 ++ [x2])).bind fun bt324 => ((colonnadelaw15_columns.f x1).bind fun t328 => ((schema_Put.f k t328).bind fun bt331 => (if bt324.2 = 150 then (if bt331.2 = 0 then ((schema_Same.f k x0 x1).bind fun t335 => (some (((strOfNums bt331.1).toList == (strOfNums (enc x0)).toList) == t335))) else (some true)) else (some false))))) else (none))) R) :
    ∀ (d i : Nat), i + d = (enc x0).length → Evn (fun k => colonnadelaw15_SchemaBack.l1 k x0 x1 x2 (enc x0) (i : Int)) R := by
  have hs := enc_small h0
  intro d
  induction d with
  | zero =>
    intro i h
    refine Evn.succ (fun _ => rfl) ?_
    simp only [colonnadelaw15_SchemaBack.l1]
    exact Evn.neg (by omega) hR
  | succ d ih =>
    intro i h
    refine Evn.succ (fun _ => rfl) ?_
    simp only [colonnadelaw15_SchemaBack.l1]
    rw [twin_f _ (by simp; omega), wrapS ((i : Int) + 1) (by omega) (by omega), Int.toNat_natCast]
    simp only [Option.bind_some]
    refine Evn.pos (by omega) (Evn.pos (by omega) (Evn.pos (by omega) ?_))
    refine Evn.bind (no_take _ ((enc_bytes _ h0.2.2.1).take _) (by simp; omega) (fun l hl e => ?_)) (Evn.pos rfl (ih (i + 1) (by omega)))
    have e2 : enc x0 = enc l ++ (enc x0).drop i := by rw [e, List.take_append_drop]
    have := (enc_prefix h0 hl e2).2
    have h3 : ((enc x0).drop i).length = 0 := by rw [this]; rfl
    rw [List.length_drop] at h3
    omega
theorem back_l0 (x0 x1 : List S42) (x2 : Int) (R : Bool) (x7 : List Int) (h0 : OK x0) (hR : Evn (fun k => colonnadelaw15_SchemaBack.l1 k x0 x1 x2 x7 0) R) :
    ∀ (d i : Nat), i + d = x0.length → Evn (fun k => colonnadelaw15_SchemaBack.l0 k x0 x1 x2 x7 x0 (i : Int)) R := by
  have hs := h0.2.1
  intro d
  induction d with
  | zero =>
    intro i h
    refine Evn.succ (fun _ => rfl) ?_
    simp only [colonnadelaw15_SchemaBack.l0]
    exact Evn.neg (by omega) hR
  | succ d ih =>
    intro i h
    refine Evn.succ (fun _ => rfl) ?_
    have hi : i < x0.length := by omega
    simp only [colonnadelaw15_SchemaBack.l0]
    rw [rd_nat x0 i hi, wrapS ((i : Int) + 1) (by omega) (by omega)]
    simp only [schema_Find.f, find_i x0 i 0 h0.2.2.2 hi, Option.bind_some]
    refine Evn.pos (by omega) (Evn.pos (by omega) (Evn.pos (by omega) (Evn.neg (by simp) (Evn.pos ?_ (Evn.pos ?_ (ih (i + 1) (by omega)))))))
    · unfold mx; first | (simp; omega) | simp
    · first | (simp; omega) | simp
end Go.Proofs.Ytdiabhfphonciaa.Pa
namespace Go.Proofs.Ytdiabhfphonciaa.Pure
open Go.RowKit Go.Proofs.Ytdiabhfphonciaa.Pa Go.Proofs.Ytdiabhfphonciaa.L Go.Proofs.YtdiabhfphonciaaW.PrintWords Go.Proofs.YtdiabhfphonciaaW.PrintLast Go.Proofs.YtdiabhfphonciaaW.PrintMore
set_option linter.unusedVariables false
set_option linter.unusedSimpArgs false
open Classical in
theorem SchemaBack (l0 : (List S42)) (l1 : (List S42)) (a2 : Int) (h0 : (l0.length * 32 ≤ 140737488351232 ∧ ∀ y0_ ∈ l0, okS42 y0_)) (h1 : (l1.length * 32 ≤ 140737488351232 ∧ ∀ y0_ ∈ l1, okS42 y0_)) (h2 : (Lit.int .u8 a2).wf = true) : ∃ k, colonnadelaw15_SchemaBack.f k l0 l1 a2 = some true := by
  apply Evn.ex
  have s0 : small l0 := small_of fun c hc => (h0.2 c hc).1
  have s1 : small l1 := small_of fun c hc => (h1.2 c hc).1
  unfold colonnadelaw15_SchemaBack.f
  refine Evn.bindc (a := true) rfl (Evn.pos rfl ?_)
  rw [columns_f l0 h0.1]
  simp only [Option.bind_some]
  have hp := put_f l0 s0
  by_cases hok : OK l0
  · rw [if_pos hok] at hp
    have hs := enc_small hok
    obtain ⟨res, ht, hr⟩ := take_f (enc l0) (enc_bytes _ hok.2.2.1) (by omega)
    obtain rfl := hr.2 _ hok rfl
    refine Evn.bind hp (Evn.pos rfl ?_)
    simp only [twin_f _ (show (enc l0).length < 140737488355328 by omega), Option.bind_some]
    refine Evn.bind ht (Evn.pos rfl (Evn.bind (same_f l0 l0 (by omega)) (Evn.pos (by simp) ?_)))
    refine Evn.succ (fun _ => rfl) ?_
    simp only [colonnadelaw15_SchemaBack.j0]
    refine Evn.neg (by simp) ?_
    refine back_l0 l0 l1 a2 true _ hok ?_ l0.length 0 (by omega)
    refine back_l1 l0 l1 a2 true hok ?_ (enc l0).length 0 (by omega)
    simp only [twin_f _ (show (enc l0).length < 140737488355328 by omega), columns_f l1 h1.1, Option.bind_some]
    refine Evn.pos (by omega) ?_
    have hb2 : Bytes (enc l0 ++ [a2]) := (enc_bytes _ hok.2.2.1).append (fun x hx => by rw [List.mem_singleton.1 hx]; exact wf_u8 h2)
    refine Evn.bind (no_take _ hb2 (by simp; omega) (fun l hl e => ?_)) ?_
    · have := (enc_prefix hl hok e).2
      simp at this
    · have hq := put_f l1 s1
      by_cases hok1 : OK l1
      · rw [if_pos hok1] at hq
        refine Evn.bind hq (Evn.pos rfl (Evn.pos rfl (Evn.bind (same_f l0 l1 (by omega)) ?_)))
        have : (((strOfNums (enc l1)).toList == (strOfNums (enc l0)).toList) == decide (l0 = l1)) = true := by
          rw [str_beq (enc_bytes _ hok1.2.2.1) (enc_bytes _ hok.2.2.1), beq_iff_eq, Bool.eq_iff_iff, beq_iff_eq, decide_eq_true_iff]
          constructor
          · intro e
            exact (enc_prefix (rest := []) hok hok1 (by rw [e, List.append_nil])).1
          · intro e; rw [e]
        simp only [this]
        exact Evn.now _
      · rw [if_neg hok1] at hq
        exact Evn.bind hq (Evn.pos rfl (Evn.neg (by decide) (Evn.now _)))
  · rw [if_neg hok] at hp
    have hc := check_f l0 s0
    rw [if_neg hok] at hc
    exact Evn.bind hp (Evn.neg (by decide) (Evn.pos rfl (Evn.pos rfl (Evn.bind hc (Evn.now _)))))
end Go.Proofs.Ytdiabhfphonciaa.Pure
