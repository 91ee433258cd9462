/- SchemaLimits: 256 columns may be and come back, 257 may not; names of 64 bytes may be, of 65 and of none not. No conditions. -/
import Derived.Test.YtdiabhfphonciaaPa7
import Derived.Test.YtdiabhfphonciaaS6
import Derived.Test.YtdiabhfphonciaaOp
namespace Go.Proofs.Ytdiabhfphonciaa.Pa
open Go.RowKit Go.Proofs.YtdiabhfphonciaaW.PrintWords Go.Proofs.YtdiabhfphonciaaW.PrintLast Go.Proofs.YtdiabhfphonciaaW.PrintMore Go.Proofs.Ytdiabhfphonciaa.L
set_option linter.unusedVariables false
set_option linter.unusedSimpArgs false
def manyE (i : Nat) : S42 := ⟨(⟨#[99]⟩ : ByteArray) ++ (strOfNums [(wrap64 (97 + (wrap64 (Int.tdiv (i : Int) 20)))) % 256, (wrap64 (97 + (Int.tmod (i : Int) 20))) % 256]), 2, false⟩
def manyL (n : Nat) : List S42 := (List.range n).map manyE
theorem many_l0 (n : Nat) (hn : n ≤ 1000) : ∀ (d i : Nat) (x : List S42), i + d = n → x.length = i → Evn (fun k => colonnadelaw15_many.l0 k (n : Int) x (i : Int)) (x ++ (List.range' i d).map manyE) := by
  intro d
  induction d with
  | zero =>
    intro i x h hx
    refine Evn.succ (fun _ => rfl) ?_
    simp only [colonnadelaw15_many.l0]
    refine Evn.neg (by omega) ?_
    simpa using Evn.now x
  | succ d ih =>
    intro i x h hx
    refine Evn.succ (fun _ => rfl) ?_
    simp only [colonnadelaw15_many.l0, Option.bind_some]
    refine Evn.pos (by omega) (Evn.pos (by simp [strOfNums, ByteArray.size]) (Evn.pos (by omega) ?_))
    rw [wrapS ((i : Int) + 1) (by omega) (by omega), List.range'_succ, List.map_cons]
    have := ih (i + 1) (x ++ [manyE i]) (by omega) (by simp [hx])
    rw [List.append_assoc] at this
    exact this
theorem many_f (n : Nat) (hn : n ≤ 1000) : Evn (fun k => colonnadelaw15_many.f k (n : Int)) (manyL n) := by
  have := many_l0 n hn n 0 [] (by omega) rfl
  rw [← List.range_eq_range'] at this
  exact this
def nm : Nat → ByteArray
  | 0 => ⟨#[]⟩
  | n + 1 => nm n ++ ⟨#[120]⟩
theorem nm_size (n : Nat) : (nm n).size = n := by
  induction n with
  | zero => rfl
  | succ n ih => rw [nm, ByteArray.size_append, ih]; rfl
theorem named15_l0 (n : Nat) (hn : n ≤ 1000) : ∀ (d i : Nat), i + d = n → Evn (fun k => colonnadelaw15_named.l0 k (n : Int) (nm i) (i : Int)) [⟨nm n, 1, false⟩] := by
  intro d
  induction d with
  | zero =>
    intro i h
    obtain rfl : i = n := by omega
    refine Evn.succ (fun _ => rfl) ?_
    simp only [colonnadelaw15_named.l0]
    exact Evn.neg (by omega) (Evn.now _)
  | succ d ih =>
    intro i h
    refine Evn.succ (fun _ => rfl) ?_
    simp only [colonnadelaw15_named.l0]
    refine Evn.pos (by omega) (Evn.pos (by rw [nm_size]; omega) ?_)
    rw [wrapS ((i : Int) + 1) (by omega) (by omega)]
    exact ih (i + 1) (by omega)
theorem named15_f (n : Nat) (hn : n ≤ 1000) : Evn (fun k => colonnadelaw15_named.f k (n : Int)) [⟨nm n, 1, false⟩] := named15_l0 n hn n 0 (by omega)
theorem many_good : ∀ i : Nat, i < 256 → good (manyE i) := by decide +kernel
theorem many_key : ∀ i : Nat, i < 256 → key (manyE i) = [99, UInt8.ofNat (97 + i / 20), UInt8.ofNat (97 + i % 20)] := by decide +kernel
theorem many_size : ∀ i : Nat, i < 257 → (manyE i).f0.size = 3 := by decide +kernel
theorem many_ok : OK (manyL 256) := by
  refine ⟨by simp [manyL], by simp [manyL], ?_, ?_⟩
  · intro c hc
    obtain ⟨i, hi, rfl⟩ := List.mem_map.1 hc
    exact many_good i (by simpa using hi)
  · rw [manyL, List.map_map]
    refine List.pairwise_map.2 (List.Pairwise.imp_of_mem ?_ List.pairwise_lt_range)
    intro a b ha hb hab e
    have ha := List.mem_range.1 ha
    have hb := List.mem_range.1 hb
    simp only [Function.comp] at e
    rw [many_key a ha, many_key b hb] at e
    simp only [List.cons.injEq, true_and, and_true] at e
    have e1 := congrArg UInt8.toNat e.1
    have e2 := congrArg UInt8.toNat e.2
    simp only [UInt8.toNat_ofNat'] at e1 e2
    omega
theorem nm64 : OK [⟨nm 64, 1, false⟩] := by decide +kernel
theorem nm65 : ¬ OK [⟨nm 65, 1, false⟩] := fun h => by
  have := good_size (h.2.2.1 _ (List.mem_singleton.2 rfl))
  simp [nm_size] at this
theorem nm0 : ¬ OK [⟨nm 0, 1, false⟩] := fun h => by
  have := good_size (h.2.2.1 _ (List.mem_singleton.2 rfl))
  simp [nm_size] at this
end Go.Proofs.Ytdiabhfphonciaa.Pa
namespace Go.Proofs.Ytdiabhfphonciaa.Pure
open Go.RowKit Go.Proofs.Ytdiabhfphonciaa.Pa Go.Proofs.Ytdiabhfphonciaa.L Go.Proofs.YtdiabhfphonciaaW.PrintWords Go.Proofs.YtdiabhfphonciaaW.PrintLast Go.Proofs.YtdiabhfphonciaaW.PrintMore
theorem SchemaLimits : ∃ k, colonnadelaw15_SchemaLimits.f k = some true := by
  apply Evn.ex
  unfold colonnadelaw15_SchemaLimits.f
  have sm : ∀ n, n ≤ 257 → small (manyL n) := fun n hn c hc => by
    obtain ⟨i, hi, rfl⟩ := List.mem_map.1 hc
    rw [many_size i (by have := List.mem_range.1 hi; omega)]
    omega
  have hp := put_f (manyL 256) (sm 256 (by omega))
  rw [if_pos many_ok] at hp
  have hno : ¬ OK (manyL 257) := fun h => by have := h.2.1; simp [manyL] at this
  have hp2 := put_f (manyL 257) (sm 257 (by omega))
  rw [if_neg hno] at hp2
  have hl : (enc (manyL 256)).length < 140737488355328 := by
    have h1 := encB_len (manyL 256) many_ok.2.2.1
    have h2 := sf_len 1 256 (by decide)
    have h3 : (manyL 256).length = 256 := by simp [manyL]
    simp only [enc, List.length_append, h3] at h1 ⊢
    omega
  obtain ⟨res, ht, hr⟩ := take_f (enc (manyL 256)) (enc_bytes _ many_ok.2.2.1) hl
  obtain rfl := hr.2 _ many_ok rfl
  have h3 : (manyL 256).length = 256 := by simp [manyL]
  refine Evn.bind (many_f 256 (by omega)) (Evn.bind hp (Evn.bind ht (Evn.bind (many_f 257 (by omega)) (Evn.bind hp2 ?_))))
  refine Evn.pos rfl (Evn.pos rfl (Evn.pos (by rw [h3]; rfl) (Evn.pos rfl (Evn.bind (many_f 256 (by omega)) (Evn.bind (same_f _ _ (by show (manyL 256).length ≤ _; omega)) ?_)))))
  refine Evn.succ (fun _ => rfl) ?_
  simp only [colonnadelaw15_SchemaLimits.j0, decide_true]
  have sn : ∀ n, n ≤ 257 → small [⟨nm n, 1, false⟩] := fun n hn c hc => by
    rw [List.mem_singleton.1 hc]
    simp only [nm_size]
    omega
  have c1 := check_f _ (sn 64 (by omega))
  rw [if_pos nm64] at c1
  have c2 := check_f _ (sn 65 (by omega))
  rw [if_neg nm65] at c2
  have c3 := check_f _ (sn 0 (by omega))
  rw [if_neg nm0] at c3
  refine Evn.bind (named15_f 64 (by omega)) (Evn.bind c1 (Evn.pos rfl (Evn.bind (named15_f 65 (by omega)) (Evn.bind c2 (Evn.pos rfl (Evn.bind (named15_f 0 (by omega)) (Evn.bind c3 ?_)))))))
  exact Evn.bindc (a := true) rfl (Evn.pos rfl (Evn.pos (by trivial) (Evn.pos rfl (Evn.now _))))
end Go.Proofs.Ytdiabhfphonciaa.Pure
