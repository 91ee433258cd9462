/- The texts of AtomBounded, merged: part 3. -/
import Derived.ChangeArms
import Derived.SizedLaws
import Derived.WideShapes
import Derived.Carry
import Derived.Test.YtkedejphebfneaaQAtomBounded2
import Derived.Test.YtkedejphebfneaaRows
/-! How an argument that reads as data reads by a kind: scalars, slices, structs; every part well made and of a size within the form's reach. -/
namespace Go.Proofs.Ytkedejphebfneaa.O
open Go.RowKit Go.Proofs.YtkedejphebfneaaW.PrintWords
open Go.Proofs.Ytkedejphebfneaa.Rows (uptoBulk uptoBulkAll)
def Opens {H α : Type} (enc : TypeId × Value → H) (P : Program) (W : World) (t : TypeId) (d : Kd α) (ok : α → Prop) (m : α → Nat) (fuel : Nat) : Prop :=
 ∀ cs y ps, DataW.trod enc P W 0 (fun _ => true) true fuel t cs = some (y, ps) → (∀ n ∈ y.weights P t, n ≤ reachBytes) → ∃ x, d.K W x cs ∧ ok x ∧ m x ≤ uptoBulk y
def sumB {α : Type} (m : α → Nat) (l : List α) : Nat := (l.map m).sum + 1
theorem one_le {H : Type} (d : DataW H) : 1 ≤ uptoBulk d := by
 cases d with
 | lit l => cases l <;> simp [uptoBulk]
 | nil => simp [uptoBulk]
 | ptr d => simp [uptoBulk]
 | slice elems spare => simp [uptoBulk]
 | agg parts => simp [uptoBulk]
 | iface t d => simp [uptoBulk]
 | map entries => simp [uptoBulk]
 | held h => simp [uptoBulk]
theorem sum_le {H α : Type} {m : α → Nat} : ∀ (xs : List α) (ds : List (DataW H)), xs.length ≤ ds.length → (∀ (i : Nat) (x : α), xs[i]? = some x → ∃ d : DataW H, ds[i]? = some d ∧ m x ≤ uptoBulk d) → (xs.map m).sum ≤ uptoBulkAll ds
 | [], _, _, _ => by simp
 | x :: xs, [], h, _ => by simp at h
 | x :: xs, d :: ds, h, hp => by
  obtain ⟨d', e, hm⟩ := hp 0 x rfl
  obtain rfl : d = d' := by simpa using e
  have := sum_le xs ds (by simpa using h) (fun i y hy => by simpa using hp (i + 1) y (by simpa using hy))
  simp only [List.map_cons, List.sum_cons, uptoBulkAll]
  omega
def bulkAt {H : Type} (ds : List (DataW H)) (j : Nat) : Nat := match ds[j]? with
 | some d => uptoBulk d
 | none => 0
theorem bulk_sum {H : Type} : ∀ ds : List (DataW H), uptoBulkAll ds = ((List.range ds.length).map (bulkAt ds)).sum
 | [] => by simp [uptoBulkAll]
 | d :: ds => by
  rw [List.length_cons, List.range_succ_eq_map, List.map_cons, List.sum_cons, List.map_map]
  show uptoBulk d + uptoBulkAll ds = uptoBulk d + _
  rw [bulk_sum ds]
  rfl
section
variable {H α : Type} {enc : TypeId × Value → H} {P : Program} {W : World} {t e : TypeId} {fuel : Nat}
theorem opens_int {k : IntKind} (ht : P.underlying t = some (.int k)) : Opens enc P W t (Kd.int k) (fun n => (Lit.int k n).wf = true) (fun _ => 1) fuel := by
 intro cs y ps h hw
 obtain ⟨n, rfl, _, hn⟩ := DataW.trod_int ht h
 exact ⟨n, rfl, hn, one_le _⟩
theorem opens_string (ht : P.underlying t = some .string) : Opens enc P W t Kd.string (fun s => s.size ≤ 140737488351232) (fun s => s.size + 1) fuel := by
 intro cs y ps h hw
 obtain ⟨s, rfl, hx, _⟩ := DataW.trod_string ht h
 obtain ⟨rfl, rfl⟩ := Prod.mk.inj hx
 refine ⟨s, rfl, ?_, by simp [uptoBulk]⟩
 have := hw s.data.toList.length (by simp [DataW.weights])
 rw [Array.length_toList] at this
 exact this
theorem trod_float {k : FloatKind} {cs : List Value} {x : DataW H × List MemPlace} (ht : P.underlying t = some (.float k)) (h : DataW.trod enc P W 0 (fun _ => true) true fuel t cs = some x) : ∃ b, cs = [.float k b] ∧ (Lit.float k b).wf = true := by
 cases fuel with
 | zero => simp [DataW.trod] at h
 | succ n =>
  unfold DataW.trod at h
  rw [ht] at h
  split at h <;> simp_all
theorem opens_float (ht : P.underlying t = some (.float .f64)) : Opens enc P W t Kd.f64 (fun b => (Lit.float .f64 b).wf = true) (fun _ => 1) fuel := by
 intro cs y ps h hw
 obtain ⟨b, rfl, hb⟩ := trod_float ht h
 exact ⟨b, rfl, hb, one_le _⟩
theorem listOf {β : Type} {Q : Nat → β → Prop} : ∀ n : Nat, (∀ i, i < n → ∃ x, Q i x) → ∃ xs : List β, xs.length = n ∧ ∀ i x, xs[i]? = some x → Q i x
 | 0, _ => ⟨[], rfl, fun i x h => by simp at h⟩
 | n + 1, h => by
  obtain ⟨xs, hl, hx⟩ := listOf n (fun i hi => h i (by omega))
  obtain ⟨x, hq⟩ := h n (by omega)
  refine ⟨xs ++ [x], by simp [hl], fun i y hy => ?_⟩
  rcases Nat.lt_trichotomy i n with hi | hi | hi
  ·rw [List.getElem?_append_left (by omega)] at hy; exact hx i y hy
  ·subst hi
   have : x = y := by simpa [← hl] using hy
   rw [← this]; exact hq
  ·have : (xs ++ [x])[i]? = none := List.getElem?_eq_none (by simp; omega)
   rw [this] at hy; cases hy
theorem cells_some {base : Nat} {a : Addr} {n : Nat} {cs : List Value} (h : W.cells? base a n = some cs) : cs.length = n ∧ ∀ i u, cs[i]? = some u → W.cell? (a.add i) = some u := by
 unfold World.cells? at h
 split at h
 ·have hl := mapM_some_length h
  simp at hl
  refine ⟨hl, fun i u hu => ?_⟩
  have hi : i < n := by have := (List.getElem?_eq_some_iff.1 hu).1; omega
  have := mapM_some_get h i i (by simp [hi])
  rw [this]; exact hu
 ·cases h
theorem weights_all {e : TypeId} {l : List (DataW H)} {d : DataW H} (hd : d ∈ l) : ∀ n ∈ d.weights P e, n ∈ DataW.weightsAll P e l := by
 induction l with
 | nil => simp at hd
 | cons a l ih =>
  intro n hn
  simp only [DataW.weightsAll, List.mem_append]
  rcases List.mem_cons.1 hd with rfl | hd
  ·exact .inl hn
  ·exact .inr (ih hd n hn)
theorem add_add' (a : Addr) (i j : Nat) : (a.add i).add j = a.add (i + j) := by
 unfold Addr.add
 by_cases h1 : i = 0 <;> by_cases h2 : j = 0 <;> simp [h1, h2, Nat.add_assoc]
theorem opens_slice {d : Kd α} {ok : α → Prop} {m : α → Nat} (B : Nat) (ht : P.underlying t = some (.slice e)) (hc : P.cellsOf e = d.sz) (hB : P.bytesOf e = B) (he : ∀ n, n < fuel → Opens enc P W e d ok m n) :
  Opens enc P W t (Kd.slice e d) (fun xs => xs.length * B ≤ 140737488351232 ∧ ∀ x ∈ xs, ok x) (sumB m) fuel := by
 intro cs y ps h hw
 rcases DataW.trod_slice ht h with ⟨rfl, _⟩ | ⟨a, len, cap, elems, rest, n, rfl, rfl, hx, hb, hl, hm, hlen, hel, hsp, _⟩
 ·exact ⟨[], ⟨none, 0, rfl, by simp, rfl, by simp, fun hn => absurd hn (by simp)⟩, ⟨by simp, fun x hx => by simp at hx⟩, by simpa [sumB] using one_le y⟩
 ·obtain ⟨rfl, rfl⟩ := Prod.mk.inj hx
  have hwc : (elems.length + rest.length) * P.bytesOf e ≤ reachBytes := by
   have := hw ((elems.map (·.1)).length + (rest.map (·.1)).length |> (· * P.bytesOf e)) (by simp [DataW.weights, ht])
   simpa using this
  have hwe : ∀ (i : Nat) (z : DataW H × List MemPlace), elems[i]? = some z → ∀ n ∈ z.1.weights P e, n ≤ reachBytes := by
   intro i z hz m hm
   refine hw m ?_
   simp only [DataW.weights, ht]
   refine List.mem_cons_of_mem _ (List.mem_append_left _ (weights_all (d := z.1) ?_ m hm))
   exact List.mem_map.2 ⟨z, List.mem_of_getElem? hz, rfl⟩
  have key : ∀ i, i < len → ∃ x, (∃ c, c.length = d.sz ∧ d.K W x c ∧ ∀ j u, c[j]? = some u → W.cell? (a.add (i * d.sz + j)) = some u) ∧ ok x ∧ ∃ z, (elems.map (·.1))[i]? = some z ∧ m x ≤ uptoBulk z := by
   intro i hi
   have h1 := hel i hi
   obtain ⟨z, hz⟩ : ∃ z, elems[i]? = some z := ⟨_, List.getElem?_eq_getElem (by omega)⟩
   rw [hz, Option.bind_eq_some_iff] at h1
   obtain ⟨c, hcs, hz2⟩ := h1
   obtain ⟨hcl, hcc⟩ := cells_some hcs
   obtain ⟨x, hk, ho, hm_⟩ := he n (by omega) c z.1 z.2 hz2 (hwe i z hz)
   refine ⟨x, ⟨c, by rw [hcl, hc], hk, fun j u hu => ?_⟩, ho, z.1, by rw [List.getElem?_map, hz]; rfl, hm_⟩
   have := hcc j u hu
   rw [add_add', hc] at this
   exact this
  obtain ⟨xs, hxl, hxs⟩ := listOf len key
  refine ⟨xs, ⟨some a, cap, by rw [hxl], by omega, rfl, by simp only [maxLen] at hm; omega, fun _ => ⟨a, rfl, fun j p hj => (hxs j p hj).1⟩⟩, ⟨?_, fun x hx => ?_⟩, ?_⟩
  ·have : reachBytes = 140737488351232 := rfl
   rw [hB] at hwc
   exact Nat.le_trans (Nat.mul_le_mul_right _ (by omega)) (this ▸ hwc)
  ·obtain ⟨i, hi⟩ := List.getElem?_of_mem hx
   exact (hxs i x hi).2.1
  ·have := sum_le (m := m) xs (elems.map (·.1)) (by simp; omega) (fun i x hi => (hxs i x hi).2.2)
   simp only [sumB, uptoBulk]
   omega
theorem field_of {fs : Array Field} {xs : List (DataW H × List MemPlace)} {n : Nat} {cs : List Value} {ok : α → Prop} {m : α → Nat} {d : Kd α} (j : Nat) (f : Field) (hl : xs.length = fs.size) (hj : fs[j]? = some f)
  (hf : ∀ (i : Nat) (f : Field), fs[i]? = some f → DataW.trod enc P W 0 (fun _ => true) true n f.type ((cs.drop f.offset).take (P.cellsOf f.type)) = xs[i]?)
  (ht : P.underlying t = some (.struct fs)) (hw : ∀ m ∈ (DataW.agg (xs.map (·.1))).weights P t, m ≤ reachBytes) (ho : Opens enc P W f.type d ok m n) : ∃ x, d.K W x ((cs.drop f.offset).take (P.cellsOf f.type)) ∧ ok x ∧ m x ≤ bulkAt (xs.map (·.1)) j := by
 have h1 := hf j f hj
 have hjl : j < xs.length := by have := (Array.getElem?_eq_some_iff.1 hj).1; omega
 rw [List.getElem?_eq_getElem hjl] at h1
 have e0 : bulkAt (xs.map (·.1)) j = uptoBulk xs[j].1 := by unfold bulkAt; rw [List.getElem?_map, List.getElem?_eq_getElem hjl]; rfl
 rw [e0]
 refine ho _ xs[j].1 xs[j].2 h1 (fun m hm => hw m ?_)
 simp only [DataW.weights, ht]
 refine DataW.weights_mem_each (j := j) (t := f.type) (d := xs[j].1) ?_ ?_ m hm
 ·rw [List.getElem?_map]
  have : fs.toList[j]? = some f := by rw [Array.getElem?_toList]; exact hj
  rw [this]; rfl
 ·rw [List.getElem?_map, List.getElem?_eq_getElem hjl]; rfl
theorem cut_at (cs : List Value) (o s : Nat) : cs.drop o = (cs.drop o).take s ++ cs.drop (o + s) := by
 rw [← List.drop_drop]; exact (List.take_append_drop s (cs.drop o)).symm
end
end Go.Proofs.Ytkedejphebfneaa.O
