/- The texts of AtomBegins, merged: part 2. -/
import Derived.Laws.Sem
import Derived.Laws.StructEq
import Derived.Laws.Externs
import Derived.Test.YtkedejphebfneaaProg
import Derived.Test.YtkedejphebfneaaQAtomBegins0
import Derived.ChangeArms
import Derived.SizedLaws
import Derived.WideShapes
import Derived.Carry
import Derived.Test.YtkedejphebfneaaRows
import Derived.Below
import Derived.Deep.Draws
import Derived.Deep.AppendLies
import Derived.Maps.AppendAt
import Derived.OwnWalk
import Derived.Laws.BytesArg
import Derived.Laws.MakeOwn
import Derived.Laws.OwnMore
import Derived.Deep.OwnRows
import Derived.Tactics
import Derived.Lib.ConvBytes
import Derived.Laws.Slices
import Derived.WalkKit
import Derived.KernelRfl
import Derived.RowKit3
import Derived.Deep.LoopGhost
import Derived.Deep.QuietTactic
import Derived.BigQuiet
import Derived.WideLaws
import Derived.Deep.DeepCutAuto
import Derived.Deep.CutBlock
import Derived.Deep.RegionHeld3
import Derived.Laws.Rows
import Derived.Lib.AppendStr
import Derived.ArgAppend
import Derived.Laws.IdiomCopy
import Derived.OrdersHeld
import Derived.Laws.BitsLemmas
import Derived.RowKit
import Derived.Test.YtkedejphebfneaaQAtomBegins1
section
namespace Go.Proofs.YtkedejphebfneaaW.PrintWords
open Go.RowKit
namespace Kd
/-- A float64, by its bits. -/
def f64 : Kd Nat := scalar (Value.float .f64) (fun _ => rfl)
theorem heap_f64 : Kd.Heap f64 := heap_scalar
end Kd
theorem run_store_float (P : Program) (w : World) (a : Addr) (m : Mode) (k : FloatKind) (b : Nat) : (store a (.float k b) m).run P w = stored P w a (.float k b) m := run_store P w a _ m rfl
/-- Two reals held against each other, by their bits. -/
def feq (a b : Nat) : Bool := FloatKind.f64.format.order a b == some .eq
def flt (a b : Nat) : Bool := FloatKind.f64.format.order a b == some .lt
def fgt (a b : Nat) : Bool := FloatKind.f64.format.order a b == some .gt
def fle (a b : Nat) : Bool := FloatKind.f64.format.order a b == some .lt || FloatKind.f64.format.order a b == some .eq
def fge (a b : Nat) : Bool := FloatKind.f64.format.order a b == some .gt || FloatKind.f64.format.order a b == some .eq
theorem cmp_feq (t : TypeId) (a b : Nat) : binOp .eql t (.float .f64 a) (.float .f64 b) = pure (.bool (feq a b)) := by simp [binOp, Op.floatCmp, feq]
theorem cmp_fne (t : TypeId) (a b : Nat) : binOp .neq t (.float .f64 a) (.float .f64 b) = pure (.bool (!(feq a b))) := by simp [binOp, Op.floatCmp, feq, bne]
theorem cmp_flt (t : TypeId) (a b : Nat) : binOp .lss t (.float .f64 a) (.float .f64 b) = pure (.bool (flt a b)) := by simp [binOp, Op.floatCmp, flt]
theorem cmp_fle (t : TypeId) (a b : Nat) : binOp .leq t (.float .f64 a) (.float .f64 b) = pure (.bool (fle a b)) := by simp [binOp, Op.floatCmp, fle]
theorem cmp_fgt (t : TypeId) (a b : Nat) : binOp .gtr t (.float .f64 a) (.float .f64 b) = pure (.bool (fgt a b)) := by simp [binOp, Op.floatCmp, fgt]
theorem cmp_fge (t : TypeId) (a b : Nat) : binOp .geq t (.float .f64 a) (.float .f64 b) = pure (.bool (fge a b)) := by simp [binOp, Op.floatCmp, fge]
theorem less_total : ∀ x y : List UInt8, (!(Op.bytesLess x y || x == y)) = Op.bytesLess y x
  | [], [] => rfl
  | [], _ :: _ => rfl
  | _ :: _, [] => rfl
  | a :: x, b :: y => by
    have ih := less_total x y
    rw [Op.bytesLess, Op.bytesLess, ← ih]
    have e : ((a :: x) == (b :: y)) = (a == b && x == y) := rfl
    rw [e]
    rcases Nat.lt_trichotomy a.toNat b.toNat with h | h | h
    · have h1 : decide (a < b) = true := decide_eq_true (UInt8.lt_iff_toNat_lt.2 h)
      have h2 : decide (b < a) = false := decide_eq_false (fun k => by have := UInt8.lt_iff_toNat_lt.1 k; omega)
      have h3 : (a == b) = false := beq_eq_false_iff_ne.2 (fun k => by rw [k] at h; omega)
      have h4 : (b == a) = false := beq_eq_false_iff_ne.2 (fun k => by rw [k] at h; omega)
      rw [h1, h2, h3, h4]; simp
    · have h5 : a = b := UInt8.toNat_inj.1 h
      subst h5
      simp
    · have h1 : decide (a < b) = false := decide_eq_false (fun k => by have := UInt8.lt_iff_toNat_lt.1 k; omega)
      have h2 : decide (b < a) = true := decide_eq_true (UInt8.lt_iff_toNat_lt.2 h)
      have h3 : (a == b) = false := beq_eq_false_iff_ne.2 (fun k => by rw [k] at h; omega)
      rw [h1, h2, h3]; simp
theorem cmp_sgt (t : TypeId) (a b : ByteArray) : binOp .gtr t (.string a) (.string b) = pure (.bool (Op.bytesLess b.toList a.toList)) := by
  rw [← less_total]
  simp [binOp, Op.stringOp]
/-- Two texts held against each other: -1, 0, 1. -/
def cmpb (a b : ByteArray) : Int := Extern.BytealgCompare.cmp a b
theorem run_cmpb {P : Program} (a b : ByteArray) (w : World) : (Extern.BytealgCompare.compare #[.string a, .string b]).run P w = .ok (.int .i64 (cmpb a b)) w := by
  change Sem.run P (do pure (goInt (Extern.BytealgCompare.cmp (← Extern.Bytes.bytesOf (.string a)) (← Extern.Bytes.bytesOf (.string b))))) w = _
  simp only [Extern.Bytes.bytesOf, Sem.run_bind, Sem.run_pure, Result.andThen]
  rfl
def fneg (a : Nat) : Nat := Op.negFloat .f64 a
theorem un_fneg (a : Nat) : Op.unary .neg (.float .f64 a) = pure (.float .f64 (fneg a)) := rfl
theorem equalIn_feq {P : Program} {w : World} (d : Nat) (t : TypeId) (k' : FloatKind) (a b : Nat) (h : P.underlying t = some (.float k')) : (Op.equalIn (d + 1) t (.float .f64 a) (.float .f64 b)).run P w = .ok (feq a b) w := by simp [Op.equalIn, run_underlying h, Op.floatEq, feq]
/-- A sum, a difference .. of reals, where it is a number. -/
def fbits (op : BinOp) (x y : Nat) : Option Nat :=
  match op with
  | .add => FloatKind.f64.format.add x y
  | .sub => FloatKind.f64.format.sub x y
  | .mul => FloatKind.f64.format.mul x y
  | .quo => FloatKind.f64.format.div x y
  | _ => none
def fok (op : BinOp) (a b : Nat) : Bool := (fbits op a b).isSome
def fval (op : BinOp) (a b : Nat) : Nat := (fbits op a b).getD 0
theorem run_fop (P : Program) (w : World) (op : BinOp) (t : TypeId) (a b : Nat) (h : fok op a b = true) : (binOp op t (.float .f64 a) (.float .f64 b)).run P w = .ok (.float .f64 (fval op a b)) w := by
  unfold fok at h
  obtain ⟨r, hr⟩ := Option.isSome_iff_exists.1 h
  have hv : fval op a b = r := by unfold fval; rw [hr]; rfl
  rw [hv]
  unfold fbits at hr
  cases op <;> simp only at hr <;> first | (cases hr; done) | skip
  all_goals simp [binOp, Op.floatArith, hr]
/-- A real as a whole number of 64 bits, where it is one, cut. -/
def fintv (b : Nat) : Option Int :=
  match (FloatKind.f64.decode b).toInt .zero with
  | some n => if IntKind.i64.min ≤ n ∧ n ≤ IntKind.i64.max then some n else none
  | none => none
def fintok (a : Nat) : Bool := (fintv a).isSome
def fint (a : Nat) : Int := (fintv a).getD 0
theorem run_fint (P : Program) (w : World) (src dst : TypeId) (a : Nat) (hs : (P.underlying src).isSome = true) (hd : P.underlying dst = some (.int .i64)) (h : fintok a = true) : (convert src dst (.float .f64 a)).run P w = .ok (.int .i64 (fint a)) w := by
  unfold fintok at h
  obtain ⟨r, hr⟩ := Option.isSome_iff_exists.1 h
  have hv : fint a = r := by unfold fint; rw [hr]; rfl
  rw [hv]
  obtain ⟨u, hs'⟩ := Option.isSome_iff_exists.1 hs
  unfold fintv at hr
  split at hr
  · rename_i m he
    split at hr
    · rename_i hb
      cases hr
      have b2 : ¬ (9223372036854775807 < r) := by have := hb.2; have e : IntKind.i64.max = 9223372036854775807 := by decide +kernel
                                                  omega
      have b1 : -9223372036854775808 ≤ r := by have := hb.1; have e : IntKind.i64.min = -9223372036854775808 := by decide +kernel
                                               omega
      cases u <;> simp [convert, run_underlying hs', run_underlying hd, Conv.floatToInt, he, hb.1, b2]
    · cases hr
  · cases hr
/-- A whole number as a real. -/
def freal (n : Int) : Nat := FloatKind.f64.nearest n
theorem run_freal (P : Program) (w : World) (src dst : TypeId) (q : IntKind) (n : Int) (hs : (P.underlying src).isSome = true) (hd : P.underlying dst = some (.float .f64)) :
    (convert src dst (.int q n)).run P w = .ok (.float .f64 (freal n)) w := by
  obtain ⟨s, hs'⟩ := Option.isSome_iff_exists.1 hs
  cases s <;> simp [convert, run_underlying hs', run_underlying hd, Conv.intToFloat, freal]
/-- A box, told anew behind a call. -/
theorem blkS {w1 W W' : World} {g : Nat} {o : Obj} (_ : Aside0 (w1.heap[g]? = some o)) (hb : Below W.heap.size W W') (h : W.heap[g]? = some o := by with_reducible repeat (first | (apply Aside0.out; assumption) | refine blk_drewN ?_ _ | refine blk_drew ?_ | refine blk_alloc ?_ _)) : Aside0 (W'.heap[g]? = some o) := ⟨blk_below h hb⟩
theorem cells_4 {W : World} {g : Nat} {t : TypeId} {v0 v1 v2 v3 : Value} (h : W.heap[g]? = some (.cells #[v0, v1, v2, v3] t (0, 0))) : W.cell? ⟨g, 0, none⟩ = some v0 ∧ W.cell? ⟨g, 1, none⟩ = some v1 ∧ W.cell? ⟨g, 2, none⟩ = some v2 ∧ W.cell? ⟨g, 3, none⟩ = some v3 :=
  ⟨(blk_cell h 0).trans rfl, (blk_cell h 1).trans rfl, (blk_cell h 2).trans rfl, (blk_cell h 3).trans rfl⟩
theorem froz_4 {W : World} {g : Nat} {t : TypeId} {cs : Array Value} (h : W.heap[g]? = some (.cells cs t (0, 0))) : W.frozen? ⟨g, 0, none⟩ = false ∧ W.frozen? ⟨g, 1, none⟩ = false ∧ W.frozen? ⟨g, 2, none⟩ = false ∧ W.frozen? ⟨g, 3, none⟩ = false :=
  ⟨blk_frozen h 0, blk_frozen h 1, blk_frozen h 2, blk_frozen h 3⟩
theorem cells_9 {W : World} {g : Nat} {t : TypeId} {v0 v1 v2 v3 v4 v5 v6 v7 v8 : Value} (h : W.heap[g]? = some (.cells #[v0, v1, v2, v3, v4, v5, v6, v7, v8] t (0, 0))) : W.cell? ⟨g, 0, none⟩ = some v0 ∧ W.cell? ⟨g, 1, none⟩ = some v1 ∧ W.cell? ⟨g, 2, none⟩ = some v2 ∧ W.cell? ⟨g, 3, none⟩ = some v3 ∧ W.cell? ⟨g, 4, none⟩ = some v4 ∧ W.cell? ⟨g, 5, none⟩ = some v5 ∧ W.cell? ⟨g, 6, none⟩ = some v6 ∧ W.cell? ⟨g, 7, none⟩ = some v7 ∧ W.cell? ⟨g, 8, none⟩ = some v8 :=
  ⟨(blk_cell h 0).trans rfl, (blk_cell h 1).trans rfl, (blk_cell h 2).trans rfl, (blk_cell h 3).trans rfl, (blk_cell h 4).trans rfl, (blk_cell h 5).trans rfl, (blk_cell h 6).trans rfl, (blk_cell h 7).trans rfl, (blk_cell h 8).trans rfl⟩
theorem froz_9 {W : World} {g : Nat} {t : TypeId} {cs : Array Value} (h : W.heap[g]? = some (.cells cs t (0, 0))) : W.frozen? ⟨g, 0, none⟩ = false ∧ W.frozen? ⟨g, 1, none⟩ = false ∧ W.frozen? ⟨g, 2, none⟩ = false ∧ W.frozen? ⟨g, 3, none⟩ = false ∧ W.frozen? ⟨g, 4, none⟩ = false ∧ W.frozen? ⟨g, 5, none⟩ = false ∧ W.frozen? ⟨g, 6, none⟩ = false ∧ W.frozen? ⟨g, 7, none⟩ = false ∧ W.frozen? ⟨g, 8, none⟩ = false :=
  ⟨blk_frozen h 0, blk_frozen h 1, blk_frozen h 2, blk_frozen h 3, blk_frozen h 4, blk_frozen h 5, blk_frozen h 6, blk_frozen h 7, blk_frozen h 8⟩
theorem ext_bits (w : World) (b : Nat) : (callFunc 71 #[.float .f64 b]).run Try.prog w = .ok (.value (.int .u64 (b : Int))) w := (run_callFunc_extern (e := Extern.MathFloatBits.float64bits) Try.func71 (by kernel_rfl) (by kernel_rfl) (by kernel_rfl) (by kernel_rfl) _ w).trans rfl
theorem ext_frombits (w : World) (n : Int) : (callFunc 85 #[.int .u64 n]).run Try.prog w = .ok (.value (.float .f64 n.toNat)) w := (run_callFunc_extern (e := Extern.MathFloatBits.float64frombits) Try.func85 (by kernel_rfl) (by kernel_rfl) (by kernel_rfl) (by kernel_rfl) _ w).trans rfl
theorem ext_cmpb (w : World) (a b : ByteArray) : (callFunc 87 #[.string a, .string b]).run Try.prog w = .ok (.value (.int .i64 (cmpb a b))) w := (run_callFunc_extern (e := Extern.BytealgCompare.compare) Try.func87 (by kernel_rfl) (by kernel_rfl) (by kernel_rfl) (by kernel_rfl) _ w).trans (by rw [run_cmpb]; rfl)
end Go.Proofs.YtkedejphebfneaaW.PrintWords
end
section
/-! How an argument that reads as data reads by a kind: scalars, slices, structs; every part well made and of a size within the form's reach. -/
namespace Go.Proofs.Ytkedejphebfneaa.O
open Go.RowKit Go.Proofs.YtkedejphebfneaaW.PrintWords
open Go.Proofs.Ytkedejphebfneaa.Rows (uptoBulk uptoBulkAll)

/-- What is read by type t, with so much fuel, is read by the kind d, and is well made. -/
def Opens {H α : Type} (enc : TypeId × Value → H) (P : Program) (W : World) (t : TypeId) (d : Kd α) (ok : α → Prop) (m : α → Nat) (fuel : Nat) : Prop :=
  ∀ cs y ps, DataW.trod enc P W 0 (fun _ => true) true fuel t cs = some (y, ps) → (∀ n ∈ y.weights P t, n ≤ reachBytes) → ∃ x, d.K W x cs ∧ ok x ∧ m x ≤ uptoBulk y
/-- The bulk of a list, each part's by m. -/
def sumB {α : Type} (m : α → Nat) (l : List α) : Nat := (l.map m).sum + 1
theorem one_le {H : Type} (d : DataW H) : 1 ≤ uptoBulk d := by
  cases d with
  | lit l => cases l <;> simp [uptoBulk]
  | nil => simp [uptoBulk]
  | ptr d => simp [uptoBulk]
  | slice elems spare => simp [uptoBulk]
  | agg parts => simp [uptoBulk]
  | iface t d => simp [uptoBulk]
  | map entries => simp [uptoBulk]
  | held h => simp [uptoBulk]
theorem sum_le {H α : Type} {m : α → Nat} : ∀ (xs : List α) (ds : List (DataW H)), xs.length ≤ ds.length → (∀ (i : Nat) (x : α), xs[i]? = some x → ∃ d : DataW H, ds[i]? = some d ∧ m x ≤ uptoBulk d) → (xs.map m).sum ≤ uptoBulkAll ds
  | [], _, _, _ => by simp
  | x :: xs, [], h, _ => by simp at h
  | x :: xs, d :: ds, h, hp => by
    obtain ⟨d', e, hm⟩ := hp 0 x rfl
    obtain rfl : d = d' := by simpa using e
    have := sum_le xs ds (by simpa using h) (fun i y hy => by simpa using hp (i + 1) y (by simpa using hy))
    simp only [List.map_cons, List.sum_cons, uptoBulkAll]
    omega
/-- The bulk of place j. -/
def bulkAt {H : Type} (ds : List (DataW H)) (j : Nat) : Nat := match ds[j]? with
  | some d => uptoBulk d
  | none => 0
theorem bulk_sum {H : Type} : ∀ ds : List (DataW H), uptoBulkAll ds = ((List.range ds.length).map (bulkAt ds)).sum
  | [] => by simp [uptoBulkAll]
  | d :: ds => by
    rw [List.length_cons, List.range_succ_eq_map, List.map_cons, List.sum_cons, List.map_map]
    show uptoBulk d + uptoBulkAll ds = uptoBulk d + _
    rw [bulk_sum ds]
    rfl

section
variable {H α : Type} {enc : TypeId × Value → H} {P : Program} {W : World} {t e : TypeId} {fuel : Nat}

theorem opens_int {k : IntKind} (ht : P.underlying t = some (.int k)) : Opens enc P W t (Kd.int k) (fun n => (Lit.int k n).wf = true) (fun _ => 1) fuel := by
  intro cs y ps h hw
  obtain ⟨n, rfl, _, hn⟩ := DataW.trod_int ht h
  exact ⟨n, rfl, hn, one_le _⟩
theorem opens_bool (ht : P.underlying t = some .bool) : Opens enc P W t Kd.bool (fun _ => True) (fun _ => 1) fuel := by
  intro cs y ps h hw
  obtain ⟨b, rfl, _⟩ := DataW.trod_bool ht h
  exact ⟨b, rfl, trivial, one_le _⟩
theorem opens_string (ht : P.underlying t = some .string) : Opens enc P W t Kd.string (fun s => s.size ≤ 140737488351232) (fun s => s.size + 1) fuel := by
  intro cs y ps h hw
  obtain ⟨s, rfl, hx, _⟩ := DataW.trod_string ht h
  obtain ⟨rfl, rfl⟩ := Prod.mk.inj hx
  refine ⟨s, rfl, ?_, by simp [uptoBulk]⟩
  have := hw s.data.toList.length (by simp [DataW.weights])
  rw [Array.length_toList] at this
  exact this
theorem trod_float {k : FloatKind} {cs : List Value} {x : DataW H × List MemPlace} (ht : P.underlying t = some (.float k)) (h : DataW.trod enc P W 0 (fun _ => true) true fuel t cs = some x) : ∃ b, cs = [.float k b] ∧ (Lit.float k b).wf = true := by
  cases fuel with
  | zero => simp [DataW.trod] at h
  | succ n =>
    unfold DataW.trod at h
    rw [ht] at h
    split at h <;> simp_all
theorem opens_float (ht : P.underlying t = some (.float .f64)) : Opens enc P W t Kd.f64 (fun b => (Lit.float .f64 b).wf = true) (fun _ => 1) fuel := by
  intro cs y ps h hw
  obtain ⟨b, rfl, hb⟩ := trod_float ht h
  exact ⟨b, rfl, hb, one_le _⟩
theorem listOf {β : Type} {Q : Nat → β → Prop} : ∀ n : Nat, (∀ i, i < n → ∃ x, Q i x) → ∃ xs : List β, xs.length = n ∧ ∀ i x, xs[i]? = some x → Q i x
  | 0, _ => ⟨[], rfl, fun i x h => by simp at h⟩
  | n + 1, h => by
    obtain ⟨xs, hl, hx⟩ := listOf n (fun i hi => h i (by omega))
    obtain ⟨x, hq⟩ := h n (by omega)
    refine ⟨xs ++ [x], by simp [hl], fun i y hy => ?_⟩
    rcases Nat.lt_trichotomy i n with hi | hi | hi
    · rw [List.getElem?_append_left (by omega)] at hy; exact hx i y hy
    · subst hi
      have : x = y := by simpa [← hl] using hy
      rw [← this]; exact hq
    · have : (xs ++ [x])[i]? = none := List.getElem?_eq_none (by simp; omega)
      rw [this] at hy; cases hy
theorem cells_some {base : Nat} {a : Addr} {n : Nat} {cs : List Value} (h : W.cells? base a n = some cs) : cs.length = n ∧ ∀ i u, cs[i]? = some u → W.cell? (a.add i) = some u := by
  unfold World.cells? at h
  split at h
  · have hl := mapM_some_length h
    simp at hl
    refine ⟨hl, fun i u hu => ?_⟩
    have hi : i < n := by have := (List.getElem?_eq_some_iff.1 hu).1; omega
    have := mapM_some_get h i i (by simp [hi])
    rw [this]; exact hu
  · cases h
theorem weights_all {e : TypeId} {l : List (DataW H)} {d : DataW H} (hd : d ∈ l) : ∀ n ∈ d.weights P e, n ∈ DataW.weightsAll P e l := by
  induction l with
  | nil => simp at hd
  | cons a l ih =>
    intro n hn
    simp only [DataW.weightsAll, List.mem_append]
    rcases List.mem_cons.1 hd with rfl | hd
    · exact .inl hn
    · exact .inr (ih hd n hn)
theorem add_add' (a : Addr) (i j : Nat) : (a.add i).add j = a.add (i + j) := by
  unfold Addr.add
  by_cases h1 : i = 0 <;> by_cases h2 : j = 0 <;> simp [h1, h2, Nat.add_assoc]
theorem opens_slice {d : Kd α} {ok : α → Prop} {m : α → Nat} (B : Nat) (ht : P.underlying t = some (.slice e)) (hc : P.cellsOf e = d.sz) (hB : P.bytesOf e = B) (he : ∀ n, n < fuel → Opens enc P W e d ok m n) :
    Opens enc P W t (Kd.slice e d) (fun xs => xs.length * B ≤ 140737488351232 ∧ ∀ x ∈ xs, ok x) (sumB m) fuel := by
  intro cs y ps h hw
  rcases DataW.trod_slice ht h with ⟨rfl, _⟩ | ⟨a, len, cap, elems, rest, n, rfl, rfl, hx, hb, hl, hm, hlen, hel, hsp, _⟩
  · exact ⟨[], ⟨none, 0, rfl, by simp, rfl, by simp, fun hn => absurd hn (by simp)⟩, ⟨by simp, fun x hx => by simp at hx⟩, by simpa [sumB] using one_le y⟩
  · obtain ⟨rfl, rfl⟩ := Prod.mk.inj hx
    have hwc : (elems.length + rest.length) * P.bytesOf e ≤ reachBytes := by
      have := hw ((elems.map (·.1)).length + (rest.map (·.1)).length |> (· * P.bytesOf e)) (by simp [DataW.weights, ht])
      simpa using this
    have hwe : ∀ (i : Nat) (z : DataW H × List MemPlace), elems[i]? = some z → ∀ n ∈ z.1.weights P e, n ≤ reachBytes := by
      intro i z hz m hm
      refine hw m ?_
      simp only [DataW.weights, ht]
      refine List.mem_cons_of_mem _ (List.mem_append_left _ (weights_all (d := z.1) ?_ m hm))
      exact List.mem_map.2 ⟨z, List.mem_of_getElem? hz, rfl⟩
    have key : ∀ i, i < len → ∃ x, (∃ c, c.length = d.sz ∧ d.K W x c ∧ ∀ j u, c[j]? = some u → W.cell? (a.add (i * d.sz + j)) = some u) ∧ ok x ∧ ∃ z, (elems.map (·.1))[i]? = some z ∧ m x ≤ uptoBulk z := by
      intro i hi
      have h1 := hel i hi
      obtain ⟨z, hz⟩ : ∃ z, elems[i]? = some z := ⟨_, List.getElem?_eq_getElem (by omega)⟩
      rw [hz, Option.bind_eq_some_iff] at h1
      obtain ⟨c, hcs, hz2⟩ := h1
      obtain ⟨hcl, hcc⟩ := cells_some hcs
      obtain ⟨x, hk, ho, hm_⟩ := he n (by omega) c z.1 z.2 hz2 (hwe i z hz)
      refine ⟨x, ⟨c, by rw [hcl, hc], hk, fun j u hu => ?_⟩, ho, z.1, by rw [List.getElem?_map, hz]; rfl, hm_⟩
      have := hcc j u hu
      rw [add_add', hc] at this
      exact this
    obtain ⟨xs, hxl, hxs⟩ := listOf len key
    refine ⟨xs, ⟨some a, cap, by rw [hxl], by omega, rfl, by simp only [maxLen] at hm; omega, fun _ => ⟨a, rfl, fun j p hj => (hxs j p hj).1⟩⟩, ⟨?_, fun x hx => ?_⟩, ?_⟩
    · have : reachBytes = 140737488351232 := rfl
      rw [hB] at hwc
      exact Nat.le_trans (Nat.mul_le_mul_right _ (by omega)) (this ▸ hwc)
    · obtain ⟨i, hi⟩ := List.getElem?_of_mem hx
      exact (hxs i x hi).2.1
    · have := sum_le (m := m) xs (elems.map (·.1)) (by simp; omega) (fun i x hi => (hxs i x hi).2.2)
      simp only [sumB, uptoBulk]
      omega
/-- A struct's field j: its cells, what it reads. -/
theorem field_of {fs : Array Field} {xs : List (DataW H × List MemPlace)} {n : Nat} {cs : List Value} {ok : α → Prop} {m : α → Nat} {d : Kd α} (j : Nat) (f : Field) (hl : xs.length = fs.size) (hj : fs[j]? = some f)
    (hf : ∀ (i : Nat) (f : Field), fs[i]? = some f → DataW.trod enc P W 0 (fun _ => true) true n f.type ((cs.drop f.offset).take (P.cellsOf f.type)) = xs[i]?)
    (ht : P.underlying t = some (.struct fs)) (hw : ∀ m ∈ (DataW.agg (xs.map (·.1))).weights P t, m ≤ reachBytes) (ho : Opens enc P W f.type d ok m n) : ∃ x, d.K W x ((cs.drop f.offset).take (P.cellsOf f.type)) ∧ ok x ∧ m x ≤ bulkAt (xs.map (·.1)) j := by
  have h1 := hf j f hj
  have hjl : j < xs.length := by have := (Array.getElem?_eq_some_iff.1 hj).1; omega
  rw [List.getElem?_eq_getElem hjl] at h1
  have e0 : bulkAt (xs.map (·.1)) j = uptoBulk xs[j].1 := by unfold bulkAt; rw [List.getElem?_map, List.getElem?_eq_getElem hjl]; rfl
  rw [e0]
  refine ho _ xs[j].1 xs[j].2 h1 (fun m hm => hw m ?_)
  simp only [DataW.weights, ht]
  refine DataW.weights_mem_each (j := j) (t := f.type) (d := xs[j].1) ?_ ?_ m hm
  · rw [List.getElem?_map]
    have : fs.toList[j]? = some f := by rw [Array.getElem?_toList]; exact hj
    rw [this]; rfl
  · rw [List.getElem?_map, List.getElem?_eq_getElem hjl]; rfl
theorem cut_at (cs : List Value) (o s : Nat) : cs.drop o = (cs.drop o).take s ++ cs.drop (o + s) := by
  rw [← List.drop_drop]; exact (List.take_append_drop s (cs.drop o)).symm
end
end Go.Proofs.Ytkedejphebfneaa.O
end
section
/-! The steps of a region that draws its order, said shortly. -/
namespace Go.Proofs.YtkedejphebfneaaW.PrintLast
open Go.RowKit Go.Proofs.YtkedejphebfneaaW.PrintWords
section
variable {P : Program} {ops : Array Oper} {Q : Exit → Act → World → Prop} {md : Region.Mode} {S : World → Prop} {ds : List Nat}
theorem pureP {i : Nat} {N : Option Tmp} {oi : Oper} {v : Value} {fuel : Nat} {l : Array Bool} {a : Act} {w : World} (l' : Array Bool) (hc : anyB md ops l l' i = true) {a' : Act} (h : wpAnyLast P md ops Q S ds fuel l' a' w)
    (hi : ops[i]? = some oi := by rfl) (hN : oi.dst = N := by rfl) (hQ : ∀ c a w, Q (.panic c) (a.put oi.dst v) w → Q (.panic c) a w := by exact fun _ _ _ h => h)
    (hy : Yields P ops oi v a := by (refine Or.inl ⟨by rfl, ?_⟩; intro w'; go_simp; with_reducible rfl))
    (ha : a.put N v = a' := by (simp only [Act.put, List.setIfInBounds_toArray, List.set_cons_zero, List.set_cons_succ, i64_w, i32_w]; rfl)) : wpAnyLast P md ops Q S ds (fuel + 1) l a w := pure_ l' hi hN hc hQ hy ha h
theorem pureO {i : Nat} {N : Option Tmp} {oi : Oper} {fuel : Nat} {l : Array Bool} {a : Act} {w : World} (l' : Array Bool) (hc : anyB md ops l l' i = true) {a' : Act} (h : wpAnyLast P md ops Q S ds fuel l' a' w)
    (hi : ops[i]? = some oi := by rfl) (hN : oi.dst = N := by rfl) (hQ : ∀ c a w, Q (.panic c) (a.put oi.dst undef) w → Q (.panic c) a w := by exact fun _ _ _ h => h)
    (hy : Yields P ops oi undef a := by exact Or.inr ⟨by rfl, rfl⟩)
    (ha : a.put N undef = a' := by (simp only [Act.put, List.setIfInBounds_toArray, List.set_cons_zero, List.set_cons_succ, i64_w, i32_w]; rfl)) : wpAnyLast P md ops Q S ds (fuel + 1) l a w := pure_ l' hi hN hc hQ hy ha h
theorem takeP {i : Nat} {N : Option Tmp} {oi : Oper} {v : Value} {fuel : Nat} {l : Array Bool} {a : Act} {w : World} (l' : Array Bool) (hc : takeB md ops ds l l' i = true) (hS : S w) {a' : Act} (h : wpAnyLast P md ops Q S ds fuel l' a' w)
    (hi : ops[i]? = some oi := by rfl) (hN : oi.dst = N := by rfl) (hQ : ∀ c a w, Q (.panic c) (a.put oi.dst v) w → Q (.panic c) a w := by exact fun _ _ _ h => h)
    (hy : YieldsIf P ops S oi v a := by (refine Or.inl ⟨by rfl, ?_⟩; intro w' hS_; (repeat obtain ⟨_, hS_⟩ := hS_); go_simp; with_reducible rfl))
    (ha : a.put N v = a' := by (simp only [Act.put, List.setIfInBounds_toArray, List.set_cons_zero, List.set_cons_succ, i64_w, i32_w]; rfl)) : wpAnyLast P md ops Q S ds (fuel + 1) l a w := take_ l' hi hN hc hQ hy hS ha h
end
end Go.Proofs.YtkedejphebfneaaW.PrintLast
end
section
-- Written by xprint.py, a program of this session, over the kit's print. Not trusted: Lean checks it.
namespace Go.Proofs.Ytkedejphebfneaa.Pa
open Go.RowKit Go.Proofs.YtkedejphebfneaaW.PrintWords Go.Proofs.YtkedejphebfneaaW.PrintLast Go.Proofs.YtkedejphebfneaaW.PrintMore
attribute [local go_sem] max2_int min2_int max_two min_two max_three min_three max_four min_four   -- for this text's walks alone
attribute [local go_sem] run_store_float cmp_feq cmp_fne cmp_flt cmp_fle cmp_fgt cmp_fge un_fneg equalIn_feq run_fop run_fint run_freal cmp_sgt ext_bits ext_frombits ext_cmpb
set_option linter.unusedVariables false
set_option linter.unusedSimpArgs false



def errW : Option Int → Value
  | none => .nilIface
  | some c => .iface 0 (.int .i64 c)
theorem errW_none : errW none = .nilIface := rfl
theorem errW_some (c : Int) : errW (some c) = .iface 0 (.int .i64 c) := rfl

theorem info3 : (Try.prog.info? 3).map (fun i => (i.zero, i.size, i.bytes)) = some (some (.int .i64 0), 1, 8) := by kernel_rfl
theorem info23 : (Try.prog.info? 23).map (fun i => (i.zero, i.size, i.bytes)) = some (some (.agg #[(.string ⟨#[]⟩), (.int .i64 0), (.bool false)]), 3, 32) := by kernel_rfl
theorem info28 : (Try.prog.info? 28).map (fun i => (i.zero, i.size, i.bytes)) = some (some (.agg #[(.int .i64 0), (.int .i64 0), (.float .f64 0), (.string ⟨#[]⟩)]), 4, 40) := by kernel_rfl
theorem info32 : (Try.prog.info? 32).map (fun i => (i.zero, i.size, i.bytes)) = some (some (.agg #[(.int .i64 0), (.string ⟨#[]⟩), (.int .i64 0), (.int .i64 0), (.int .i64 0), (.float .f64 0), (.string ⟨#[]⟩), (.slice none 0 0), (.slice none 0 0)]), 9, 120) := by kernel_rfl
theorem info41 : (Try.prog.info? 41).map (fun i => (i.zero, i.size, i.bytes)) = some (some (.int .i8 0), 1, 1) := by kernel_rfl
-- the values' own types
/-! #### struct type 23 -/
structure S23 where
  f0 : ByteArray
  f1 : Int
  f2 : Bool
def z23 : S23 := ⟨(⟨#[]⟩ : ByteArray), (0 : Int), false⟩
def k23 : Kd S23 := Kd.iso (Kd.pair Kd.string (Kd.pair (Kd.int .i64) Kd.bool)) (fun x : S23 => (x.f0, x.f1, x.f2))
theorem k23_heap : Kd.Heap k23 := Kd.heap_iso _ (Kd.heap_pair Kd.heap_string (Kd.heap_pair (Kd.heap_int .i64) Kd.heap_bool))
theorem k23_open {w : World} {x : S23} {cs : List Value} (h : k23.K w x cs) : cs = [.string x.f0, .int .i64 x.f1, .bool x.f2] := by
  obtain ⟨_, _, rfl, rfl, ⟨_, _, rfl, rfl, rfl⟩⟩ := h
  exact rfl
theorem k23_openM {w : World} {base : Nat} {ok : Nat → Prop} {x : S23} {cs : List Value} (h : k23.M w base ok x cs) : cs = [.string x.f0, .int .i64 x.f1, .bool x.f2] := by
  obtain ⟨_, _, rfl, rfl, ⟨_, _, rfl, rfl, rfl⟩⟩ := h
  exact rfl
theorem k23_mk (w : World) (x : S23)  : k23.K w x [.string x.f0, .int .i64 x.f1, .bool x.f2] := ⟨[.string x.f0], [.int .i64 x.f1, .bool x.f2], rfl, rfl, ⟨[.int .i64 x.f1], [.bool x.f2], rfl, rfl, rfl⟩⟩
theorem k23_mkM (w : World) (base : Nat) (ok : Nat → Prop) (x : S23)  : k23.M w base ok x [.string x.f0, .int .i64 x.f1, .bool x.f2] := ⟨[.string x.f0], [.int .i64 x.f1, .bool x.f2], rfl, rfl, ⟨[.int .i64 x.f1], [.bool x.f2], rfl, rfl, rfl⟩⟩
theorem k23_mkF (W : World) (ok : Nat → Prop) (x : S23) : Kd.FK k23 W ok x [.string x.f0, .int .i64 x.f1, .bool x.f2] := fun W2 _ => k23_mk W2 x
def rd_T23 (xs : List S23) (i : Int) : S23 := xs.getD i.toNat z23
theorem at_T23 {w : World} {A : Option Addr} {n : Nat} {xs : List S23} (h : Kd.C k23 w A n xs) (i : Int) (h0 : 0 ≤ i) (h1 : i < n) : ∃ ad , A = some ad ∧ w.cell? (ad.add (i.toNat * 3)) = some (.string (rd_T23 xs i).f0) ∧ w.cell? ⟨(ad.add (i.toNat * 3)).block, (ad.add (i.toNat * 3)).off + 1, none⟩ = some (.int .i64 (rd_T23 xs i).f1) ∧ w.cell? ⟨(ad.add (i.toNat * 3)).block, (ad.add (i.toNat * 3)).off + 2, none⟩ = some (.bool (rd_T23 xs i).f2) := by
  obtain ⟨ad, c, e, _, hK, hc0⟩ := Kd.C_get h z23 i h0 h1
  have hc : ∀ j u, c[j]? = some u → w.cell? (ad.add (i.toNat * 3 + j)) = some u := hc0
  obtain rfl := k23_open hK
  exact ⟨ad, e, hc 0 _ rfl, by rw [← add_field _ _ 1 (by omega)]; exact hc 1 _ rfl, by rw [← add_field _ _ 2 (by omega)]; exact hc 2 _ rfl⟩

def rd_L4 (xs : List (List S23)) (i : Int) : (List S23) := xs.getD i.toNat ([] : List S23)
theorem at_L4 {w : World} {A : Option Addr} {n : Nat} {xs : List (List S23)} (h : Kd.C (Kd.slice 23 k23) w A n xs) (i : Int) (h0 : 0 ≤ i) (h1 : i < n) : ∃ ad A0 c0, A = some ad ∧ w.cell? (ad.add i.toNat) = some (.slice A0 (rd_L4 xs i).length c0) ∧ (rd_L4 xs i).length ≤ c0 ∧ k23.C w A0 (rd_L4 xs i).length (rd_L4 xs i) := by
  obtain ⟨ad, c, e, _, hK, hc0⟩ := Kd.C_get h ([] : List S23) i h0 h1
  have hc : ∀ j u, c[j]? = some u → w.cell? (ad.add (i.toNat * 1 + j)) = some u := hc0
  obtain ⟨A0, c0, rfl, l0, g0⟩ := hK
  exact ⟨ad, A0, c0, e, by have hq := hc 0 _ rfl; rwa [Nat.mul_one, Nat.add_zero] at hq, l0, g0⟩

/-! #### struct type 28 -/
structure S28 where
  f0 : Int
  f1 : Int
  f2 : Nat
  f3 : ByteArray
def z28 : S28 := ⟨(0 : Int), (0 : Int), (0 : Nat), (⟨#[]⟩ : ByteArray)⟩
def k28 : Kd S28 := Kd.iso (Kd.pair (Kd.int .i64) (Kd.pair (Kd.int .i64) (Kd.pair Kd.f64 Kd.string))) (fun x : S28 => (x.f0, x.f1, x.f2, x.f3))
theorem k28_heap : Kd.Heap k28 := Kd.heap_iso _ (Kd.heap_pair (Kd.heap_int .i64) (Kd.heap_pair (Kd.heap_int .i64) (Kd.heap_pair Kd.heap_f64 Kd.heap_string)))
theorem k28_open {w : World} {x : S28} {cs : List Value} (h : k28.K w x cs) : cs = [.int .i64 x.f0, .int .i64 x.f1, .float .f64 x.f2, .string x.f3] := by
  obtain ⟨_, _, rfl, rfl, ⟨_, _, rfl, rfl, ⟨_, _, rfl, rfl, rfl⟩⟩⟩ := h
  exact rfl
theorem k28_openM {w : World} {base : Nat} {ok : Nat → Prop} {x : S28} {cs : List Value} (h : k28.M w base ok x cs) : cs = [.int .i64 x.f0, .int .i64 x.f1, .float .f64 x.f2, .string x.f3] := by
  obtain ⟨_, _, rfl, rfl, ⟨_, _, rfl, rfl, ⟨_, _, rfl, rfl, rfl⟩⟩⟩ := h
  exact rfl
theorem k28_mk (w : World) (x : S28)  : k28.K w x [.int .i64 x.f0, .int .i64 x.f1, .float .f64 x.f2, .string x.f3] := ⟨[.int .i64 x.f0], [.int .i64 x.f1, .float .f64 x.f2, .string x.f3], rfl, rfl, ⟨[.int .i64 x.f1], [.float .f64 x.f2, .string x.f3], rfl, rfl, ⟨[.float .f64 x.f2], [.string x.f3], rfl, rfl, rfl⟩⟩⟩
theorem k28_mkM (w : World) (base : Nat) (ok : Nat → Prop) (x : S28)  : k28.M w base ok x [.int .i64 x.f0, .int .i64 x.f1, .float .f64 x.f2, .string x.f3] := ⟨[.int .i64 x.f0], [.int .i64 x.f1, .float .f64 x.f2, .string x.f3], rfl, rfl, ⟨[.int .i64 x.f1], [.float .f64 x.f2, .string x.f3], rfl, rfl, ⟨[.float .f64 x.f2], [.string x.f3], rfl, rfl, rfl⟩⟩⟩
theorem k28_mkF (W : World) (ok : Nat → Prop) (x : S28) : Kd.FK k28 W ok x [.int .i64 x.f0, .int .i64 x.f1, .float .f64 x.f2, .string x.f3] := fun W2 _ => k28_mk W2 x
def rd_T28 (xs : List S28) (i : Int) : S28 := xs.getD i.toNat z28
theorem at_T28 {w : World} {A : Option Addr} {n : Nat} {xs : List S28} (h : Kd.C k28 w A n xs) (i : Int) (h0 : 0 ≤ i) (h1 : i < n) : ∃ ad , A = some ad ∧ w.cell? (ad.add (i.toNat * 4)) = some (.int .i64 (rd_T28 xs i).f0) ∧ w.cell? ⟨(ad.add (i.toNat * 4)).block, (ad.add (i.toNat * 4)).off + 1, none⟩ = some (.int .i64 (rd_T28 xs i).f1) ∧ w.cell? ⟨(ad.add (i.toNat * 4)).block, (ad.add (i.toNat * 4)).off + 2, none⟩ = some (.float .f64 (rd_T28 xs i).f2) ∧ w.cell? ⟨(ad.add (i.toNat * 4)).block, (ad.add (i.toNat * 4)).off + 3, none⟩ = some (.string (rd_T28 xs i).f3) := by
  obtain ⟨ad, c, e, _, hK, hc0⟩ := Kd.C_get h z28 i h0 h1
  have hc : ∀ j u, c[j]? = some u → w.cell? (ad.add (i.toNat * 4 + j)) = some u := hc0
  obtain rfl := k28_open hK
  exact ⟨ad, e, hc 0 _ rfl, by rw [← add_field _ _ 1 (by omega)]; exact hc 1 _ rfl, by rw [← add_field _ _ 2 (by omega)]; exact hc 2 _ rfl, by rw [← add_field _ _ 3 (by omega)]; exact hc 3 _ rfl⟩

def rd_L7 (xs : List (List S28)) (i : Int) : (List S28) := xs.getD i.toNat ([] : List S28)
theorem at_L7 {w : World} {A : Option Addr} {n : Nat} {xs : List (List S28)} (h : Kd.C (Kd.slice 28 k28) w A n xs) (i : Int) (h0 : 0 ≤ i) (h1 : i < n) : ∃ ad A0 c0, A = some ad ∧ w.cell? (ad.add i.toNat) = some (.slice A0 (rd_L7 xs i).length c0) ∧ (rd_L7 xs i).length ≤ c0 ∧ k28.C w A0 (rd_L7 xs i).length (rd_L7 xs i) := by
  obtain ⟨ad, c, e, _, hK, hc0⟩ := Kd.C_get h ([] : List S28) i h0 h1
  have hc : ∀ j u, c[j]? = some u → w.cell? (ad.add (i.toNat * 1 + j)) = some u := hc0
  obtain ⟨A0, c0, rfl, l0, g0⟩ := hK
  exact ⟨ad, A0, c0, e, by have hq := hc 0 _ rfl; rwa [Nat.mul_one, Nat.add_zero] at hq, l0, g0⟩

/-! #### struct type 32, nested in itself -/
structure S32 where
  f0 : Int
  f1 : ByteArray
  f2 : Int
  f3 : S28
  f4 : (List S28)
  f5 : (List S32)
def z32 : S32 := ⟨(0 : Int), (⟨#[]⟩ : ByteArray), (0 : Int), z28, ([] : List S28), ([] : List S32)⟩
def F32 (d : Kd S32) : Kd S32 := Kd.iso (Kd.pair (Kd.int .i64) (Kd.pair Kd.string (Kd.pair (Kd.int .i64) (Kd.pair k28 (Kd.pair (Kd.slice 28 k28) (Kd.slice 32 d)))))) (fun x : S32 => (x.f0, x.f1, x.f2, x.f3, x.f4, x.f5))
theorem mono32 : Kd.Mono F32 := Kd.mono_iso _ (Kd.mono_pair (Kd.mono_const _) (Kd.mono_pair (Kd.mono_const _) (Kd.mono_pair (Kd.mono_const _) (Kd.mono_pair (Kd.mono_const _) (Kd.mono_pair (Kd.mono_const _) (Kd.mono_slice 32 Kd.mono_id))))))
theorem sub32 : Kd.Sub F32 [28, 32] := Kd.sub_iso _ (Kd.sub_pair (Kd.sub_const _ (by decide)) (Kd.sub_pair (Kd.sub_const _ (by decide)) (Kd.sub_pair (Kd.sub_const _ (by decide)) (Kd.sub_pair (Kd.sub_const _ (by decide)) (Kd.sub_pair (Kd.sub_const _ (by decide)) (Kd.sub_slice 32 (by decide) Kd.sub_id))))))
theorem sz32 : ∀ n, (Kd.upto F32 9 [28, 32] n).sz = 9 := Kd.upto_sz (fun _ => rfl)
def k32 : Kd S32 := Kd.fix F32 9 [28, 32] sz32 (Kd.upto_E sub32)
theorem k32_heap : Kd.Heap k32 := Kd.heap_fix (fun _ h_ => Kd.heap_iso _ (Kd.heap_pair (Kd.heap_int .i64) (Kd.heap_pair Kd.heap_string (Kd.heap_pair (Kd.heap_int .i64) (Kd.heap_pair k28_heap (Kd.heap_pair (Kd.heap_slice 28 k28_heap) (Kd.heap_slice 32 h_)))))))
theorem k32_open {w : World} {x : S32} {cs : List Value} (h : k32.K w x cs) : ∃ A7 c7 A8 c8, cs = [.int .i64 x.f0, .string x.f1, .int .i64 x.f2, .int .i64 x.f3.f0, .int .i64 x.f3.f1, .float .f64 x.f3.f2, .string x.f3.f3, .slice A7 x.f4.length c7, .slice A8 x.f5.length c8] ∧ x.f4.length ≤ c7 ∧ k28.C w A7 x.f4.length x.f4 ∧ x.f5.length ≤ c8 ∧ k32.C w A8 x.f5.length x.f5 := by
  obtain ⟨n, h⟩ := h
  cases n with
  | zero => exact h.elim
  | succ n =>
    obtain ⟨_, _, rfl, rfl, ⟨_, _, rfl, rfl, ⟨_, _, rfl, rfl, ⟨_, _, rfl, s3, ⟨_, _, rfl, ⟨A7, c7, rfl, l7, g7⟩, ⟨A8, c8, rfl, l8, g8⟩⟩⟩⟩⟩⟩ := h
    obtain rfl := k28_open s3
    exact ⟨A7, c7, A8, c8, rfl, l7, g7, l8, Kd.fix_C g8⟩
theorem k32_openM {w : World} {base : Nat} {ok : Nat → Prop} {x : S32} {cs : List Value} (h : k32.M w base ok x cs) : ∃ v7 v8, cs = [.int .i64 x.f0, .string x.f1, .int .i64 x.f2, .int .i64 x.f3.f0, .int .i64 x.f3.f1, .float .f64 x.f3.f2, .string x.f3.f3, v7, v8] ∧ k28.R 28 w base ok v7 x.f4 ∧ k32.R 32 w base ok v8 x.f5 := by
  obtain ⟨n, h⟩ := h
  cases n with
  | zero => exact h.elim
  | succ n =>
    obtain ⟨_, _, rfl, rfl, ⟨_, _, rfl, rfl, ⟨_, _, rfl, rfl, ⟨_, _, rfl, s3, ⟨_, _, rfl, ⟨v7, rfl, g7⟩, ⟨v8, rfl, g8⟩⟩⟩⟩⟩⟩ := h
    obtain rfl := k28_openM s3
    exact ⟨v7, v8, rfl, g7, Kd.fix_R g8⟩
theorem k32_mk (w : World) (x : S32) {A7 : Option Addr} {c7 : Nat} (l7 : x.f4.length ≤ c7) (g7 : k28.C w A7 x.f4.length x.f4) {A8 : Option Addr} {c8 : Nat} (l8 : x.f5.length ≤ c8) (g8 : k32.C w A8 x.f5.length x.f5) : k32.K w x [.int .i64 x.f0, .string x.f1, .int .i64 x.f2, .int .i64 x.f3.f0, .int .i64 x.f3.f1, .float .f64 x.f3.f2, .string x.f3.f3, .slice A7 x.f4.length c7, .slice A8 x.f5.length c8] := by
  obtain ⟨n8, q8⟩ := Kd.fix_C_back mono32 g8
  have r8 := Kd.upto_C_le mono32 sz32 (show n8 ≤ n8 by omega) q8
  exact ⟨n8 + 1, ⟨[.int .i64 x.f0], [.string x.f1, .int .i64 x.f2, .int .i64 x.f3.f0, .int .i64 x.f3.f1, .float .f64 x.f3.f2, .string x.f3.f3, .slice A7 x.f4.length c7, .slice A8 x.f5.length c8], rfl, rfl, ⟨[.string x.f1], [.int .i64 x.f2, .int .i64 x.f3.f0, .int .i64 x.f3.f1, .float .f64 x.f3.f2, .string x.f3.f3, .slice A7 x.f4.length c7, .slice A8 x.f5.length c8], rfl, rfl, ⟨[.int .i64 x.f2], [.int .i64 x.f3.f0, .int .i64 x.f3.f1, .float .f64 x.f3.f2, .string x.f3.f3, .slice A7 x.f4.length c7, .slice A8 x.f5.length c8], rfl, rfl, ⟨[.int .i64 x.f3.f0, .int .i64 x.f3.f1, .float .f64 x.f3.f2, .string x.f3.f3], [.slice A7 x.f4.length c7, .slice A8 x.f5.length c8], rfl, (k28_mk w x.f3 ), ⟨[.slice A7 x.f4.length c7], [.slice A8 x.f5.length c8], rfl, ⟨A7, c7, rfl, l7, g7⟩, ⟨A8, c8, rfl, l8, r8⟩⟩⟩⟩⟩⟩⟩
theorem k32_mkM (w : World) (base : Nat) (ok : Nat → Prop) (x : S32) {v7 : Value} (g7 : k28.R 28 w base ok v7 x.f4) {v8 : Value} (g8 : k32.R 32 w base ok v8 x.f5) : k32.M w base ok x [.int .i64 x.f0, .string x.f1, .int .i64 x.f2, .int .i64 x.f3.f0, .int .i64 x.f3.f1, .float .f64 x.f3.f2, .string x.f3.f3, v7, v8] := by
  obtain ⟨n8, q8⟩ := Kd.fix_R_back mono32 g8
  have r8 := Kd.upto_R_le mono32 sz32 (show n8 ≤ n8 by omega) q8
  exact ⟨n8 + 1, ⟨[.int .i64 x.f0], [.string x.f1, .int .i64 x.f2, .int .i64 x.f3.f0, .int .i64 x.f3.f1, .float .f64 x.f3.f2, .string x.f3.f3, v7, v8], rfl, rfl, ⟨[.string x.f1], [.int .i64 x.f2, .int .i64 x.f3.f0, .int .i64 x.f3.f1, .float .f64 x.f3.f2, .string x.f3.f3, v7, v8], rfl, rfl, ⟨[.int .i64 x.f2], [.int .i64 x.f3.f0, .int .i64 x.f3.f1, .float .f64 x.f3.f2, .string x.f3.f3, v7, v8], rfl, rfl, ⟨[.int .i64 x.f3.f0, .int .i64 x.f3.f1, .float .f64 x.f3.f2, .string x.f3.f3], [v7, v8], rfl, (k28_mkM w base ok x.f3 ), ⟨[v7], [v8], rfl, ⟨v7, rfl, g7⟩, ⟨v8, rfl, r8⟩⟩⟩⟩⟩⟩⟩
theorem k32_openF {W : World} {ok : Nat → Prop} {x : S32} {cs : List Value} (h : Kd.FK k32 W ok x cs) : ∃ A7 c7 A8 c8, cs = [.int .i64 x.f0, .string x.f1, .int .i64 x.f2, .int .i64 x.f3.f0, .int .i64 x.f3.f1, .float .f64 x.f3.f2, .string x.f3.f3, .slice A7 x.f4.length c7, .slice A8 x.f5.length c8] ∧ x.f4.length ≤ c7 ∧ Kd.F k28 W ok A7 x.f4.length x.f4 ∧ x.f5.length ≤ c8 ∧ Kd.F k32 W ok A8 x.f5.length x.f5 := by
  obtain ⟨A7, c7, A8, c8, rfl, l7, _, l8, _⟩ := k32_open (Kd.FK_now h)
  exact ⟨A7, c7, A8, c8, rfl, l7, (fun W' hW => by obtain ⟨A7_, c7_, A8_, c8_, he, l7_, g7_, l8_, g8_⟩ := k32_open (h W' hW); injection (Option.some.inj (show some (Value.slice A7 x.f4.length c7) = some (Value.slice A7_ x.f4.length c7_) from congrArg (fun l => l[7]?) he)) with ha_ _ _; rw [ha_]; exact g7_), l8, (fun W' hW => by obtain ⟨A7_, c7_, A8_, c8_, he, l7_, g7_, l8_, g8_⟩ := k32_open (h W' hW); injection (Option.some.inj (show some (Value.slice A8 x.f5.length c8) = some (Value.slice A8_ x.f5.length c8_) from congrArg (fun l => l[8]?) he)) with ha_ _ _; rw [ha_]; exact g8_)⟩
theorem k32_mkF (W : World) (ok : Nat → Prop) (x : S32) {A7 : Option Addr} {c7 : Nat} (l7 : x.f4.length ≤ c7) (g7 : Kd.F k28 W ok A7 x.f4.length x.f4) {A8 : Option Addr} {c8 : Nat} (l8 : x.f5.length ≤ c8) (g8 : Kd.F k32 W ok A8 x.f5.length x.f5) : Kd.FK k32 W ok x [.int .i64 x.f0, .string x.f1, .int .i64 x.f2, .int .i64 x.f3.f0, .int .i64 x.f3.f1, .float .f64 x.f3.f2, .string x.f3.f3, .slice A7 x.f4.length c7, .slice A8 x.f5.length c8] := fun W2 hW => k32_mk W2 x l7 (g7 W2 hW) l8 (g8 W2 hW)
def rd_T32 (xs : List S32) (i : Int) : S32 := xs.getD i.toNat z32
theorem at_T32 {w : World} {A : Option Addr} {n : Nat} {xs : List S32} (h : Kd.C k32 w A n xs) (i : Int) (h0 : 0 ≤ i) (h1 : i < n) : ∃ ad A7 c7 A8 c8, A = some ad ∧ w.cell? (ad.add (i.toNat * 9)) = some (.int .i64 (rd_T32 xs i).f0) ∧ w.cell? ⟨(ad.add (i.toNat * 9)).block, (ad.add (i.toNat * 9)).off + 1, none⟩ = some (.string (rd_T32 xs i).f1) ∧ w.cell? ⟨(ad.add (i.toNat * 9)).block, (ad.add (i.toNat * 9)).off + 2, none⟩ = some (.int .i64 (rd_T32 xs i).f2) ∧ w.cell? ⟨(ad.add (i.toNat * 9)).block, (ad.add (i.toNat * 9)).off + 3, none⟩ = some (.int .i64 (rd_T32 xs i).f3.f0) ∧ w.cell? ⟨(ad.add (i.toNat * 9)).block, (ad.add (i.toNat * 9)).off + 4, none⟩ = some (.int .i64 (rd_T32 xs i).f3.f1) ∧ w.cell? ⟨(ad.add (i.toNat * 9)).block, (ad.add (i.toNat * 9)).off + 5, none⟩ = some (.float .f64 (rd_T32 xs i).f3.f2) ∧ w.cell? ⟨(ad.add (i.toNat * 9)).block, (ad.add (i.toNat * 9)).off + 6, none⟩ = some (.string (rd_T32 xs i).f3.f3) ∧ w.cell? ⟨(ad.add (i.toNat * 9)).block, (ad.add (i.toNat * 9)).off + 7, none⟩ = some (.slice A7 (rd_T32 xs i).f4.length c7) ∧ w.cell? ⟨(ad.add (i.toNat * 9)).block, (ad.add (i.toNat * 9)).off + 8, none⟩ = some (.slice A8 (rd_T32 xs i).f5.length c8) ∧ (rd_T32 xs i).f4.length ≤ c7 ∧ k28.C w A7 (rd_T32 xs i).f4.length (rd_T32 xs i).f4 ∧ (rd_T32 xs i).f5.length ≤ c8 ∧ k32.C w A8 (rd_T32 xs i).f5.length (rd_T32 xs i).f5 := by
  obtain ⟨ad, c, e, _, hK, hc0⟩ := Kd.C_get h z32 i h0 h1
  have hc : ∀ j u, c[j]? = some u → w.cell? (ad.add (i.toNat * 9 + j)) = some u := hc0
  obtain ⟨A7, c7, A8, c8, rfl, l7, g7, l8, g8⟩ := k32_open hK
  exact ⟨ad, A7, c7, A8, c8, e, hc 0 _ rfl, by rw [← add_field _ _ 1 (by omega)]; exact hc 1 _ rfl, by rw [← add_field _ _ 2 (by omega)]; exact hc 2 _ rfl, by rw [← add_field _ _ 3 (by omega)]; exact hc 3 _ rfl, by rw [← add_field _ _ 4 (by omega)]; exact hc 4 _ rfl, by rw [← add_field _ _ 5 (by omega)]; exact hc 5 _ rfl, by rw [← add_field _ _ 6 (by omega)]; exact hc 6 _ rfl, by rw [← add_field _ _ 7 (by omega)]; exact hc 7 _ rfl, by rw [← add_field _ _ 8 (by omega)]; exact hc 8 _ rfl, l7, g7, l8, g8⟩

end Go.Proofs.Ytkedejphebfneaa.Pa
end
section
/- How the arguments of this layer's laws open: by their types. -/
namespace Go.Proofs.Ytkedejphebfneaa.Pa
open Go.RowKit Go.Proofs.Ytkedejphebfneaa.O Go.Proofs.YtkedejphebfneaaW.PrintWords
set_option linter.unusedVariables false
def okS23 (x : S23) : Prop := x.f0.size ≤ 140737488351232 ∧ (Lit.int .i64 x.f1).wf = true ∧ True
def bS23 (x : S23) : Nat := (fun s : ByteArray => s.size + 1) x.f0 + (fun _ => 1) x.f1 + (fun _ => 1) x.f2 + 1
set_option maxRecDepth 20000 in
theorem open_S23 {H : Type} {enc : TypeId × Value → H} {W : World} (fuel : Nat) : Opens enc Try.prog W 23 k23 okS23 bS23 fuel := by
  intro cs y ps h hw
  obtain ⟨xs, n, rfl, hx, hcl, hl, hf⟩ := DataW.trod_struct Try.underlying23 h
  obtain ⟨rfl, rfl⟩ := Prod.mk.inj hx
  have hct : Try.prog.cellsOf 23 = 3 := by kernel_rfl
  rw [hct] at hcl
  obtain ⟨x0, k0_, o0, m0_⟩ := field_of 0 _ hl rfl hf Try.underlying23 hw (show Opens enc Try.prog W 9 Kd.string (fun x_ => x_.size ≤ 140737488351232) (fun s : ByteArray => s.size + 1) n from (opens_string Try.underlying9))
  have z0 : Try.prog.cellsOf 9 = 1 := by kernel_rfl
  replace k0_ : (Kd.string).K W x0 ((cs.drop 0).take 1) := by rw [← z0]; exact k0_
  have e0 : (cs.drop 0).take 1 = [.string x0] := k0_
  obtain ⟨x1, k1_, o1, m1_⟩ := field_of 1 _ hl rfl hf Try.underlying23 hw (show Opens enc Try.prog W 3 (Kd.int .i64) (fun x_ => (Lit.int .i64 x_).wf = true) (fun _ => 1) n from (opens_int Try.underlying3))
  have z1 : Try.prog.cellsOf 3 = 1 := by kernel_rfl
  replace k1_ : ((Kd.int .i64)).K W x1 ((cs.drop 1).take 1) := by rw [← z1]; exact k1_
  have e1 : (cs.drop 1).take 1 = [.int .i64 x1] := k1_
  obtain ⟨x2, k2_, o2, m2_⟩ := field_of 2 _ hl rfl hf Try.underlying23 hw (show Opens enc Try.prog W 4 Kd.bool (fun x_ => True) (fun _ => 1) n from (opens_bool Try.underlying4))
  have z2 : Try.prog.cellsOf 4 = 1 := by kernel_rfl
  replace k2_ : (Kd.bool).K W x2 ((cs.drop 2).take 1) := by rw [← z2]; exact k2_
  have e2 : (cs.drop 2).take 1 = [.bool x2] := k2_
  have hcs : cs = [.string x0, .int .i64 x1, .bool x2] := by
    have t0 : cs.drop 0 = (cs.drop 0).take 1 ++ cs.drop 1 := cut_at cs 0 1
    have t1 : cs.drop 1 = (cs.drop 1).take 1 ++ cs.drop 2 := cut_at cs 1 1
    have t2 : cs.drop 2 = (cs.drop 2).take 1 ++ cs.drop 3 := cut_at cs 2 1
    have hd : cs.drop 3 = [] := List.drop_eq_nil_of_le (by omega)
    have h0 : cs = cs.drop 0 := rfl
    rw [h0, t0, e0, t1, e1, t2, e2, hd]
    rfl
  have hbulk : bS23 (⟨x0, x1, x2⟩ : S23) ≤ Rows.uptoBulk (DataW.agg (xs.map (·.1))) := by
    have hxl : (xs.map (·.1)).length = 3 := by rw [List.length_map, hl]; rfl
    have hs := bulk_sum (xs.map (·.1))
    rw [hxl] at hs
    simp only [List.range, List.range.loop, List.map_cons, List.map_nil, List.sum_cons, List.sum_nil] at hs
    simp only [bS23, Rows.uptoBulk]
    rw [hs]
    have t_ := (Nat.add_le_add (Nat.add_le_add m0_ m1_) m2_)
    exact Nat.succ_le_succ (Nat.le_trans t_ (by omega))
  exact ⟨⟨x0, x1, x2⟩, by rw [hcs]; exact k23_mk W (⟨x0, x1, x2⟩ : S23) , ⟨o0, o1, o2⟩, hbulk⟩
def okS28 (x : S28) : Prop := (Lit.int .i64 x.f0).wf = true ∧ (Lit.int .i64 x.f1).wf = true ∧ (Lit.float .f64 x.f2).wf = true ∧ x.f3.size ≤ 140737488351232
def bS28 (x : S28) : Nat := (fun _ => 1) x.f0 + (fun _ => 1) x.f1 + (fun _ => 1) x.f2 + (fun s : ByteArray => s.size + 1) x.f3 + 1
set_option maxRecDepth 20000 in
theorem open_S28 {H : Type} {enc : TypeId × Value → H} {W : World} (fuel : Nat) : Opens enc Try.prog W 28 k28 okS28 bS28 fuel := by
  intro cs y ps h hw
  obtain ⟨xs, n, rfl, hx, hcl, hl, hf⟩ := DataW.trod_struct Try.underlying28 h
  obtain ⟨rfl, rfl⟩ := Prod.mk.inj hx
  have hct : Try.prog.cellsOf 28 = 4 := by kernel_rfl
  rw [hct] at hcl
  obtain ⟨x0, k0_, o0, m0_⟩ := field_of 0 _ hl rfl hf Try.underlying28 hw (show Opens enc Try.prog W 3 (Kd.int .i64) (fun x_ => (Lit.int .i64 x_).wf = true) (fun _ => 1) n from (opens_int Try.underlying3))
  have z0 : Try.prog.cellsOf 3 = 1 := by kernel_rfl
  replace k0_ : ((Kd.int .i64)).K W x0 ((cs.drop 0).take 1) := by rw [← z0]; exact k0_
  have e0 : (cs.drop 0).take 1 = [.int .i64 x0] := k0_
  obtain ⟨x1, k1_, o1, m1_⟩ := field_of 1 _ hl rfl hf Try.underlying28 hw (show Opens enc Try.prog W 2 (Kd.int .i64) (fun x_ => (Lit.int .i64 x_).wf = true) (fun _ => 1) n from (opens_int Try.underlying2))
  have z1 : Try.prog.cellsOf 2 = 1 := by kernel_rfl
  replace k1_ : ((Kd.int .i64)).K W x1 ((cs.drop 1).take 1) := by rw [← z1]; exact k1_
  have e1 : (cs.drop 1).take 1 = [.int .i64 x1] := k1_
  obtain ⟨x2, k2_, o2, m2_⟩ := field_of 2 _ hl rfl hf Try.underlying28 hw (show Opens enc Try.prog W 26 Kd.f64 (fun x_ => (Lit.float .f64 x_).wf = true) (fun _ => 1) n from (opens_float Try.underlying26))
  have z2 : Try.prog.cellsOf 26 = 1 := by kernel_rfl
  replace k2_ : (Kd.f64).K W x2 ((cs.drop 2).take 1) := by rw [← z2]; exact k2_
  have e2 : (cs.drop 2).take 1 = [.float .f64 x2] := k2_
  obtain ⟨x3, k3_, o3, m3_⟩ := field_of 3 _ hl rfl hf Try.underlying28 hw (show Opens enc Try.prog W 9 Kd.string (fun x_ => x_.size ≤ 140737488351232) (fun s : ByteArray => s.size + 1) n from (opens_string Try.underlying9))
  have z3 : Try.prog.cellsOf 9 = 1 := by kernel_rfl
  replace k3_ : (Kd.string).K W x3 ((cs.drop 3).take 1) := by rw [← z3]; exact k3_
  have e3 : (cs.drop 3).take 1 = [.string x3] := k3_
  have hcs : cs = [.int .i64 x0, .int .i64 x1, .float .f64 x2, .string x3] := by
    have t0 : cs.drop 0 = (cs.drop 0).take 1 ++ cs.drop 1 := cut_at cs 0 1
    have t1 : cs.drop 1 = (cs.drop 1).take 1 ++ cs.drop 2 := cut_at cs 1 1
    have t2 : cs.drop 2 = (cs.drop 2).take 1 ++ cs.drop 3 := cut_at cs 2 1
    have t3 : cs.drop 3 = (cs.drop 3).take 1 ++ cs.drop 4 := cut_at cs 3 1
    have hd : cs.drop 4 = [] := List.drop_eq_nil_of_le (by omega)
    have h0 : cs = cs.drop 0 := rfl
    rw [h0, t0, e0, t1, e1, t2, e2, t3, e3, hd]
    rfl
  have hbulk : bS28 (⟨x0, x1, x2, x3⟩ : S28) ≤ Rows.uptoBulk (DataW.agg (xs.map (·.1))) := by
    have hxl : (xs.map (·.1)).length = 4 := by rw [List.length_map, hl]; rfl
    have hs := bulk_sum (xs.map (·.1))
    rw [hxl] at hs
    simp only [List.range, List.range.loop, List.map_cons, List.map_nil, List.sum_cons, List.sum_nil] at hs
    simp only [bS28, Rows.uptoBulk]
    rw [hs]
    have t_ := (Nat.add_le_add (Nat.add_le_add (Nat.add_le_add m0_ m1_) m2_) m3_)
    exact Nat.succ_le_succ (Nat.le_trans t_ (by omega))
  exact ⟨⟨x0, x1, x2, x3⟩, by rw [hcs]; exact k28_mk W (⟨x0, x1, x2, x3⟩ : S28) , ⟨o0, o1, o2, o3⟩, hbulk⟩
inductive okS32 : S32 → Prop where
  | mk (x : S32) (h0 : (Lit.int .i64 x.f0).wf = true) (h1 : x.f1.size ≤ 140737488351232) (h2 : (Lit.int .i64 x.f2).wf = true) (h3 : okS28 x.f3) (h4 : (x.f4.length * 40 ≤ 140737488351232 ∧ ∀ y0_ ∈ x.f4, okS28 y0_)) (h5 : x.f5.length * 120 ≤ 140737488351232) (g5 : ∀ y0_ ∈ x.f5, okS32 y0_) : okS32 x
def bS32 (_x : S32) : Nat := 1
set_option maxRecDepth 20000 in
theorem open_S32 {H : Type} {enc : TypeId × Value → H} {W : World} (fuel : Nat) : Opens enc Try.prog W 32 k32 okS32 bS32 fuel := by
  induction fuel using Nat.strongRecOn with
  | _ fuel ih =>
  intro cs y ps h hw
  obtain ⟨xs, n, rfl, hx, hcl, hl, hf⟩ := DataW.trod_struct Try.underlying32 h
  obtain ⟨rfl, rfl⟩ := Prod.mk.inj hx
  have hct : Try.prog.cellsOf 32 = 9 := by kernel_rfl
  rw [hct] at hcl
  obtain ⟨x0, k0_, o0, m0_⟩ := field_of 0 _ hl rfl hf Try.underlying32 hw (show Opens enc Try.prog W 3 (Kd.int .i64) (fun x_ => (Lit.int .i64 x_).wf = true) (fun _ => 1) n from (opens_int Try.underlying3))
  have z0 : Try.prog.cellsOf 3 = 1 := by kernel_rfl
  replace k0_ : ((Kd.int .i64)).K W x0 ((cs.drop 0).take 1) := by rw [← z0]; exact k0_
  have e0 : (cs.drop 0).take 1 = [.int .i64 x0] := k0_
  obtain ⟨x1, k1_, o1, m1_⟩ := field_of 1 _ hl rfl hf Try.underlying32 hw (show Opens enc Try.prog W 9 Kd.string (fun x_ => x_.size ≤ 140737488351232) (fun s : ByteArray => s.size + 1) n from (opens_string Try.underlying9))
  have z1 : Try.prog.cellsOf 9 = 1 := by kernel_rfl
  replace k1_ : (Kd.string).K W x1 ((cs.drop 1).take 1) := by rw [← z1]; exact k1_
  have e1 : (cs.drop 1).take 1 = [.string x1] := k1_
  obtain ⟨x2, k2_, o2, m2_⟩ := field_of 2 _ hl rfl hf Try.underlying32 hw (show Opens enc Try.prog W 3 (Kd.int .i64) (fun x_ => (Lit.int .i64 x_).wf = true) (fun _ => 1) n from (opens_int Try.underlying3))
  have z2 : Try.prog.cellsOf 3 = 1 := by kernel_rfl
  replace k2_ : ((Kd.int .i64)).K W x2 ((cs.drop 2).take 1) := by rw [← z2]; exact k2_
  have e2 : (cs.drop 2).take 1 = [.int .i64 x2] := k2_
  obtain ⟨x3, k3_, o3, m3_⟩ := field_of 3 _ hl rfl hf Try.underlying32 hw (show Opens enc Try.prog W 28 k28 (fun x_ => okS28 x_) bS28 n from (open_S28 n))
  have z3 : Try.prog.cellsOf 28 = 4 := by kernel_rfl
  replace k3_ : (k28).K W x3 ((cs.drop 3).take 4) := by rw [← z3]; exact k3_
  obtain e3 := k28_open k3_
  obtain ⟨x4, k4_, o4, m4_⟩ := field_of 4 _ hl rfl hf Try.underlying32 hw (show Opens enc Try.prog W 25 (Kd.slice 28 k28) (fun x_ => (x_.length * 40 ≤ 140737488351232 ∧ ∀ y0_ ∈ x_, okS28 y0_)) (sumB bS28) n from (opens_slice (d := k28) (ok := (fun x_ => okS28 x_)) (m := bS28) 40 Try.underlying25 (by kernel_rfl) (by kernel_rfl) (fun m_ hm_ => (open_S28 m_))))
  have z4 : Try.prog.cellsOf 25 = 1 := by kernel_rfl
  replace k4_ : ((Kd.slice 28 k28)).K W x4 ((cs.drop 7).take 1) := by rw [← z4]; exact k4_
  obtain ⟨A4, c4, e4, l4, g4⟩ := k4_
  obtain ⟨x5, k5_, o5, m5_⟩ := field_of 5 _ hl rfl hf Try.underlying32 hw (show Opens enc Try.prog W 30 (Kd.slice 32 k32) (fun x_ => (x_.length * 120 ≤ 140737488351232 ∧ ∀ y0_ ∈ x_, okS32 y0_)) (sumB bS32) n from (opens_slice (d := k32) (ok := (fun x_ => okS32 x_)) (m := bS32) 120 Try.underlying30 (by kernel_rfl) (by kernel_rfl) (fun m_ hm_ => ih m_ (by omega))))
  have z5 : Try.prog.cellsOf 30 = 1 := by kernel_rfl
  replace k5_ : ((Kd.slice 32 k32)).K W x5 ((cs.drop 8).take 1) := by rw [← z5]; exact k5_
  obtain ⟨A5, c5, e5, l5, g5⟩ := k5_
  have hcs : cs = [.int .i64 x0, .string x1, .int .i64 x2, .int .i64 x3.f0, .int .i64 x3.f1, .float .f64 x3.f2, .string x3.f3, .slice A4 x4.length c4, .slice A5 x5.length c5] := by
    have t0 : cs.drop 0 = (cs.drop 0).take 1 ++ cs.drop 1 := cut_at cs 0 1
    have t1 : cs.drop 1 = (cs.drop 1).take 1 ++ cs.drop 2 := cut_at cs 1 1
    have t2 : cs.drop 2 = (cs.drop 2).take 1 ++ cs.drop 3 := cut_at cs 2 1
    have t3 : cs.drop 3 = (cs.drop 3).take 4 ++ cs.drop 7 := cut_at cs 3 4
    have t4 : cs.drop 7 = (cs.drop 7).take 1 ++ cs.drop 8 := cut_at cs 7 1
    have t5 : cs.drop 8 = (cs.drop 8).take 1 ++ cs.drop 9 := cut_at cs 8 1
    have hd : cs.drop 9 = [] := List.drop_eq_nil_of_le (by omega)
    have h0 : cs = cs.drop 0 := rfl
    rw [h0, t0, e0, t1, e1, t2, e2, t3, e3, t4, e4, t5, e5, hd]
    rfl
  have hbulk : bS32 (⟨x0, x1, x2, x3, x4, x5⟩ : S32) ≤ Rows.uptoBulk (DataW.agg (xs.map (·.1))) := one_le _
  exact ⟨⟨x0, x1, x2, x3, x4, x5⟩, by rw [hcs]; exact k32_mk W (⟨x0, x1, x2, x3, x4, x5⟩ : S32) l4 g4 l5 g5, .mk _ o0 o1 o2 o3 o4 o5.1 o5.2, hbulk⟩
end Go.Proofs.Ytkedejphebfneaa.Pa
end
section
-- Written by xprint.py, a program of this session, over the kit's print. Not trusted: Lean checks it.
namespace Go.Proofs.Ytkedejphebfneaa.Pa
open Go.RowKit Go.Proofs.YtkedejphebfneaaW.PrintWords Go.Proofs.YtkedejphebfneaaW.PrintLast Go.Proofs.YtkedejphebfneaaW.PrintMore
attribute [local go_sem] max2_int min2_int max_two min_two max_three min_three max_four min_four   -- for this text's walks alone
attribute [local go_sem] run_store_float cmp_feq cmp_fne cmp_flt cmp_fle cmp_fgt cmp_fge un_fneg equalIn_feq run_fop run_fint run_freal cmp_sgt ext_bits ext_frombits ext_cmpb
set_option linter.unusedVariables false
set_option linter.unusedSimpArgs false

/-! ### colonnadelaw18_number: function 12 -/
def colonnadelaw18_number.f (a0 : Int) : Option (Int × Int × Nat × ByteArray) := some (1, a0, (0 : Nat), (⟨#[]⟩ : ByteArray))
set_option maxHeartbeats 8000000 in
set_option maxRecDepth 100000 in
theorem colonnadelaw18_number.calls (a0 : Int) (r1 : Int) (r2 : Int) (r3 : Nat) (r4 : ByteArray) (w : World) (h : colonnadelaw18_number.f a0 = some (r1, r2, r3, r4)) :
    Calls Try.prog 12 #[.int .i64 a0] w fun e w' => e = .returned (.agg #[.int .i64 r1, .int .i64 r2, .float .f64 r3, .string r4]) ∧ Below w.heap.size w w' := by
  have hu28 := Try.underlying28
  have HB := Aside0.mk (Below.refl w.heap.size w)
  have H : (some (1, a0, (0 : Nat), (⟨#[]⟩ : ByteArray))) = some (r1, r2, r3, r4) := h
  clear h
  simp only [Option.some.injEq, Prod.mk.injEq] at H
  obtain ⟨rfl, rfl, rfl, rfl⟩ := H
  go_enter Try.func12, Try.ntmps12
  go_wp2_with (first | ((with_reducible refine gate_dst (N := 2) rfl ?_); refine box_event ?hg (N := 2) ?hd (cs := #[.int .i64 0, .int .i64 0, .float .f64 (0 : Nat), .string (⟨#[]⟩ : ByteArray)]) (t := 28) ?hr ?_; (case hd => rfl); (case hg => rfl); (case hr => first | (go_simp; done) | (go_simp; rfl)); intro gb101 hg w2 hbox hb; have n0_ := Aside0.mk (below_step (by repeat (first | (with_reducible first | exact HB.out | apply below_alloc | apply pw_below_drewN | apply below_drew1) | exact HB.out)) hb); have n1_ := Aside0.mk (hbox); have n2_ := Aside0.mk ((by rw [hg]; exact (below_size (by repeat (first | (with_reducible first | exact HB.out | apply below_alloc | apply pw_below_drewN | apply below_drew1) | exact HB.out))) : w.heap.size ≤ gb101)); have n3_ := Aside0.mk ((by rw [hg]; exact (below_size (by repeat (first | (with_reducible first | exact HB.out | apply below_alloc | apply pw_below_drewN | apply below_drew1) | exact HB.out))) : w.heap.size ≤ gb101)); clear HB; have HB := n0_; have BK101 := n1_; have GW101 := n2_; have GE101 := n3_; clear n0_ n1_ n2_ n3_; clear hb hbox hg; obtain ⟨hcz3_0, hcz3_1, hcz3_2, hcz3_3⟩ := cells_4 BK101.out; obtain ⟨hfz3_0, hfz3_1, hfz3_2, hfz3_3⟩ := froz_4 BK101.out))
  refine bodyPost_ret (results_cell_row rfl _ _ gb101 28 #[.int .i64 1, .int .i64 a0, .float .f64 (0 : Nat), .string (⟨#[]⟩ : ByteArray)] (0, 0) _ rfl (by (with_reducible repeat (first | refine blk_drewN ?_ _ | refine blk_drew ?_ | refine blk_alloc ?_ _)); refine blk_put (cs := #[.int .i64 1, .int .i64 a0, .float .f64 (0 : Nat), .string (⟨#[]⟩ : ByteArray)]) ?_ 3 _ rfl; (with_reducible repeat (first | refine blk_drewN ?_ _ | refine blk_drew ?_ | refine blk_alloc ?_ _)); refine blk_put (cs := #[.int .i64 1, .int .i64 a0, .float .f64 (0 : Nat), .string (⟨#[]⟩ : ByteArray)]) ?_ 2 _ rfl; (with_reducible repeat (first | refine blk_drewN ?_ _ | refine blk_drew ?_ | refine blk_alloc ?_ _)); refine blk_put (cs := #[.int .i64 1, .int .i64 0, .float .f64 (0 : Nat), .string (⟨#[]⟩ : ByteArray)]) ?_ 1 _ rfl; (with_reducible repeat (first | refine blk_drewN ?_ _ | refine blk_drew ?_ | refine blk_alloc ?_ _)); refine blk_put (cs := #[.int .i64 0, .int .i64 0, .float .f64 (0 : Nat), .string (⟨#[]⟩ : ByteArray)]) ?_ 0 _ rfl; (with_reducible repeat (first | refine blk_drewN ?_ _ | refine blk_drew ?_ | refine blk_alloc ?_ _)); exact BK101.out) Try.underlying28 rfl (by kernel_rfl)) rfl ?_
  exact ⟨by first | rfl | (simp [errW_none, errW_some] <;> rfl) | (simp [*, errW_none, errW_some] <;> rfl), by repeat (first | (with_reducible first | exact HB.out | apply below_alloc | apply pw_below_drewN | apply below_drew1 | refine below_set ?_ GE101.out) | exact HB.out)⟩

-- NOT PRINTED: function 66 (api_Column)

/-! ### atom_is: function 40 -/
def atom_is.f (a0_0 : Int) (a0_1 : ByteArray) (a0_2 : Int) (a0_3 : Int) (a0_4 : Int) (a0_5 : Nat) (a0_6 : ByteArray) (l0_7 : List (S28)) (l0_8 : List (S32)) : Option (Bool) := if 1 ≤ a0_0 then (some (decide (a0_0 ≤ 5))) else (some false)
set_option maxHeartbeats 8000000 in
set_option maxRecDepth 100000 in
theorem atom_is.calls (a0_0 : Int) (a0_1 : ByteArray) (a0_2 : Int) (a0_3 : Int) (a0_4 : Int) (a0_5 : Nat) (a0_6 : ByteArray) (A0_7 : Option Addr) (c0_7 : Nat) (l0_7 : List (S28)) (A0_8 : Option Addr) (c0_8 : Nat) (l0_8 : List (S32)) (r : Bool) (w : World) (hr0_7 : Kd.C k28 w A0_7 l0_7.length l0_7) (hc0_7 : l0_7.length ≤ c0_7) (hr0_8 : Kd.C k32 w A0_8 l0_8.length l0_8) (hc0_8 : l0_8.length ≤ c0_8) (h : atom_is.f a0_0 a0_1 a0_2 a0_3 a0_4 a0_5 a0_6 l0_7 l0_8 = some r) :
    Calls Try.prog 40 #[.agg #[.int .i64 a0_0, .string a0_1, .int .i64 a0_2, .int .i64 a0_3, .int .i64 a0_4, .float .f64 a0_5, .string a0_6, .slice A0_7 l0_7.length c0_7, .slice A0_8 l0_8.length c0_8]] w fun e w' => e = .returned (.bool r) ∧ Below w.heap.size w w' := by
  have hu32 := Try.underlying32
  have HR0_7 := Aside0.mk hr0_7
  have HC0_7 := Aside0.mk hc0_7
  clear hr0_7 hc0_7
  have HR0_8 := Aside0.mk hr0_8
  have HC0_8 := Aside0.mk hc0_8
  clear hr0_8 hc0_8
  have HB := Aside0.mk (Below.refl w.heap.size w)
  have H : (if 1 ≤ a0_0 then (some (decide (a0_0 ≤ 5))) else (some false)) = some r := h
  clear h
  by_cases c2 : 1 ≤ a0_0
  · rw [if_pos c2] at H
    have c2b0 : decide (1 ≤ a0_0) = true := decide_eq_true c2
    clear c2
    obtain rfl := Option.some.inj H
    go_enter Try.func40, Try.ntmps40
    go_wp2_with (first | ((with_reducible refine gate_dst (N := 1) rfl ?_); refine box_event ?hg (N := 1) ?hd (cs := #[.int .i64 a0_0, .string a0_1, .int .i64 a0_2, .int .i64 a0_3, .int .i64 a0_4, .float .f64 a0_5, .string a0_6, .slice A0_7 l0_7.length c0_7, .slice A0_8 l0_8.length c0_8]) (t := 32) ?hr ?_; (case hd => rfl); (case hg => rfl); (case hr => first | (go_simp; done) | (go_simp; rfl)); intro gb102 hg w3 hbox hb; have n0_ := Aside0.mk (below_step (by repeat (first | (with_reducible first | exact HB.out | apply below_alloc | apply pw_below_drewN | apply below_drew1) | exact HB.out)) hb); have n1_ := Aside0.mk (hbox); have n2_ := Aside0.mk ((by rw [hg]; exact (below_size (by repeat (first | (with_reducible first | exact HB.out | apply below_alloc | apply pw_below_drewN | apply below_drew1) | exact HB.out))) : w.heap.size ≤ gb102)); have n3_ := Aside0.mk ((by rw [hg]; exact (below_size (by repeat (first | (with_reducible first | exact HB.out | apply below_alloc | apply pw_below_drewN | apply below_drew1) | exact HB.out))) : w.heap.size ≤ gb102)); clear HB; have HB := n0_; have BK102 := n1_; have GW102 := n2_; have GE102 := n3_; clear n0_ n1_ n2_ n3_; clear hb hbox hg; obtain ⟨hcz4_0, hcz4_1, hcz4_2, hcz4_3, hcz4_4, hcz4_5, hcz4_6, hcz4_7, hcz4_8⟩ := cells_9 BK102.out; obtain ⟨hfz4_0, hfz4_1, hfz4_2, hfz4_3, hfz4_4, hfz4_5, hfz4_6, hfz4_7, hfz4_8⟩ := froz_9 BK102.out))
    go_ret
    exact ⟨by first | rfl | (simp [errW_none, errW_some] <;> rfl) | (simp [*, errW_none, errW_some] <;> rfl), by repeat (first | (with_reducible first | exact HB.out | apply below_alloc | apply pw_below_drewN | apply below_drew1 | refine below_set ?_ GE102.out) | exact HB.out)⟩
  · rw [if_neg c2] at H
    have c2b0 : decide (1 ≤ a0_0) = false := decide_eq_false c2
    clear c2
    obtain rfl := Option.some.inj H
    go_enter Try.func40, Try.ntmps40
    go_wp2_with (first | ((with_reducible refine gate_dst (N := 1) rfl ?_); refine box_event ?hg (N := 1) ?hd (cs := #[.int .i64 a0_0, .string a0_1, .int .i64 a0_2, .int .i64 a0_3, .int .i64 a0_4, .float .f64 a0_5, .string a0_6, .slice A0_7 l0_7.length c0_7, .slice A0_8 l0_8.length c0_8]) (t := 32) ?hr ?_; (case hd => rfl); (case hg => rfl); (case hr => first | (go_simp; done) | (go_simp; rfl)); intro gb102 hg w5 hbox hb; have n0_ := Aside0.mk (below_step (by repeat (first | (with_reducible first | exact HB.out | apply below_alloc | apply pw_below_drewN | apply below_drew1) | exact HB.out)) hb); have n1_ := Aside0.mk (hbox); have n2_ := Aside0.mk ((by rw [hg]; exact (below_size (by repeat (first | (with_reducible first | exact HB.out | apply below_alloc | apply pw_below_drewN | apply below_drew1) | exact HB.out))) : w.heap.size ≤ gb102)); have n3_ := Aside0.mk ((by rw [hg]; exact (below_size (by repeat (first | (with_reducible first | exact HB.out | apply below_alloc | apply pw_below_drewN | apply below_drew1) | exact HB.out))) : w.heap.size ≤ gb102)); clear HB; have HB := n0_; have BK102 := n1_; have GW102 := n2_; have GE102 := n3_; clear n0_ n1_ n2_ n3_; clear hb hbox hg; obtain ⟨hcz6_0, hcz6_1, hcz6_2, hcz6_3, hcz6_4, hcz6_5, hcz6_6, hcz6_7, hcz6_8⟩ := cells_9 BK102.out; obtain ⟨hfz6_0, hfz6_1, hfz6_2, hfz6_3, hfz6_4, hfz6_5, hfz6_6, hfz6_7, hfz6_8⟩ := froz_9 BK102.out))
    go_ret
    exact ⟨by first | rfl | (simp [errW_none, errW_some] <;> rfl) | (simp [*, errW_none, errW_some] <;> rfl), by repeat (first | (with_reducible first | exact HB.out | apply below_alloc | apply pw_below_drewN | apply below_drew1 | refine below_set ?_ GE102.out) | exact HB.out)⟩

/-! ### atom_compares: function 41 -/
def atom_compares.f (a0 : Int) : Option (Bool) := if 1 ≤ a0 then (some (decide (a0 ≤ 6))) else (some false)
set_option maxHeartbeats 8000000 in
set_option maxRecDepth 100000 in
theorem atom_compares.calls (a0 : Int) (r : Bool) (w : World) (h : atom_compares.f a0 = some r) :
    Calls Try.prog 41 #[.int .i64 a0] w fun e w' => e = .returned (.bool r) ∧ Drawn0 w w' := by
  have H : (if 1 ≤ a0 then (some (decide (a0 ≤ 6))) else (some false)) = some r := h
  clear h
  by_cases c2 : 1 ≤ a0
  · rw [if_pos c2] at H
    have c2b0 : decide (1 ≤ a0) = true := decide_eq_true c2
    clear c2
    obtain rfl := Option.some.inj H
    go_enter Try.func41, Try.ntmps41
    go_wp2
    go_ret
    exact ⟨by first | rfl | (simp; done) | (simp [*]; done), by repeat (first | exact Drawn0.refl _ | apply Drawn0.step)⟩
  · rw [if_neg c2] at H
    have c2b0 : decide (1 ≤ a0) = false := decide_eq_false c2
    clear c2
    obtain rfl := Option.some.inj H
    go_enter Try.func41, Try.ntmps41
    go_wp2
    go_ret
    exact ⟨by first | rfl | (simp; done) | (simp [*]; done), by repeat (first | exact Drawn0.refl _ | apply Drawn0.step)⟩

/-! ### atom_valued: function 45 -/
def atom_valued.f (a0 : Int) : Option (Bool) := if a0 = 1 then (some true) else (some (a0 == 5))
set_option maxHeartbeats 8000000 in
set_option maxRecDepth 100000 in
theorem atom_valued.calls (a0 : Int) (r : Bool) (w : World) (h : atom_valued.f a0 = some r) :
    Calls Try.prog 45 #[.int .i64 a0] w fun e w' => e = .returned (.bool r) ∧ Drawn0 w w' := by
  have H : (if a0 = 1 then (some true) else (some (a0 == 5))) = some r := h
  clear h
  by_cases c2 : a0 = 1
  · rw [if_pos c2] at H
    have c2b0 : (a0 == 1) = true := beq_iff_eq.mpr c2
    have c2b1 : (a0 != 1) = false := bne_eq_false_iff_eq.mpr c2
    clear c2
    obtain rfl := Option.some.inj H
    go_enter Try.func45, Try.ntmps45
    go_wp2
    go_ret
    exact ⟨by first | rfl | (simp; done) | (simp [*]; done), by repeat (first | exact Drawn0.refl _ | apply Drawn0.step)⟩
  · rw [if_neg c2] at H
    have c2b0 : (a0 == 1) = false := beq_eq_false_iff_ne.mpr c2
    have c2b1 : (a0 != 1) = true := bne_iff_ne.mpr c2
    obtain rfl := Option.some.inj H
    go_enter Try.func45, Try.ntmps45
    go_wp2
    go_ret
    exact ⟨by first | rfl | (simp; done) | (simp [*]; done), by repeat (first | exact Drawn0.refl _ | apply Drawn0.step)⟩

-- NOT PRINTED: function 71 (math_Float64bits)

-- NOT PRINTED: function 85 (math_Float64frombits)

/-! ### math_Abs: function 70 -/
def math_Abs.f (a0 : Nat) : Option (Nat) := some (((Go.bits .andNot .u64 (a0 : Int) 9223372036854775808) : Int).toNat)
set_option maxHeartbeats 8000000 in
set_option maxRecDepth 100000 in
theorem math_Abs.calls (a0 : Nat) (r : Nat) (w : World) (h : math_Abs.f a0 = some r) :
    Calls Try.prog 70 #[.float .f64 a0] w fun e w' => e = .returned (.float .f64 r) ∧ Drawn0 w w' := by
  have H : (some (((Go.bits .andNot .u64 (a0 : Int) 9223372036854775808) : Int).toNat)) = some r := h
  clear h
  obtain rfl := Option.some.inj H
  go_enter Try.func70, Try.ntmps70
  go_wp2
  go_ret
  exact ⟨by first | rfl | (simp; done) | (simp [*]; done), by repeat (first | exact Drawn0.refl _ | apply Drawn0.step)⟩

end Go.Proofs.Ytkedejphebfneaa.Pa
end
section
-- Written by xprint.py, a program of this session, over the kit's print. Not trusted: Lean checks it.
namespace Go.Proofs.Ytkedejphebfneaa.Pa
open Go.RowKit Go.Proofs.YtkedejphebfneaaW.PrintWords Go.Proofs.YtkedejphebfneaaW.PrintLast Go.Proofs.YtkedejphebfneaaW.PrintMore
attribute [local go_sem] max2_int min2_int max_two min_two max_three min_three max_four min_four   -- for this text's walks alone
attribute [local go_sem] run_store_float cmp_feq cmp_fne cmp_flt cmp_fle cmp_fgt cmp_fge un_fneg equalIn_feq run_fop run_fint run_freal cmp_sgt ext_bits ext_frombits ext_cmpb
set_option linter.unusedVariables false
set_option linter.unusedSimpArgs false

/-! ### value_May: function 44 -/
mutual
def value_May.j0 : Nat → Bool → Int → Int → Nat → ByteArray → Option (Bool)
  | 0, _, _, _, _, _ => none
  | k + 1, x3, x104000, x104001, x104002, x104003 => if x3 = true then (if x104003.toList = ([] : List UInt8) then (value_May.j1 k true x104000 x104001 x104002 x104003) else (if x104000 = 2 then (value_May.j1 k (decide ((x104003.size : Int) ≤ 65535)) x104000 x104001 x104002 x104003) else (value_May.j1 k false x104000 x104001 x104002 x104003))) else (value_May.j1 k false x104000 x104001 x104002 x104003)
def value_May.j1 : Nat → Bool → Int → Int → Nat → ByteArray → Option (Bool)
  | 0, _, _, _, _, _ => none
  | k + 1, x3, x104000, x104001, x104002, x104003 => if x104000 = 3 then (if x3 = true then ((math_Abs.f x104002).bind fun t104 => (if (fle t104 (9218868437227405311 : Nat)) = true then (some ((x104002 : Int) != 9223372036854775808)) else (some false))) else (some false)) else (if x3 = true then (if (x104002 : Int) = 0 then (if x104000 ≥ 0 then (some (decide (x104000 < 3))) else (some false)) else (some false)) else (some false))
end
def value_May.f (k : Nat) (a0_0 : Int) (a0_1 : Int) (a0_2 : Nat) (a0_3 : ByteArray) : Option (Bool) := if a0_1 = 0 then (value_May.j0 k true a0_0 a0_1 a0_2 a0_3) else (value_May.j0 k (a0_0 == 1) a0_0 a0_1 a0_2 a0_3)
theorem value_May.mono_l : ∀ k, (∀ y0 y1 y2 y3 y4, LeO (value_May.j0 k y0 y1 y2 y3 y4) (value_May.j0 (k + 1) y0 y1 y2 y3 y4)) ∧ (∀ y0 y1 y2 y3 y4, LeO (value_May.j1 k y0 y1 y2 y3 y4) (value_May.j1 (k + 1) y0 y1 y2 y3 y4))
  | 0 => ⟨fun _ _ _ _ _ r h => by simp [value_May.j0] at h, fun _ _ _ _ _ r h => by simp [value_May.j1] at h⟩
  | k + 1 => by
    obtain ⟨ih0, ih1⟩ := value_May.mono_l k
    refine ⟨?_, ?_⟩
    · intro y0 y1 y2 y3 y4
      unfold value_May.j0
      repeat' first
      | (with_reducible exact ih0 _ _ _ _ _)
      | (with_reducible exact ih1 _ _ _ _ _)
      | (with_reducible exact LeO.refl _)
      | (with_reducible exact LeO.none _)
      | (with_reducible refine LeO.ite ?_ ?_)
      | (with_reducible refine LeO.bind ?_ (fun _ => ?_))
      | exact ih0 _ _ _ _ _
      | exact ih1 _ _ _ _ _
      | exact LeO.none _
      | refine LeO.ite ?_ ?_
      | refine LeO.bind ?_ (fun _ => ?_)
    · intro y0 y1 y2 y3 y4
      unfold value_May.j1
      repeat' first
      | (with_reducible exact ih0 _ _ _ _ _)
      | (with_reducible exact ih1 _ _ _ _ _)
      | (with_reducible exact LeO.refl _)
      | (with_reducible exact LeO.none _)
      | (with_reducible refine LeO.ite ?_ ?_)
      | (with_reducible refine LeO.bind ?_ (fun _ => ?_))
      | exact ih0 _ _ _ _ _
      | exact ih1 _ _ _ _ _
      | exact LeO.none _
      | refine LeO.ite ?_ ?_
      | refine LeO.bind ?_ (fun _ => ?_)
theorem value_May.mono : ∀ a0 a1 a2 a3 k, LeO (value_May.f k a0 a1 a2 a3) (value_May.f (k + 1) a0 a1 a2 a3) := by
  intro a0 a1 a2 a3 k
  obtain ⟨ih0, ih1⟩ := value_May.mono_l k
  unfold value_May.f
  repeat' first
      | (with_reducible exact ih0 _ _ _ _ _)
      | (with_reducible exact ih1 _ _ _ _ _)
      | (with_reducible exact LeO.refl _)
      | (with_reducible exact LeO.none _)
      | (with_reducible refine LeO.ite ?_ ?_)
      | (with_reducible refine LeO.bind ?_ (fun _ => ?_))
      | exact ih0 _ _ _ _ _
      | exact ih1 _ _ _ _ _
      | exact LeO.none _
      | refine LeO.ite ?_ ?_
      | refine LeO.bind ?_ (fun _ => ?_)
set_option maxHeartbeats 8000000 in
set_option maxRecDepth 100000 in
theorem value_May.calls (k : Nat) (a0_0 : Int) (a0_1 : Int) (a0_2 : Nat) (a0_3 : ByteArray) (r : Bool) (w : World) (h : value_May.f k a0_0 a0_1 a0_2 a0_3 = some r) :
    Calls Try.prog 44 #[.agg #[.int .i64 a0_0, .int .i64 a0_1, .float .f64 a0_2, .string a0_3]] w fun e w' => e = .returned (.bool r) ∧ Below w.heap.size w w' := by
  have hu28 := Try.underlying28
  have HB := Aside0.mk (Below.refl w.heap.size w)
  have H : (if a0_1 = 0 then (value_May.j0 k true a0_0 a0_1 a0_2 a0_3) else (value_May.j0 k (a0_0 == 1) a0_0 a0_1 a0_2 a0_3)) = some r := h
  clear h
  have HC2 := Aside0.mk H
  clear H
  go_enter Try.func44, Try.ntmps44
  go_upto_region 1 with (first | ((with_reducible refine gate_dst (N := 1) rfl ?_); (try (refine gate_guard (by rfl) ?_; dsimp only)); refine box_event ?hg (N := 1) ?hd (cs := #[.int .i64 a0_0, .int .i64 a0_1, .float .f64 a0_2, .string a0_3]) (t := 28) ?hr ?_; (case hd => rfl); (case hg => rfl); (case hr => first | (go_simp; done) | (go_simp; rfl)); intro gb103 hg w3 hbox hb; have n0_ := Aside0.mk (below_step (by repeat (first | (with_reducible first | exact HB.out | apply below_alloc | apply pw_below_drewN | apply below_drew1) | exact HB.out)) hb); have n1_ := Aside0.mk (hbox); have n2_ := Aside0.mk ((by rw [hg]; exact (below_size (by repeat (first | (with_reducible first | exact HB.out | apply below_alloc | apply pw_below_drewN | apply below_drew1) | exact HB.out))) : w.heap.size ≤ gb103)); have n3_ := Aside0.mk ((by rw [hg]; exact (below_size (by repeat (first | (with_reducible first | exact HB.out | apply below_alloc | apply pw_below_drewN | apply below_drew1) | exact HB.out))) : w.heap.size ≤ gb103)); clear HB; have HB := n0_; have BK103 := n1_; have GW103 := n2_; have GE103 := n3_; clear n0_ n1_ n2_ n3_; clear hb hbox hg))
  (try simp only [Act.put, List.setIfInBounds_toArray, List.set_cons_zero, List.set_cons_succ])
  go_cut [3] (fun v3 wc => ∃ (kq : Nat) (x3_1 : Bool), v3 = .bool x3_1 ∧ Aside0 (value_May.j0 kq x3_1 a0_0 a0_1 a0_2 a0_3 = some r) ∧ Aside0 (kq ≤ k) ∧ Aside0 (wc.heap[gb103]? = some (.cells #[.int .i64 a0_0, .int .i64 a0_1, .float .f64 a0_2, .string a0_3] 28 (0, 0))) ∧ Aside0 (Below w.heap.size w wc))
  case first =>
    have H := HC2.out
    clear HC2
    by_cases c4 : a0_1 = 0
    · rw [if_pos c4] at H
      have c4b0 : (a0_1 == 0) = true := beq_iff_eq.mpr c4
      have c4b1 : (a0_1 != 0) = false := bne_eq_false_iff_eq.mpr c4
      clear c4
      (first | rw [c4b0] | (simp only [i64_w, i32_w]; rw [c4b0]) | skip)
      have H' := Aside0.mk H
      clear H
      obtain ⟨hcz5_0, hcz5_1, hcz5_2, hcz5_3⟩ := cells_4 BK103.out
      obtain ⟨hfz5_0, hfz5_1, hfz5_2, hfz5_3⟩ := froz_4 BK103.out
      go_wp2
      go_meet
      case rel => exact ⟨_, (true), (by first | rfl | (simp; done) | (simp [*]; done)), H', ⟨by first | omega | exact Nat.le_refl _⟩, ⟨by (with_reducible repeat (first | refine blk_drewN ?_ _ | refine blk_drew ?_ | refine blk_alloc ?_ _)); exact BK103.out⟩, ⟨by repeat (first | (with_reducible first | exact HB.out | apply below_alloc | apply pw_below_drewN | apply below_drew1 | refine below_set ?_ GE103.out) | exact HB.out)⟩⟩
    · rw [if_neg c4] at H
      have c4b0 : (a0_1 == 0) = false := beq_eq_false_iff_ne.mpr c4
      have c4b1 : (a0_1 != 0) = true := bne_iff_ne.mpr c4
      (first | rw [c4b0] | (simp only [i64_w, i32_w]; rw [c4b0]) | skip)
      have H' := Aside0.mk H
      clear H
      obtain ⟨hcz6_0, hcz6_1, hcz6_2, hcz6_3⟩ := cells_4 BK103.out
      obtain ⟨hfz6_0, hfz6_1, hfz6_2, hfz6_3⟩ := froz_4 BK103.out
      go_wp2
      go_meet
      case rel => exact ⟨_, ((a0_0 == 1)), (by first | rfl | (simp; done) | (simp [*]; done)), H', ⟨by first | omega | exact Nat.le_refl _⟩, ⟨by (with_reducible repeat (first | refine blk_drewN ?_ _ | refine blk_drew ?_ | refine blk_alloc ?_ _)); exact BK103.out⟩, ⟨by repeat (first | (with_reducible first | exact HB.out | apply below_alloc | apply pw_below_drewN | apply below_drew1 | refine below_set ?_ GE103.out) | exact HB.out)⟩⟩
  case rest =>
    clear HC2
    try clear p2
    try clear c4
    try clear c4b0
    try clear c4b1
    try clear hcz5_0
    try clear hcz5_1
    try clear hcz5_2
    try clear hcz5_3
    try clear hcz6_0
    try clear hcz6_1
    try clear hcz6_2
    try clear hcz6_3
    try clear hfz5_0
    try clear hfz5_1
    try clear hfz5_2
    try clear hfz5_3
    try clear hfz6_0
    try clear hfz6_1
    try clear hfz6_2
    try clear hfz6_3
    obtain ⟨kq, x3_1, rfl, HA, HJ1, BK103, HB⟩ := hcut
    cases kq with
    | zero => exact absurd HA.out (by simp [value_May.j0])
    | succ kj1 =>
      have H := HA.out
      clear HA
      simp only [value_May.j0] at H
      have HC7 := Aside0.mk H
      clear H
      go_upto_region 2 with (fail)
      go_cut [3] (fun v3 wc => ∃ (kq : Nat) (x3_6 : Bool), v3 = .bool x3_6 ∧ Aside0 (value_May.j1 kq x3_6 a0_0 a0_1 a0_2 a0_3 = some r) ∧ Aside0 (kq ≤ kj1) ∧ Aside0 (wc.heap[gb103]? = some (.cells #[.int .i64 a0_0, .int .i64 a0_1, .float .f64 a0_2, .string a0_3] 28 (0, 0))) ∧ Aside0 (Below w.heap.size w wc))
      case first =>
        have H := HC7.out
        clear HC7
        by_cases c8 : x3_1 = true
        · subst c8
          have H1 : (if a0_3.toList = ([] : List UInt8) then (value_May.j1 kj1 true a0_0 a0_1 a0_2 a0_3) else (if a0_0 = 2 then (value_May.j1 kj1 (decide ((a0_3.size : Int) ≤ 65535)) a0_0 a0_1 a0_2 a0_3) else (value_May.j1 kj1 false a0_0 a0_1 a0_2 a0_3))) = some r := by rw [if_pos rfl] at H; exact H
          clear H
          have H := H1
          clear H1
          by_cases c9 : a0_3.toList = ([] : List UInt8)
          · rw [if_pos c9] at H
            have c9b0 : (a0_3.toList == ([] : List UInt8)) = true := beq_iff_eq.mpr c9
            have c9b1 : (a0_3.toList != ([] : List UInt8)) = false := bne_eq_false_iff_eq.mpr c9
            clear c9
            (first | rw [c9b0] | (simp only [i64_w, i32_w]; rw [c9b0]) | skip)
            have H' := Aside0.mk H
            clear H
            obtain ⟨hcz10_0, hcz10_1, hcz10_2, hcz10_3⟩ := cells_4 BK103.out
            obtain ⟨hfz10_0, hfz10_1, hfz10_2, hfz10_3⟩ := froz_4 BK103.out
            go_wp2
            go_meet
            case rel => exact ⟨_, (true), (by first | rfl | (simp; done) | (simp [*]; done)), H', ⟨by have := HJ1.out; first | omega | exact Nat.le_refl _⟩, ⟨by (with_reducible repeat (first | refine blk_drewN ?_ _ | refine blk_drew ?_ | refine blk_alloc ?_ _)); exact BK103.out⟩, ⟨by repeat (first | (with_reducible first | exact HB.out | apply below_alloc | apply pw_below_drewN | apply below_drew1 | refine below_set ?_ GE103.out) | exact HB.out)⟩⟩
          · rw [if_neg c9] at H
            have c9b0 : (a0_3.toList == ([] : List UInt8)) = false := beq_eq_false_iff_ne.mpr c9
            have c9b1 : (a0_3.toList != ([] : List UInt8)) = true := bne_iff_ne.mpr c9
            (first | rw [c9b0] | (simp only [i64_w, i32_w]; rw [c9b0]) | skip)
            by_cases c11 : a0_0 = 2
            · rw [if_pos c11] at H
              have c11b0 : (a0_0 == 2) = true := beq_iff_eq.mpr c11
              have c11b1 : (a0_0 != 2) = false := bne_eq_false_iff_eq.mpr c11
              clear c11
              have H' := Aside0.mk H
              clear H
              obtain ⟨hcz12_0, hcz12_1, hcz12_2, hcz12_3⟩ := cells_4 BK103.out
              obtain ⟨hfz12_0, hfz12_1, hfz12_2, hfz12_3⟩ := froz_4 BK103.out
              go_wp2
              go_meet
              case rel => exact ⟨_, (decide ((a0_3.size : Int) ≤ 65535)), (by first | rfl | (simp; done) | (simp [*]; done)), H', ⟨by have := HJ1.out; first | omega | exact Nat.le_refl _⟩, ⟨by (with_reducible repeat (first | refine blk_drewN ?_ _ | refine blk_drew ?_ | refine blk_alloc ?_ _)); exact BK103.out⟩, ⟨by repeat (first | (with_reducible first | exact HB.out | apply below_alloc | apply pw_below_drewN | apply below_drew1 | refine below_set ?_ GE103.out) | exact HB.out)⟩⟩
            · rw [if_neg c11] at H
              have c11b0 : (a0_0 == 2) = false := beq_eq_false_iff_ne.mpr c11
              have c11b1 : (a0_0 != 2) = true := bne_iff_ne.mpr c11
              have H' := Aside0.mk H
              clear H
              obtain ⟨hcz13_0, hcz13_1, hcz13_2, hcz13_3⟩ := cells_4 BK103.out
              obtain ⟨hfz13_0, hfz13_1, hfz13_2, hfz13_3⟩ := froz_4 BK103.out
              go_wp2
              go_meet
              case rel => exact ⟨_, (false), (by first | rfl | (simp; done) | (simp [*]; done)), H', ⟨by have := HJ1.out; first | omega | exact Nat.le_refl _⟩, ⟨by (with_reducible repeat (first | refine blk_drewN ?_ _ | refine blk_drew ?_ | refine blk_alloc ?_ _)); exact BK103.out⟩, ⟨by repeat (first | (with_reducible first | exact HB.out | apply below_alloc | apply pw_below_drewN | apply below_drew1 | refine below_set ?_ GE103.out) | exact HB.out)⟩⟩
        · replace c8 := Bool.eq_false_iff.mpr c8
          subst c8
          have H1 : (value_May.j1 kj1 false a0_0 a0_1 a0_2 a0_3) = some r := by rw [if_neg (show ¬ (false = true) by decide)] at H; exact H
          clear H
          have H := H1
          clear H1
          have H' := Aside0.mk H
          clear H
          go_wp2
          go_meet
          case rel => exact ⟨_, (false), (by first | rfl | (simp; done) | (simp [*]; done)), H', ⟨by have := HJ1.out; first | omega | exact Nat.le_refl _⟩, ⟨by (with_reducible repeat (first | refine blk_drewN ?_ _ | refine blk_drew ?_ | refine blk_alloc ?_ _)); exact BK103.out⟩, ⟨by repeat (first | (with_reducible first | exact HB.out | apply below_alloc | apply pw_below_drewN | apply below_drew1 | refine below_set ?_ GE103.out) | exact HB.out)⟩⟩
      case rest =>
        clear HC7
        try clear c1
        try clear p2
        try clear c4
        try clear c4b0
        try clear c4b1
        try clear c8
        try clear c9
        try clear c9b0
        try clear c9b1
        try clear c11
        try clear c11b0
        try clear c11b1
        try clear hcz10_0
        try clear hcz10_1
        try clear hcz10_2
        try clear hcz10_3
        try clear hcz12_0
        try clear hcz12_1
        try clear hcz12_2
        try clear hcz12_3
        try clear hcz13_0
        try clear hcz13_1
        try clear hcz13_2
        try clear hcz13_3
        try clear hcz5_0
        try clear hcz5_1
        try clear hcz5_2
        try clear hcz5_3
        try clear hcz6_0
        try clear hcz6_1
        try clear hcz6_2
        try clear hcz6_3
        try clear hfz10_0
        try clear hfz10_1
        try clear hfz10_2
        try clear hfz10_3
        try clear hfz12_0
        try clear hfz12_1
        try clear hfz12_2
        try clear hfz12_3
        try clear hfz13_0
        try clear hfz13_1
        try clear hfz13_2
        try clear hfz13_3
        try clear hfz5_0
        try clear hfz5_1
        try clear hfz5_2
        try clear hfz5_3
        try clear hfz6_0
        try clear hfz6_1
        try clear hfz6_2
        try clear hfz6_3
        try clear p2
        obtain ⟨kq, x3_6, rfl, HA, HJ6, BK103, HB⟩ := hcut
        cases kq with
        | zero => exact absurd HA.out (by simp [value_May.j1])
        | succ kj6 =>
          have H := HA.out
          clear HA
          simp only [value_May.j1] at H
          by_cases c14 : a0_0 = 3
          · rw [if_pos c14] at H
            have c14b0 : (a0_0 == 3) = true := beq_iff_eq.mpr c14
            have c14b1 : (a0_0 != 3) = false := bne_eq_false_iff_eq.mpr c14
            clear c14
            by_cases c15 : x3_6 = true
            · subst c15
              have H1 : ((math_Abs.f a0_2).bind fun t104 => (if (fle t104 (9218868437227405311 : Nat)) = true then (some ((a0_2 : Int) != 9223372036854775808)) else (some false))) = some r := by rw [if_pos rfl] at H; exact H
              clear H
              have H := H1
              clear H1
              replace H := Option.bind_eq_some_iff.mp H
              obtain ⟨t104, A160, H⟩ := H
              replace H : (if (fle t104 (9218868437227405311 : Nat)) = true then (some ((a0_2 : Int) != 9223372036854775808)) else (some false)) = some r := H
              have A16 := Aside0.mk A160
              clear A160
              by_cases c17 : (fle t104 (9218868437227405311 : Nat)) = true
              · rw [if_pos c17] at H
                have c17b0 : (fle t104 (9218868437227405311 : Nat)) = true := c17
                clear c17
                obtain rfl := Option.some.inj H
                obtain ⟨hcz18_0, hcz18_1, hcz18_2, hcz18_3⟩ := cells_4 BK103.out
                obtain ⟨hfz18_0, hfz18_1, hfz18_2, hfz18_3⟩ := froz_4 BK103.out
                go_wp2_with (first | (go_at_call 70; (with_reducible refine (math_Abs.calls a0_2 t104 _ A16.out).mono ?_); rintro e w' ⟨rfl, ⟨nd, rfl⟩⟩))
                go_ret
                exact ⟨by first | rfl | (simp [errW_none, errW_some] <;> rfl) | (simp [*, errW_none, errW_some] <;> rfl), by repeat (first | (with_reducible first | exact HB.out | apply below_alloc | apply pw_below_drewN | apply below_drew1 | refine below_set ?_ GE103.out) | exact HB.out)⟩
              · rw [if_neg c17] at H
                have c17b0 : (fle t104 (9218868437227405311 : Nat)) = false := by simpa using c17
                clear c17
                obtain rfl := Option.some.inj H
                obtain ⟨hcz19_0, hcz19_1, hcz19_2, hcz19_3⟩ := cells_4 BK103.out
                obtain ⟨hfz19_0, hfz19_1, hfz19_2, hfz19_3⟩ := froz_4 BK103.out
                go_wp2_with (first | (go_at_call 70; (with_reducible refine (math_Abs.calls a0_2 t104 _ A16.out).mono ?_); rintro e w' ⟨rfl, ⟨nd, rfl⟩⟩))
                go_ret
                exact ⟨by first | rfl | (simp [errW_none, errW_some] <;> rfl) | (simp [*, errW_none, errW_some] <;> rfl), by repeat (first | (with_reducible first | exact HB.out | apply below_alloc | apply pw_below_drewN | apply below_drew1 | refine below_set ?_ GE103.out) | exact HB.out)⟩
            · replace c15 := Bool.eq_false_iff.mpr c15
              subst c15
              have H1 : (some false) = some r := by rw [if_neg (show ¬ (false = true) by decide)] at H; exact H
              clear H
              have H := H1
              clear H1
              obtain rfl := Option.some.inj H
              obtain ⟨hcz20_0, hcz20_1, hcz20_2, hcz20_3⟩ := cells_4 BK103.out
              obtain ⟨hfz20_0, hfz20_1, hfz20_2, hfz20_3⟩ := froz_4 BK103.out
              go_wp2
              go_ret
              exact ⟨by first | rfl | (simp [errW_none, errW_some] <;> rfl) | (simp [*, errW_none, errW_some] <;> rfl), by repeat (first | (with_reducible first | exact HB.out | apply below_alloc | apply pw_below_drewN | apply below_drew1 | refine below_set ?_ GE103.out) | exact HB.out)⟩
          · rw [if_neg c14] at H
            have c14b0 : (a0_0 == 3) = false := beq_eq_false_iff_ne.mpr c14
            have c14b1 : (a0_0 != 3) = true := bne_iff_ne.mpr c14
            by_cases c21 : x3_6 = true
            · subst c21
              have H1 : (if (a0_2 : Int) = 0 then (if a0_0 ≥ 0 then (some (decide (a0_0 < 3))) else (some false)) else (some false)) = some r := by rw [if_pos rfl] at H; exact H
              clear H
              have H := H1
              clear H1
              by_cases c22 : (a0_2 : Int) = 0
              · rw [if_pos c22] at H
                have c22b0 : ((a0_2 : Int) == 0) = true := beq_iff_eq.mpr c22
                have c22b1 : ((a0_2 : Int) != 0) = false := bne_eq_false_iff_eq.mpr c22
                clear c22
                by_cases c23 : a0_0 ≥ 0
                · rw [if_pos c23] at H
                  have c23b0 : decide (0 ≤ a0_0) = true := decide_eq_true c23
                  clear c23
                  obtain rfl := Option.some.inj H
                  obtain ⟨hcz24_0, hcz24_1, hcz24_2, hcz24_3⟩ := cells_4 BK103.out
                  obtain ⟨hfz24_0, hfz24_1, hfz24_2, hfz24_3⟩ := froz_4 BK103.out
                  go_wp2
                  go_ret
                  exact ⟨by first | rfl | (simp [errW_none, errW_some] <;> rfl) | (simp [*, errW_none, errW_some] <;> rfl), by repeat (first | (with_reducible first | exact HB.out | apply below_alloc | apply pw_below_drewN | apply below_drew1 | refine below_set ?_ GE103.out) | exact HB.out)⟩
                · rw [if_neg c23] at H
                  have c23b0 : decide (0 ≤ a0_0) = false := decide_eq_false c23
                  clear c23
                  obtain rfl := Option.some.inj H
                  obtain ⟨hcz25_0, hcz25_1, hcz25_2, hcz25_3⟩ := cells_4 BK103.out
                  obtain ⟨hfz25_0, hfz25_1, hfz25_2, hfz25_3⟩ := froz_4 BK103.out
                  go_wp2
                  go_ret
                  exact ⟨by first | rfl | (simp [errW_none, errW_some] <;> rfl) | (simp [*, errW_none, errW_some] <;> rfl), by repeat (first | (with_reducible first | exact HB.out | apply below_alloc | apply pw_below_drewN | apply below_drew1 | refine below_set ?_ GE103.out) | exact HB.out)⟩
              · rw [if_neg c22] at H
                have c22b0 : ((a0_2 : Int) == 0) = false := beq_eq_false_iff_ne.mpr c22
                have c22b1 : ((a0_2 : Int) != 0) = true := bne_iff_ne.mpr c22
                obtain rfl := Option.some.inj H
                obtain ⟨hcz26_0, hcz26_1, hcz26_2, hcz26_3⟩ := cells_4 BK103.out
                obtain ⟨hfz26_0, hfz26_1, hfz26_2, hfz26_3⟩ := froz_4 BK103.out
                go_wp2
                go_ret
                exact ⟨by first | rfl | (simp [errW_none, errW_some] <;> rfl) | (simp [*, errW_none, errW_some] <;> rfl), by repeat (first | (with_reducible first | exact HB.out | apply below_alloc | apply pw_below_drewN | apply below_drew1 | refine below_set ?_ GE103.out) | exact HB.out)⟩
            · replace c21 := Bool.eq_false_iff.mpr c21
              subst c21
              have H1 : (some false) = some r := by rw [if_neg (show ¬ (false = true) by decide)] at H; exact H
              clear H
              have H := H1
              clear H1
              obtain rfl := Option.some.inj H
              obtain ⟨hcz27_0, hcz27_1, hcz27_2, hcz27_3⟩ := cells_4 BK103.out
              obtain ⟨hfz27_0, hfz27_1, hfz27_2, hfz27_3⟩ := froz_4 BK103.out
              go_wp2
              go_ret
              exact ⟨by first | rfl | (simp [errW_none, errW_some] <;> rfl) | (simp [*, errW_none, errW_some] <;> rfl), by repeat (first | (with_reducible first | exact HB.out | apply below_alloc | apply pw_below_drewN | apply below_drew1 | refine below_set ?_ GE103.out) | exact HB.out)⟩

end Go.Proofs.Ytkedejphebfneaa.Pa
end
