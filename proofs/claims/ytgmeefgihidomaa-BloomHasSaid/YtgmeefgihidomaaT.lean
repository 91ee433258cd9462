/- Rows that keep a tail: what lies behind a list that was handed in with marks behind it. -/
import Derived.Test.YtgmeefgihidomaaPa0
import Derived.Test.YtgmeefgihidomaaWShare
import Derived.Test.YtgmeefgihidomaaWMore
import Derived.Test.YtgmeefgihidomaaWInv
import Derived.Test.YtgmeefgihidomaaWTab
namespace Go.Proofs.YtgmeefgihidomaaW.PrintWords
open Go.RowKit Go.Proofs.Ytgmeefgihidomaa.Pa Go.Proofs.YtgmeefgihidomaaW.PrintMore Go.Proofs.YtgmeefgihidomaaW.PrintMore.Kd
set_option linter.unusedVariables false
/-- A cut up to j, beyond the length, within the capacity. -/
theorem cut_capped {P : Program} (t e : TypeId) (kh : IntKind) {i : TypeInfo} (ht : P.underlying t = some (.slice e)) (hi : P.info? e = some i) (A : Option Addr) (n m c : Nat) (j : Int) (h0 : 0 ≤ j) (hm : m = j.toNat) (hc : m ≤ c) :
    ∀ W : World, (Instr.slice t (.slice A n c) none (some (.int kh j)) none).run P W = .ok (.slice A m c) W := by
  intro W
  have hel : P.elem t = e := by simp [Program.elem, ht]
  have hu : P.underlying t = some (.slice (P.elem t)) := by rw [hel]; exact ht
  have ha : (A.map fun x => x.add 0) = A := by cases A <;> simp [Addr.add]
  subst hm
  rw [run_slice_h W t A n c hu kh j h0 (by omega), hel]
  simp [sizeOf, typeInfo, hi, sliced, Result.andThen, ha]
namespace Kd
theorem slice_ob (A : Option Addr) (n m c c' : Nat) : (Value.slice A n c).ownBlock = (Value.slice A m c').ownBlock := by cases A <;> rfl

/-! ### Tb -/
def Tb_tl : List Int := (List.range 20).map fun i : Nat => ((201 + i : Nat) : Int)
def Tb (d : Kd Int) (e : Nat) (w : World) (base : Nat) (ok : Nat → Prop) (v : Value) (xs : List Int) : Prop :=
  ∃ A c, v = .slice A xs.length c ∧ R d e w base ok (.slice A (xs.length + Tb_tl.length) c) (xs ++ Tb_tl)
section
variable {β : Type} {d : Kd Int} {d' : Kd β} {e e' : Nat} {w w1 W W2 : World} {base b b' g : Nat} {ok ok' okv oku : Nat → Prop} {v u : Value} {xs : List Int} {ys : List β} {S : Nat → Prop}
theorem Tb_R (h : Tb d e w base ok v xs) : d.R e w base ok v xs := by
  obtain ⟨A, c, rfl, h⟩ := h
  have := R_take (m := xs.length) h (by simp)
  rw [List.take_left'] at this
  · exact this
  · rfl
theorem Tb_below (h : Tb d e w base ok v xs) (hb : Below w.heap.size w w1) : Tb d e w1 base ok v xs := by
  obtain ⟨A, c, rfl, h⟩ := h; exact ⟨A, c, rfl, R_below h hb⟩
theorem Tb_far (h : Tb d e w base ok v xs) {p : Addr} (hok : ∀ k, ok k → k ≠ p.block) (u : Value) : Tb d e (w.setCell p u) base ok v xs := by
  obtain ⟨A, c, rfl, h⟩ := h; exact ⟨A, c, rfl, R_far h hok u⟩
theorem Tb_far1 (h : Tb d e W base ok v xs) (hE : d.E = []) {g : Nat} (hne : some g ≠ v.ownBlock) : Tb d e W base (fun k => ok k ∧ k ≠ g) v xs := by
  obtain ⟨A, c, rfl, h⟩ := h; exact ⟨A, c, rfl, R_far1 h hE (by rw [slice_ob A _ xs.length c c]; exact hne)⟩
theorem Tb_keep (h : Tb d e w base ok v xs) {g : Nat} (hk : KeepBut w w1 g none) (hok : ∀ k, ok k → k ≠ g) : Tb d e w1 base ok v xs := by
  obtain ⟨A, c, rfl, h⟩ := h; exact ⟨A, c, rfl, R_keep h hk hok⟩
theorem Tb_kept (h : Tb d e W base ok v xs) (hk : Kept W W2 S) (hne : ∀ k, ok k → ¬ S k) : Tb d e W2 base ok v xs := by
  obtain ⟨A, c, rfl, h⟩ := h; exact ⟨A, c, rfl, R_kept h hk hne⟩
theorem Tb_keptB (h : Tb d e W base ok v xs) (hk : Kept W W2 S) (hne : ∀ k, ok k → ¬ S k) : Tb d e W2 base (fun k => ok k ∧ (¬ S k ∧ k < W.heap.size)) v xs := by
  obtain ⟨A, c, rfl, h⟩ := h; exact ⟨A, c, rfl, R_keptB h hk hne⟩
theorem Tb_grown (h : Tb d e w base ok v xs) {row : Option Nat} (hg : w.grownBy w1 row) (hok : ∀ k, ok k → some k ≠ row) : Tb d e w1 base ok v xs := by
  obtain ⟨A, c, rfl, h⟩ := h; exact ⟨A, c, rfl, R_grown h hg hok⟩
theorem Tb_grown1 (h : Tb d e W base ok v xs) (hE : d.E = []) {row : Option Nat} (hg : W.grownBy w1 row) (hne : row ≠ v.ownBlock) : Tb d e w1 base ok v xs := by
  obtain ⟨A, c, rfl, h⟩ := h; exact ⟨A, c, rfl, R_grown1 h hE hg (by rw [slice_ob A _ xs.length c c]; exact hne)⟩
theorem Tb_grown2 (h : Tb d e W base ok v xs) (hE : d.E = []) {row : Option Nat} (hg : W.grownBy w1 row) (hne : ∀ k, row = some k → some k ≠ v.ownBlock) : Tb d e w1 base ok v xs := by
  obtain ⟨A, c, rfl, h⟩ := h; exact ⟨A, c, rfl, R_grown2 h hE hg (by rw [slice_ob A _ xs.length c c]; exact hne)⟩
theorem Tb_elder' (hu : Tb d e W base ok u xs) (hbase : ∀ k, v.ownBlock = some k → W.heap.size ≤ k) (hb : Below W.heap.size W w1) : Tb d e w1 base (fun k => ok k ∧ some k ≠ v.ownBlock) u xs := by
  obtain ⟨A, c, rfl, h⟩ := hu; exact ⟨A, c, rfl, R_elder' h hbase hb⟩
theorem Tb_elderB (h : Tb d e w base ok v xs) (a : Nat) (ha : w.heap.size ≤ a) : Tb d e w base (fun k => ok k ∧ k ≠ a) v xs := by
  obtain ⟨A, c, rfl, h⟩ := h; exact ⟨A, c, rfl, R_elderB h a ha⟩
theorem Tb_old (hu : Tb d e W base ok u xs) (hb : Below W.heap.size W w1) : Tb d e w1 base (fun k => ok k ∧ k < W.heap.size) u xs := by
  obtain ⟨A, c, rfl, h⟩ := hu; exact ⟨A, c, rfl, R_old h hb⟩
theorem Tb_oldK (hu : Tb d e W base (fun k => ok k ∧ k ≠ g) u xs) (hk : KeepBut W w1 g none) : Tb d e w1 base (fun k => ok k ∧ k < W.heap.size) u xs := by
  obtain ⟨A, c, rfl, h⟩ := hu; exact ⟨A, c, rfl, R_oldK h hk⟩
theorem Tb_told {M : Nat} (h : Tb d e w1 base (fun k => ok k ∧ k < M) u xs) (hbase : ∀ k, v.ownBlock = some k → M ≤ k) : Tb d e w1 base (fun k => (ok k ∧ some k ≠ v.ownBlock) ∧ k < M) u xs := by
  obtain ⟨A, c, rfl, h⟩ := h; exact ⟨A, c, rfl, R_told h hbase⟩
theorem Tb_new' (h : Tb d e w1 W.heap.size ok v xs) (hlt : ∀ k, u.ownBlock = some k → k < W.heap.size) : Tb d e w1 W.heap.size (fun k => ok k ∧ some k ≠ u.ownBlock) v xs := by
  obtain ⟨A, c, rfl, h⟩ := h; exact ⟨A, c, rfl, R_new' h hlt⟩
theorem Tb_newB {o : Obj} (h : Tb d e w1 w.heap.size ok v xs) (hb : w.heap[g]? = some o) : Tb d e w1 w.heap.size (fun k => ok k ∧ k ≠ g) v xs := by
  obtain ⟨A, c, rfl, h⟩ := h; exact ⟨A, c, rfl, R_newB h hb⟩
theorem Tb_newM {M : Nat → Prop} (h : Tb d e w1 W.heap.size ok v xs) (hle : w.heap.size ≤ W.heap.size) (hM : ∀ k, w.heap.size ≤ k → M k) : Tb d e w1 W.heap.size (fun k => M k ∧ ok k) v xs := by
  obtain ⟨A, c, rfl, h⟩ := h; exact ⟨A, c, rfl, R_newM h hle hM⟩
theorem Tb_lower {base' : Nat} (h : Tb d e w base ok v xs) (hb : base' ≤ base) : Tb d e w base' ok v xs := by
  obtain ⟨A, c, rfl, h⟩ := h; exact ⟨A, c, rfl, R_lower h hb⟩
theorem Tb_types (h : Tb d e w base ok v xs) {g t : Nat} {cells : Array Value} (hb : w.heap[g]? = some (.cells cells t (0, 0))) (ht : ∀ q, q ∈ e :: d.E → q ≠ t) : Tb d e w base (fun k => ok k ∧ k ≠ g) v xs := by
  obtain ⟨A, c, rfl, h⟩ := h; exact ⟨A, c, rfl, R_types h hb ht⟩
theorem Tb_over' (h : Tb d e W base ok u xs) (hty : ∀ k, v.ownBlock = some k → ∃ cells, W.heap[k]? = some (.cells cells e' (0, 0))) (ht : ∀ q, q ∈ e :: d.E → q ≠ e') (hg : W.grownBy w1 v.ownBlock) : Tb d e w1 base ok u xs := by
  obtain ⟨A, c, rfl, h⟩ := h; exact ⟨A, c, rfl, R_over' h hty ht hg⟩
theorem Tb_apart' (h : Tb d e W base ok u xs) (hty : ∀ k, v.ownBlock = some k → ∃ cells, W.heap[k]? = some (.cells cells e' (0, 0))) (ht : ∀ q, q ∈ e :: d.E → q ≠ e') : Tb d e W base (fun k => ok k ∧ some k ≠ v.ownBlock) u xs := by
  obtain ⟨A, c, rfl, h⟩ := h; exact ⟨A, c, rfl, R_apart' h hty ht⟩
theorem Tb_apart_nil (h : Tb d e w base ok u xs) : Tb d e w base (fun k => ok k ∧ some k ≠ (Value.slice none 0 0).ownBlock) u xs := by
  obtain ⟨A, c, rfl, h⟩ := h; exact ⟨A, c, rfl, R_apart_nil h⟩
theorem Tb_mono (h : Tb d e w base ok v xs) (hok : ∀ k, ok k → ok' k) : Tb d e w base ok' v xs := by
  obtain ⟨A, c, rfl, h⟩ := h; exact ⟨A, c, rfl, R_mono h hok⟩
theorem Tb_drew (h : Tb d e w base ok v xs) : Tb d e w.drew base ok v xs := by
  obtain ⟨A, c, rfl, h⟩ := h; exact ⟨A, c, rfl, R_drew h⟩
theorem Tb_drewN (h : Tb d e w base ok v xs) (m : Nat) : Tb d e (w.drewN m) base ok v xs := by
  obtain ⟨A, c, rfl, h⟩ := h; exact ⟨A, c, rfl, R_drewN h m⟩
theorem Tb_alloc (h : Tb d e w base ok v xs) (o : Obj) : Tb d e (w.alloc o) base ok v xs := by
  obtain ⟨A, c, rfl, h⟩ := h; exact ⟨A, c, rfl, R_alloc h o⟩
theorem Tb_at {m : Nat} (hq : w.drewN m = w1) (h : Tb d e w base ok v xs) : Tb d e w1 base ok v xs := by
  obtain ⟨A, c, rfl, h⟩ := h; exact ⟨A, c, rfl, R_at hq h⟩
theorem Tb_after {v1 : Value} (h : Tb d e W base (fun k => ok k ∧ some k ≠ v.ownBlock) u xs) (hg : W.grownBy w1 v.ownBlock) (hat : v1.ownBlock = v.ownBlock ∨ ∃ b, v1.ownBlock = some b ∧ W.heap.size ≤ b) : Tb d e w1 base (fun k => ok k ∧ some k ≠ v1.ownBlock) u xs := by
  obtain ⟨A, c, rfl, h⟩ := h; exact ⟨A, c, rfl, R_after h hg hat⟩
theorem Tb_bound (h : Tb d e w base ok v xs) : Tb d e w base (fun k => ok k ∧ base ≤ k ∧ k < w.heap.size ∧ ∃ q, q ∈ e :: d.E ∧ ∃ cells, w.heap[k]? = some (.cells cells q (0, 0))) v xs := by
  obtain ⟨A, c, rfl, h⟩ := h; exact ⟨A, c, rfl, R_bound h⟩
theorem Tb_tight (hE : d.E = []) (h : Tb d e w base ok v xs) : Tb d e w base (fun k => some k = v.ownBlock) v xs := by
  obtain ⟨A, c, rfl, h⟩ := h
  refine ⟨A, c, rfl, ?_⟩
  have := R_tight hE h
  rw [slice_ob A (xs.length + Tb_tl.length) xs.length c c] at this
  exact this
theorem Tb_base (h : Tb d e w base ok v xs) : ∀ k, v.ownBlock = some k → base ≤ k := R_base (Tb_R h)
theorem Tb_base2 (h : Tb d e w base ok v xs) : v.ownBlock = none ∨ ∃ k, v.ownBlock = some k ∧ base ≤ k := R_base2 (Tb_R h)
theorem Tb_lt (h : Tb d e w base ok v xs) : ∀ k, v.ownBlock = some k → k < w.heap.size := R_lt (Tb_R h)
theorem Tb_typed (h : Tb d e w base ok v xs) : ∀ k, v.ownBlock = some k → ∃ cells, w.heap[k]? = some (.cells cells e (0, 0)) := R_typed (Tb_R h)
theorem Tb_away (h : Tb d e w base ok v xs) {g : Nat} (hok : ∀ k, ok k → k ≠ g) : some g ≠ v.ownBlock := R_away (Tb_R h) hok
theorem Tb_ne (h : Tb d e w base ok v xs) {g t : Nat} {cells : Array Value} (hb : w.heap[g]? = some (.cells cells t (0, 0))) (ht : e ≠ t) : some g ≠ v.ownBlock := R_ne (Tb_R h) hb ht
theorem Tb_slice (h : Tb d e w base ok v xs) : ∃ A c, v = .slice A xs.length c := R_slice (Tb_R h)
theorem Tb_form (h : Tb d e w base ok v xs) (hp : 0 < xs.length) : ∃ g cap, v = .slice (some ⟨g, 0, none⟩) xs.length cap ∧ base ≤ g ∧ g < w.heap.size ∧ ∃ cells, w.heap[g]? = some (.cells cells e (0, 0)) := R_form (Tb_R h) hp
theorem Tb_reads' {A : Option Addr} {n c : Nat} (h : Tb d e w base ok (.slice A n c) xs) : n = xs.length ∧ n ≤ c ∧ d.C w A xs.length xs := R_reads' (Tb_R h)
/-- What is read, the tail with it. -/
theorem Tb_readsT {A : Option Addr} {n c : Nat} (h : Tb d e w base ok (.slice A n c) xs) : n = xs.length ∧ n + Tb_tl.length ≤ c ∧ d.C w A (xs.length + Tb_tl.length) (xs ++ Tb_tl) := by
  obtain ⟨A', c', hv, h⟩ := h
  obtain ⟨rfl, rfl, rfl⟩ := Value.slice.inj hv
  have := R_reads' h
  refine ⟨rfl, this.2.1, ?_⟩
  have t := this.2.2
  rw [List.length_append] at t
  exact t
theorem Tb_F {A : Option Addr} {n cc : Nat} (h : Tb d e W base ok (.slice A n cc) xs) : F d W ok A n xs := R_F (Tb_R h)
theorem Tb_V {base' : Nat} (h : Tb d e W base ok v xs) : V d e W base' ok v xs := R_V (Tb_R h)
theorem Tb_get {n cap : Nat} {ad : Addr} (h : Tb d e W base ok (.slice (some ad) n cap) xs) (z : Int) (i : Int) (h0 : 0 ≤ i) (h1 : i < n) :
    ∃ c, c.length = d.sz ∧ d.M W base (fun k => ok k ∧ some k ≠ (Value.slice (some ad) n cap).ownBlock) (xs.getD i.toNat z) c ∧ ∀ j u, c[j]? = some u → W.cell? (ad.add (i.toNat * d.sz + j)) = some u := R_get (Tb_R h) z i h0 h1
theorem Tb_elem {n cap : Nat} (h : Tb d e W base ok (.slice (some ⟨g, 0, none⟩) n cap) xs) (z : Int) (i : Int) (h0 : 0 ≤ i) (h1 : i < n) :
    ∃ c, c.length = d.sz ∧ d.M W base (fun k => ok k ∧ k ≠ g) (xs.getD i.toNat z) c ∧ (∀ j u, c[j]? = some u → W.cell? ⟨g, i.toNat * d.sz + j, none⟩ = some u) ∧ ∀ j, W.frozen? ⟨g, i.toNat * d.sz + j, none⟩ = false := R_elem (Tb_R h) z i h0 h1
theorem Tb_celln {enc : Int → Value} {h1 : ∀ x, (enc x).oneCell' = true} {n cap : Nat} (z : Int) (h : Tb (scalar enc h1) e W base ok (.slice (some ⟨g, 0, none⟩) n cap) xs) (i : Int) (h0 : 0 ≤ i) (hi : i < n) : W.cell? ⟨g, i.toNat, none⟩ = some (enc (rdOf z xs i)) ∧ W.frozen? ⟨g, i.toNat, none⟩ = false := R_celln z (Tb_R h) i h0 hi
theorem Tb_putg {enc : Int → Value} {h1 : ∀ x, (enc x).oneCell' = true} {n cap : Nat} (h : Tb (scalar enc h1) e W base ok (.slice (some ⟨g, 0, none⟩) n cap) xs) (i : Int) (h0 : 0 ≤ i) (hi : i < n) (x : Int) : Tb (scalar enc h1) e (W.setCell ⟨g, i.toNat, none⟩ (enc x)) base ok (.slice (some ⟨g, 0, none⟩) n cap) (xs.set i.toNat x) ∧ W.grownBy (W.setCell ⟨g, i.toNat, none⟩ (enc x)) (some g) := by
  obtain ⟨A', c', hv, h⟩ := h
  obtain ⟨rfl, rfl, rfl⟩ := Value.slice.inj hv
  obtain ⟨r1, r2⟩ := R_putg h i x
  refine ⟨⟨_, _, by rw [List.length_set], ?_⟩, r2⟩
  rw [List.set_append_left _ _ (by omega)] at r1
  rw [List.length_set]
  exact r1
theorem Tb_seg {n cap : Nat} {okp : Nat → Prop} (h : Tb d e W base ok (.slice (some ⟨g, 0, none⟩) n cap) xs) (i : Int) (h0 : 0 ≤ i) (h1 : i < n) {c seg : List Value} {j : Nat} (hcl : c.length = d.sz) (hcc : ∀ j u, c[j]? = some u → W.cell? ⟨g, i.toNat * d.sz + j, none⟩ = some u)
    (hj : j + seg.length ≤ d.sz) {x' : Int} (hM : d.M W base okp x' (c.take j ++ seg ++ c.drop (j + seg.length))) (hokp : ∀ k, okp k → ok k ∧ k ≠ g) :
    Tb d e (W.setCells g (i.toNat * d.sz + j) seg) base ok (.slice (some ⟨g, 0, none⟩) n cap) (xs.set i.toNat x') ∧ W.grownBy (W.setCells g (i.toNat * d.sz + j) seg) (some g) := by
  obtain ⟨A', c', hv, h⟩ := h
  obtain ⟨rfl, rfl, rfl⟩ := Value.slice.inj hv
  obtain ⟨r1, r2⟩ := R_seg h i h0 (by omega) hcl hcc hj hM hokp
  refine ⟨⟨_, _, by rw [List.length_set], ?_⟩, r2⟩
  rw [List.set_append_left _ _ (by omega)] at r1
  rw [List.length_set]
  exact r1
end

/-! ### Tv -/
def Tv_tl : List S40 := List.replicate 3 (⟨77, 0, 0, ⟨#[109, 97, 114, 107]⟩⟩ : S40)
def Tv (d : Kd S40) (e : Nat) (w : World) (base : Nat) (ok : Nat → Prop) (v : Value) (xs : List S40) : Prop :=
  ∃ A c, v = .slice A xs.length c ∧ R d e w base ok (.slice A (xs.length + Tv_tl.length) c) (xs ++ Tv_tl)
section
variable {β : Type} {d : Kd S40} {d' : Kd β} {e e' : Nat} {w w1 W W2 : World} {base b b' g : Nat} {ok ok' okv oku : Nat → Prop} {v u : Value} {xs : List S40} {ys : List β} {S : Nat → Prop}
theorem Tv_R (h : Tv d e w base ok v xs) : d.R e w base ok v xs := by
  obtain ⟨A, c, rfl, h⟩ := h
  have := R_take (m := xs.length) h (by simp)
  rw [List.take_left'] at this
  · exact this
  · rfl
theorem Tv_below (h : Tv d e w base ok v xs) (hb : Below w.heap.size w w1) : Tv d e w1 base ok v xs := by
  obtain ⟨A, c, rfl, h⟩ := h; exact ⟨A, c, rfl, R_below h hb⟩
theorem Tv_far (h : Tv d e w base ok v xs) {p : Addr} (hok : ∀ k, ok k → k ≠ p.block) (u : Value) : Tv d e (w.setCell p u) base ok v xs := by
  obtain ⟨A, c, rfl, h⟩ := h; exact ⟨A, c, rfl, R_far h hok u⟩
theorem Tv_far1 (h : Tv d e W base ok v xs) (hE : d.E = []) {g : Nat} (hne : some g ≠ v.ownBlock) : Tv d e W base (fun k => ok k ∧ k ≠ g) v xs := by
  obtain ⟨A, c, rfl, h⟩ := h; exact ⟨A, c, rfl, R_far1 h hE (by rw [slice_ob A _ xs.length c c]; exact hne)⟩
theorem Tv_keep (h : Tv d e w base ok v xs) {g : Nat} (hk : KeepBut w w1 g none) (hok : ∀ k, ok k → k ≠ g) : Tv d e w1 base ok v xs := by
  obtain ⟨A, c, rfl, h⟩ := h; exact ⟨A, c, rfl, R_keep h hk hok⟩
theorem Tv_kept (h : Tv d e W base ok v xs) (hk : Kept W W2 S) (hne : ∀ k, ok k → ¬ S k) : Tv d e W2 base ok v xs := by
  obtain ⟨A, c, rfl, h⟩ := h; exact ⟨A, c, rfl, R_kept h hk hne⟩
theorem Tv_keptB (h : Tv d e W base ok v xs) (hk : Kept W W2 S) (hne : ∀ k, ok k → ¬ S k) : Tv d e W2 base (fun k => ok k ∧ (¬ S k ∧ k < W.heap.size)) v xs := by
  obtain ⟨A, c, rfl, h⟩ := h; exact ⟨A, c, rfl, R_keptB h hk hne⟩
theorem Tv_grown (h : Tv d e w base ok v xs) {row : Option Nat} (hg : w.grownBy w1 row) (hok : ∀ k, ok k → some k ≠ row) : Tv d e w1 base ok v xs := by
  obtain ⟨A, c, rfl, h⟩ := h; exact ⟨A, c, rfl, R_grown h hg hok⟩
theorem Tv_grown1 (h : Tv d e W base ok v xs) (hE : d.E = []) {row : Option Nat} (hg : W.grownBy w1 row) (hne : row ≠ v.ownBlock) : Tv d e w1 base ok v xs := by
  obtain ⟨A, c, rfl, h⟩ := h; exact ⟨A, c, rfl, R_grown1 h hE hg (by rw [slice_ob A _ xs.length c c]; exact hne)⟩
theorem Tv_grown2 (h : Tv d e W base ok v xs) (hE : d.E = []) {row : Option Nat} (hg : W.grownBy w1 row) (hne : ∀ k, row = some k → some k ≠ v.ownBlock) : Tv d e w1 base ok v xs := by
  obtain ⟨A, c, rfl, h⟩ := h; exact ⟨A, c, rfl, R_grown2 h hE hg (by rw [slice_ob A _ xs.length c c]; exact hne)⟩
theorem Tv_elder' (hu : Tv d e W base ok u xs) (hbase : ∀ k, v.ownBlock = some k → W.heap.size ≤ k) (hb : Below W.heap.size W w1) : Tv d e w1 base (fun k => ok k ∧ some k ≠ v.ownBlock) u xs := by
  obtain ⟨A, c, rfl, h⟩ := hu; exact ⟨A, c, rfl, R_elder' h hbase hb⟩
theorem Tv_elderB (h : Tv d e w base ok v xs) (a : Nat) (ha : w.heap.size ≤ a) : Tv d e w base (fun k => ok k ∧ k ≠ a) v xs := by
  obtain ⟨A, c, rfl, h⟩ := h; exact ⟨A, c, rfl, R_elderB h a ha⟩
theorem Tv_old (hu : Tv d e W base ok u xs) (hb : Below W.heap.size W w1) : Tv d e w1 base (fun k => ok k ∧ k < W.heap.size) u xs := by
  obtain ⟨A, c, rfl, h⟩ := hu; exact ⟨A, c, rfl, R_old h hb⟩
theorem Tv_oldK (hu : Tv d e W base (fun k => ok k ∧ k ≠ g) u xs) (hk : KeepBut W w1 g none) : Tv d e w1 base (fun k => ok k ∧ k < W.heap.size) u xs := by
  obtain ⟨A, c, rfl, h⟩ := hu; exact ⟨A, c, rfl, R_oldK h hk⟩
theorem Tv_told {M : Nat} (h : Tv d e w1 base (fun k => ok k ∧ k < M) u xs) (hbase : ∀ k, v.ownBlock = some k → M ≤ k) : Tv d e w1 base (fun k => (ok k ∧ some k ≠ v.ownBlock) ∧ k < M) u xs := by
  obtain ⟨A, c, rfl, h⟩ := h; exact ⟨A, c, rfl, R_told h hbase⟩
theorem Tv_new' (h : Tv d e w1 W.heap.size ok v xs) (hlt : ∀ k, u.ownBlock = some k → k < W.heap.size) : Tv d e w1 W.heap.size (fun k => ok k ∧ some k ≠ u.ownBlock) v xs := by
  obtain ⟨A, c, rfl, h⟩ := h; exact ⟨A, c, rfl, R_new' h hlt⟩
theorem Tv_newB {o : Obj} (h : Tv d e w1 w.heap.size ok v xs) (hb : w.heap[g]? = some o) : Tv d e w1 w.heap.size (fun k => ok k ∧ k ≠ g) v xs := by
  obtain ⟨A, c, rfl, h⟩ := h; exact ⟨A, c, rfl, R_newB h hb⟩
theorem Tv_newM {M : Nat → Prop} (h : Tv d e w1 W.heap.size ok v xs) (hle : w.heap.size ≤ W.heap.size) (hM : ∀ k, w.heap.size ≤ k → M k) : Tv d e w1 W.heap.size (fun k => M k ∧ ok k) v xs := by
  obtain ⟨A, c, rfl, h⟩ := h; exact ⟨A, c, rfl, R_newM h hle hM⟩
theorem Tv_lower {base' : Nat} (h : Tv d e w base ok v xs) (hb : base' ≤ base) : Tv d e w base' ok v xs := by
  obtain ⟨A, c, rfl, h⟩ := h; exact ⟨A, c, rfl, R_lower h hb⟩
theorem Tv_types (h : Tv d e w base ok v xs) {g t : Nat} {cells : Array Value} (hb : w.heap[g]? = some (.cells cells t (0, 0))) (ht : ∀ q, q ∈ e :: d.E → q ≠ t) : Tv d e w base (fun k => ok k ∧ k ≠ g) v xs := by
  obtain ⟨A, c, rfl, h⟩ := h; exact ⟨A, c, rfl, R_types h hb ht⟩
theorem Tv_over' (h : Tv d e W base ok u xs) (hty : ∀ k, v.ownBlock = some k → ∃ cells, W.heap[k]? = some (.cells cells e' (0, 0))) (ht : ∀ q, q ∈ e :: d.E → q ≠ e') (hg : W.grownBy w1 v.ownBlock) : Tv d e w1 base ok u xs := by
  obtain ⟨A, c, rfl, h⟩ := h; exact ⟨A, c, rfl, R_over' h hty ht hg⟩
theorem Tv_apart' (h : Tv d e W base ok u xs) (hty : ∀ k, v.ownBlock = some k → ∃ cells, W.heap[k]? = some (.cells cells e' (0, 0))) (ht : ∀ q, q ∈ e :: d.E → q ≠ e') : Tv d e W base (fun k => ok k ∧ some k ≠ v.ownBlock) u xs := by
  obtain ⟨A, c, rfl, h⟩ := h; exact ⟨A, c, rfl, R_apart' h hty ht⟩
theorem Tv_apart_nil (h : Tv d e w base ok u xs) : Tv d e w base (fun k => ok k ∧ some k ≠ (Value.slice none 0 0).ownBlock) u xs := by
  obtain ⟨A, c, rfl, h⟩ := h; exact ⟨A, c, rfl, R_apart_nil h⟩
theorem Tv_mono (h : Tv d e w base ok v xs) (hok : ∀ k, ok k → ok' k) : Tv d e w base ok' v xs := by
  obtain ⟨A, c, rfl, h⟩ := h; exact ⟨A, c, rfl, R_mono h hok⟩
theorem Tv_drew (h : Tv d e w base ok v xs) : Tv d e w.drew base ok v xs := by
  obtain ⟨A, c, rfl, h⟩ := h; exact ⟨A, c, rfl, R_drew h⟩
theorem Tv_drewN (h : Tv d e w base ok v xs) (m : Nat) : Tv d e (w.drewN m) base ok v xs := by
  obtain ⟨A, c, rfl, h⟩ := h; exact ⟨A, c, rfl, R_drewN h m⟩
theorem Tv_alloc (h : Tv d e w base ok v xs) (o : Obj) : Tv d e (w.alloc o) base ok v xs := by
  obtain ⟨A, c, rfl, h⟩ := h; exact ⟨A, c, rfl, R_alloc h o⟩
theorem Tv_at {m : Nat} (hq : w.drewN m = w1) (h : Tv d e w base ok v xs) : Tv d e w1 base ok v xs := by
  obtain ⟨A, c, rfl, h⟩ := h; exact ⟨A, c, rfl, R_at hq h⟩
theorem Tv_after {v1 : Value} (h : Tv d e W base (fun k => ok k ∧ some k ≠ v.ownBlock) u xs) (hg : W.grownBy w1 v.ownBlock) (hat : v1.ownBlock = v.ownBlock ∨ ∃ b, v1.ownBlock = some b ∧ W.heap.size ≤ b) : Tv d e w1 base (fun k => ok k ∧ some k ≠ v1.ownBlock) u xs := by
  obtain ⟨A, c, rfl, h⟩ := h; exact ⟨A, c, rfl, R_after h hg hat⟩
theorem Tv_bound (h : Tv d e w base ok v xs) : Tv d e w base (fun k => ok k ∧ base ≤ k ∧ k < w.heap.size ∧ ∃ q, q ∈ e :: d.E ∧ ∃ cells, w.heap[k]? = some (.cells cells q (0, 0))) v xs := by
  obtain ⟨A, c, rfl, h⟩ := h; exact ⟨A, c, rfl, R_bound h⟩
theorem Tv_tight (hE : d.E = []) (h : Tv d e w base ok v xs) : Tv d e w base (fun k => some k = v.ownBlock) v xs := by
  obtain ⟨A, c, rfl, h⟩ := h
  refine ⟨A, c, rfl, ?_⟩
  have := R_tight hE h
  rw [slice_ob A (xs.length + Tv_tl.length) xs.length c c] at this
  exact this
theorem Tv_base (h : Tv d e w base ok v xs) : ∀ k, v.ownBlock = some k → base ≤ k := R_base (Tv_R h)
theorem Tv_base2 (h : Tv d e w base ok v xs) : v.ownBlock = none ∨ ∃ k, v.ownBlock = some k ∧ base ≤ k := R_base2 (Tv_R h)
theorem Tv_lt (h : Tv d e w base ok v xs) : ∀ k, v.ownBlock = some k → k < w.heap.size := R_lt (Tv_R h)
theorem Tv_typed (h : Tv d e w base ok v xs) : ∀ k, v.ownBlock = some k → ∃ cells, w.heap[k]? = some (.cells cells e (0, 0)) := R_typed (Tv_R h)
theorem Tv_away (h : Tv d e w base ok v xs) {g : Nat} (hok : ∀ k, ok k → k ≠ g) : some g ≠ v.ownBlock := R_away (Tv_R h) hok
theorem Tv_ne (h : Tv d e w base ok v xs) {g t : Nat} {cells : Array Value} (hb : w.heap[g]? = some (.cells cells t (0, 0))) (ht : e ≠ t) : some g ≠ v.ownBlock := R_ne (Tv_R h) hb ht
theorem Tv_slice (h : Tv d e w base ok v xs) : ∃ A c, v = .slice A xs.length c := R_slice (Tv_R h)
theorem Tv_form (h : Tv d e w base ok v xs) (hp : 0 < xs.length) : ∃ g cap, v = .slice (some ⟨g, 0, none⟩) xs.length cap ∧ base ≤ g ∧ g < w.heap.size ∧ ∃ cells, w.heap[g]? = some (.cells cells e (0, 0)) := R_form (Tv_R h) hp
theorem Tv_reads' {A : Option Addr} {n c : Nat} (h : Tv d e w base ok (.slice A n c) xs) : n = xs.length ∧ n ≤ c ∧ d.C w A xs.length xs := R_reads' (Tv_R h)
/-- What is read, the tail with it. -/
theorem Tv_readsT {A : Option Addr} {n c : Nat} (h : Tv d e w base ok (.slice A n c) xs) : n = xs.length ∧ n + Tv_tl.length ≤ c ∧ d.C w A (xs.length + Tv_tl.length) (xs ++ Tv_tl) := by
  obtain ⟨A', c', hv, h⟩ := h
  obtain ⟨rfl, rfl, rfl⟩ := Value.slice.inj hv
  have := R_reads' h
  refine ⟨rfl, this.2.1, ?_⟩
  have t := this.2.2
  rw [List.length_append] at t
  exact t
theorem Tv_F {A : Option Addr} {n cc : Nat} (h : Tv d e W base ok (.slice A n cc) xs) : F d W ok A n xs := R_F (Tv_R h)
theorem Tv_V {base' : Nat} (h : Tv d e W base ok v xs) : V d e W base' ok v xs := R_V (Tv_R h)
theorem Tv_get {n cap : Nat} {ad : Addr} (h : Tv d e W base ok (.slice (some ad) n cap) xs) (z : S40) (i : Int) (h0 : 0 ≤ i) (h1 : i < n) :
    ∃ c, c.length = d.sz ∧ d.M W base (fun k => ok k ∧ some k ≠ (Value.slice (some ad) n cap).ownBlock) (xs.getD i.toNat z) c ∧ ∀ j u, c[j]? = some u → W.cell? (ad.add (i.toNat * d.sz + j)) = some u := R_get (Tv_R h) z i h0 h1
theorem Tv_elem {n cap : Nat} (h : Tv d e W base ok (.slice (some ⟨g, 0, none⟩) n cap) xs) (z : S40) (i : Int) (h0 : 0 ≤ i) (h1 : i < n) :
    ∃ c, c.length = d.sz ∧ d.M W base (fun k => ok k ∧ k ≠ g) (xs.getD i.toNat z) c ∧ (∀ j u, c[j]? = some u → W.cell? ⟨g, i.toNat * d.sz + j, none⟩ = some u) ∧ ∀ j, W.frozen? ⟨g, i.toNat * d.sz + j, none⟩ = false := R_elem (Tv_R h) z i h0 h1
theorem Tv_celln {enc : S40 → Value} {h1 : ∀ x, (enc x).oneCell' = true} {n cap : Nat} (z : S40) (h : Tv (scalar enc h1) e W base ok (.slice (some ⟨g, 0, none⟩) n cap) xs) (i : Int) (h0 : 0 ≤ i) (hi : i < n) : W.cell? ⟨g, i.toNat, none⟩ = some (enc (rdOf z xs i)) ∧ W.frozen? ⟨g, i.toNat, none⟩ = false := R_celln z (Tv_R h) i h0 hi
theorem Tv_putg {enc : S40 → Value} {h1 : ∀ x, (enc x).oneCell' = true} {n cap : Nat} (h : Tv (scalar enc h1) e W base ok (.slice (some ⟨g, 0, none⟩) n cap) xs) (i : Int) (h0 : 0 ≤ i) (hi : i < n) (x : S40) : Tv (scalar enc h1) e (W.setCell ⟨g, i.toNat, none⟩ (enc x)) base ok (.slice (some ⟨g, 0, none⟩) n cap) (xs.set i.toNat x) ∧ W.grownBy (W.setCell ⟨g, i.toNat, none⟩ (enc x)) (some g) := by
  obtain ⟨A', c', hv, h⟩ := h
  obtain ⟨rfl, rfl, rfl⟩ := Value.slice.inj hv
  obtain ⟨r1, r2⟩ := R_putg h i x
  refine ⟨⟨_, _, by rw [List.length_set], ?_⟩, r2⟩
  rw [List.set_append_left _ _ (by omega)] at r1
  rw [List.length_set]
  exact r1
theorem Tv_seg {n cap : Nat} {okp : Nat → Prop} (h : Tv d e W base ok (.slice (some ⟨g, 0, none⟩) n cap) xs) (i : Int) (h0 : 0 ≤ i) (h1 : i < n) {c seg : List Value} {j : Nat} (hcl : c.length = d.sz) (hcc : ∀ j u, c[j]? = some u → W.cell? ⟨g, i.toNat * d.sz + j, none⟩ = some u)
    (hj : j + seg.length ≤ d.sz) {x' : S40} (hM : d.M W base okp x' (c.take j ++ seg ++ c.drop (j + seg.length))) (hokp : ∀ k, okp k → ok k ∧ k ≠ g) :
    Tv d e (W.setCells g (i.toNat * d.sz + j) seg) base ok (.slice (some ⟨g, 0, none⟩) n cap) (xs.set i.toNat x') ∧ W.grownBy (W.setCells g (i.toNat * d.sz + j) seg) (some g) := by
  obtain ⟨A', c', hv, h⟩ := h
  obtain ⟨rfl, rfl, rfl⟩ := Value.slice.inj hv
  obtain ⟨r1, r2⟩ := R_seg h i h0 (by omega) hcl hcc hj hM hokp
  refine ⟨⟨_, _, by rw [List.length_set], ?_⟩, r2⟩
  rw [List.set_append_left _ _ (by omega)] at r1
  rw [List.length_set]
  exact r1
end
end Kd
end Go.Proofs.YtgmeefgihidomaaW.PrintWords
