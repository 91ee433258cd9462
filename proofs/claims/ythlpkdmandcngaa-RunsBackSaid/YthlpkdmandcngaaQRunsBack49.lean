/- The texts of RunsBack, merged: part 49. -/
import Derived.Test.YthlpkdmandcngaaQRunsBack20
import Derived.Test.YthlpkdmandcngaaQRunsBack23
import Derived.Test.YthlpkdmandcngaaQRunsBack35
import Derived.Test.YthlpkdmandcngaaQRunsBack37
import Derived.Test.YthlpkdmandcngaaQRunsBack41
import Derived.Test.YthlpkdmandcngaaQRunsBack45
import Derived.Test.YthlpkdmandcngaaQRunsBack48
/- runs.PutInts, PutTexts, Ints, Texts, plainly (written by mkrp.py). -/
namespace Go.Proofs.Ythlpkdmandcngaa.Pa
open Go.RowKit Go.Proofs.YthlpkdmandcngaaW.PrintWords Go.Proofs.YthlpkdmandcngaaW.PrintLast Go.Proofs.YthlpkdmandcngaaW.PrintMore Go.Proofs.Ythlpkdmandcngaa.L
set_option linter.unusedVariables false
set_option linter.unusedSimpArgs false
theorem strOf_bytes (s : ByteArray) : strOfNums (bytesOf s) = s := by
  apply ByteArray.ext
  apply Array.toList_inj.1
  rw [strOfNums_data, bytesOf, List.map_map]
  conv => rhs; rw [← List.map_id s.data.toList]
  apply List.map_congr_left
  intro a _
  simp
theorem bytes_bytesOf (s : ByteArray) : Bytes (bytesOf s) := fun x hx => by
  rw [bytesOf] at hx
  obtain ⟨b, _, rfl⟩ := List.mem_map.1 hx
  have := b.toNat_lt
  omega
/-- Numbers, as Varints. -/
def CI : Cod Int where
  fv v := sf (foldV v).toNat
  rv l := match numF l 0 0 with
    | .inl e => .inl e
    | .inr (u, r) => .inr (unfV u, r)
  ok v := -9223372036854775808 ≤ v ∧ v ≤ 9223372036854775807
  of v rest h := by
    have hr := foldV_range v h.1 h.2
    rw [numF_sf _ (by omega)]
    dsimp only
    rw [Int.toNat_of_nonneg hr.1, unf_fold v h.1 h.2]
  cut v p q h e hq := by
    have hr := foldV_range v h.1 h.2
    rw [numF_short _ (by omega) e hq]
  back l v rest hb h := by
    rcases hn : numF l 0 0 with e | ⟨u, r⟩
    · rw [hn] at h; cases h
    · rw [hn] at h
      obtain ⟨h0, h1, e⟩ := numF_back hb hn
      injection h with h
      obtain ⟨rfl, rfl⟩ := Prod.mk.inj h
      exact ⟨by rw [fold_unf u h0 h1]; exact e, unf_range u h0 h1⟩
  err l e h := by
    rcases hn : numF l 0 0 with e2 | ⟨u, r⟩
    · rw [hn] at h
      injection h with h
      subst h
      exact numF_err _ _ _ _ hn
    · rw [hn] at h; cases h
/-- Texts, as blocks of 65535 bytes at most. -/
def CT : Cod ByteArray where
  fv s := blkf (bytesOf s)
  rv l := match blockF l 65535 with
    | .inl e => .inl e
    | .inr (p, r) => .inr (strOfNums p, r)
  ok s := s.size ≤ 65535
  of s rest h := by
    rw [blockF_of _ rest 65535 (by rw [bytesOf_length]; omega) (by rw [bytesOf_length]; omega)]
    dsimp only
    rw [strOf_bytes]
  cut s p q h e hq := by
    rw [blockF_cut e hq (by rw [bytesOf_length]; omega) (by rw [bytesOf_length]; omega)]
  back l s rest hb h := by
    rcases hn : blockF l 65535 with e | ⟨p, r⟩
    · rw [hn] at h; cases h
    · rw [hn] at h
      obtain ⟨e, h0, h1⟩ := blockF_back hb hn
      injection h with h
      obtain ⟨rfl, rfl⟩ := Prod.mk.inj h
      have hp : Bytes p := fun y hy => hb y (by rw [e, blkf]; simp [hy])
      exact ⟨by rw [bytesOf_str hp]; exact e, by rw [str_size]; omega⟩
  err l e h := by
    rcases hn : blockF l 65535 with e2 | ⟨u, r⟩
    · rw [hn] at h
      injection h with h
      subst h
      exact blockF_err hn
    · rw [hn] at h; cases h
theorem drop_end {bs a r : List Int} {at_ : Int} (h0 : 0 ≤ at_) (h1 : at_ ≤ bs.length) (e : bs.drop at_.toNat = a ++ r) : 0 ≤ (bs.length : Int) - r.length ∧ (bs.length : Int) - r.length ≤ bs.length ∧ bs.drop ((bs.length : Int) - r.length).toNat = r := by
  have hl := congrArg List.length e
  rw [List.length_drop, List.length_append] at hl
  refine ⟨by omega, by omega, ?_⟩
  rw [show ((bs.length : Int) - r.length).toNat = at_.toNat + a.length by omega, ← List.drop_drop, e, List.drop_left]
/-- What reading bytes for so many values comes to. -/
def rdA {α : Type} [DecidableEq α] (C : Cod α) (n : Int) (b : List Int) : List (α × Nat) × Int :=
  if n < 0 ∨ n > 16777216 then ([], 2) else match numF b 0 0 with
    | .inl e => ([], e)
    | .inr (m, r) => rR C m.toNat n [] r
/-- The bytes of runs. -/
def frm {α : Type} (C : Cod α) (rs : List (α × Nat)) : List Int := sf rs.length ++ frs C rs
theorem after_nil {α : Type} {x : List (α × Nat)} (h : Pr x) : After [] x := ⟨h, fun r t e he => by simp [lastV] at he⟩
section
variable {α : Type} [DecidableEq α] (C : Cod α)
theorem rdA_err {n : Int} {b : List Int} {x : List (α × Nat)} {e : Int} (h : rdA C n b = (x, e)) (he : e ≠ 0) : x = [] := by
  unfold rdA at h
  split at h
  · exact (Prod.mk.inj h).1.symm
  · split at h
    · exact (Prod.mk.inj h).1.symm
    · exact rR_err C _ _ _ _ x e h he
theorem rdA_ok {n : Int} {b : List Int} {x : List (α × Nat)} (hb : Bytes b) (h : rdA C n b = (x, 0)) : 0 ≤ n ∧ n ≤ 16777216 ∧ Pr x ∧ (sm x : Int) = n ∧ b = frm C x ∧ ∀ r ∈ x, C.ok r.1 := by
  unfold rdA at h
  split at h
  · cases h
  · rename_i hn
    rcases hm : numF b 0 0 with e | ⟨m, r⟩
    · rw [hm] at h
      have he := numF_err _ _ _ _ hm
      have : e = 0 := (Prod.mk.inj h).2
      omega
    · rw [hm] at h
      obtain ⟨h0, h1, e⟩ := numF_back hb hm
      obtain ⟨ys, f1, f2, f3, f4, f5, f6⟩ := rR_ok C _ _ _ _ _ (fun y hy => hb y (by rw [e]; simp [hy])) (by omega) h
      obtain rfl : x = ys := by simpa using f1
      exact ⟨by omega, by omega, f5.1, f3, by rw [frm, f2, e, f4], f6⟩
theorem rdA_of {x : List (α × Nat)} (hp : Pr x) (hk : ∀ r ∈ x, C.ok r.1) (hs : sm x ≤ 16777216) (hl : x.length < 18446744073709551616) (n : Int) (rest : List Int) (h0 : 0 ≤ n) (h1 : n ≤ 16777216) :
    rdA C n (frm C x ++ rest) = if n < sm x then ([], 100) else if n > sm x then ([], 100) else if rest = [] then (x, 0) else ([], 72) := by
  have hm : ∀ r ∈ x, C.ok r.1 ∧ r.2 < 18446744073709551616 := fun r hr => ⟨hk r hr, by
    have := mem_le_unf x r hr
    rw [unf_len] at this
    unfold sm at hs
    omega⟩
  unfold rdA frm
  rw [if_neg (by omega), List.append_assoc, numF_sf _ hl]
  dsimp only
  rw [Int.toNat_natCast]
  by_cases hn : n < sm x
  · rw [if_pos hn, rR_much C x n [] rest h0 (after_nil hp) hm hn]
  · rw [if_neg hn, rR_of C x n [] rest (after_nil hp) hm (by omega), rR]
    by_cases hn2 : n > sm x
    · rw [if_pos hn2, if_pos (by omega)]
    · rw [if_neg hn2, if_neg (by omega)]
      rfl
theorem rdA_cut {x : List (α × Nat)} (hp : Pr x) (hk : ∀ r ∈ x, C.ok r.1) (hs : sm x ≤ 16777216) (hl : x.length < 18446744073709551616) (n : Int) (p q : List Int) (h0 : (sm x : Int) ≤ n) (h1 : n ≤ 16777216) (e : frm C x = p ++ q) (hq : q ≠ []) : rdA C n p = ([], 71) := by
  have hm : ∀ r ∈ x, C.ok r.1 ∧ r.2 < 18446744073709551616 := fun r hr => ⟨hk r hr, by
    have := mem_le_unf x r hr
    rw [unf_len] at this
    unfold sm at hs
    omega⟩
  unfold frm at e
  unfold rdA
  rw [if_neg (by omega)]
  rcases app_app e with ⟨y, rfl, e2⟩ | ⟨y, hy, e1, _⟩
  · rw [numF_sf _ hl]
    dsimp only
    rw [Int.toNat_natCast, rR_cut C x n [] y q (after_nil hp) hm h0 e2 hq]
  · rw [numF_short _ hl e1 hy]
end

/-! ### numbers -/
theorem nlast_at (acc : List S38) (h : acc ≠ []) : lastV (acc.map npr) = some (rd_T38 acc ((acc.length : Int) - 1)).f0 := by
  rcases List.eq_nil_or_concat acc with rfl | ⟨b, s, rfl⟩
  · exact absurd rfl h
  · have e : (((b.concat s).length : Int) - 1) = (b.length : Int) := by simp
    rw [e, nrT_at _ _ (by simp)]
    simp [lastV, npr]
theorem nread_l0 (bs : List Int) (hb : Bytes bs) (hlen : bs.length < 211106232532992) (many : Int) (hm : many < 18446744073709551616) : ∀ (c : Nat) (acc : List S38) (left i at_ : Int), many - i = c → 0 ≤ i → (acc.length : Int) = i → 0 ≤ left → acc.length + left ≤ 16777216 → (∀ s ∈ acc, 0 ≤ s.f1) → 0 ≤ at_ → at_ ≤ bs.length →
    ∃ x e, Evn (fun k => runs_read_ints.l0 k acc left many i bs at_ 0) (x, e) ∧ (x.map npr, e) = rR CI c left (acc.map npr) (bs.drop at_.toNat) ∧ ∀ s ∈ x, 0 ≤ s.f1 := by
  intro c
  induction c with
  | zero =>
    intro acc left i at_ hi i0 ha h0 hs hn a0 a1
    have hat : atIn bs at_ := ⟨a0, a1⟩
    by_cases hl : left > 0
    · refine ⟨[], 100, Evn.succ (fun _ => rfl) ?_, by rw [rR, if_pos hl]; rfl, by simp⟩
      simp only [runs_read_ints.l0]
      exact Evn.neg (by omega) (Evn.pos hl (Evn.now _))
    · by_cases he : at_ = (bs.length : Int)
      · refine ⟨acc, 0, Evn.succ (fun _ => rfl) ?_, ?_, hn⟩
        · simp only [runs_read_ints.l0]
          refine Evn.neg (by omega) (Evn.neg hl ?_)
          simp only [cursor_Reader_End.f, cursor_Reader_Fault.f, cursor_Reader_Left.f, if_pos hat, Option.bind_some]
          rw [if_pos trivial, if_pos (by omega)]
          exact Evn.congr (fun _ => rfl) (Evn.now _)
        · rw [rR, if_neg hl, if_pos (List.drop_eq_nil_of_le (by omega))]
      · refine ⟨[], 72, Evn.succ (fun _ => rfl) ?_, ?_, by simp⟩
        · simp only [runs_read_ints.l0]
          refine Evn.neg (by omega) (Evn.neg hl ?_)
          simp only [cursor_Reader_End.f, cursor_Reader_Fault.f, cursor_Reader_Left.f, if_pos hat, Option.bind_some]
          rw [if_pos trivial, if_neg (by omega)]
          exact Evn.congr (fun _ => rfl) (Evn.now _)
        · rw [rR, if_neg hl, if_neg (fun e => by have := congrArg List.length e; rw [List.length_drop] at this; simp only [List.length_nil] at this; omega)]
          rfl
  | succ c ih =>
    intro acc left i at_ hi i0 ha h0 hs hn a0 a1
    have hat : atIn bs at_ := ⟨a0, a1⟩
    rw [rR_succ]
    rcases hv : numF (bs.drop at_.toNat) 0 0 with e | ⟨k, r1⟩
    · have he := numF_err _ _ _ _ hv
      have e1 : uvR bs at_ 0 = (0, at_, e) := by unfold uvR; rw [if_neg (by decide), hv]
      refine ⟨[], e, Evn.succ (fun _ => rfl) ?_, rfl, by simp⟩
      simp only [runs_read_ints.l0]
      refine Evn.pos (by omega) ?_
      simp only [cursor_Reader_Uvarint.f, if_pos hat, e1, Option.bind_some]
      have e2 : viR bs at_ e = (0, at_, e) := by unfold viR; rw [if_pos (by omega)]
      simp only [cursor_Reader_Varint.f, if_pos hat, e2, Option.bind_some]
      simp only [cursor_Reader_Fault.f, if_pos hat, Option.bind_some]
      exact Evn.neg (by omega) (Evn.now _)
    · have e1 : uvR bs at_ 0 = (k, (bs.length : Int) - r1.length, 0) := by unfold uvR; rw [if_neg (by decide), hv]
      obtain ⟨k0, k1, ek⟩ := numF_back (hb.drop _) hv
      obtain ⟨b0, b1, b2⟩ := drop_end a0 a1 ek
      have hat1 : atIn bs ((bs.length : Int) - r1.length) := ⟨b0, b1⟩
      have hb1 : Bytes r1 := by rw [← b2]; exact hb.drop _
      dsimp only
      rcases hw : CI.rv r1 with e | ⟨v, r2⟩
      · have he := CI.err _ _ hw
        refine ⟨[], e, Evn.succ (fun _ => rfl) ?_, rfl, by simp⟩
        simp only [runs_read_ints.l0]
        refine Evn.pos (by omega) ?_
        simp only [cursor_Reader_Uvarint.f, if_pos hat, e1, Option.bind_some]
        have e2 : viR bs ((bs.length : Int) - r1.length) 0 = (0, (bs.length : Int) - r1.length, e) := by
          unfold viR
          rw [if_neg (by decide), b2]
          rcases hq : numF r1 0 0 with e3 | ⟨u, r⟩
          · have : CI.rv r1 = .inl e3 := by simp only [CI, hq]
            rw [this] at hw
            injection hw with hw
            rw [hw]
          · have : CI.rv r1 = .inr (unfV u, r) := by simp only [CI, hq]
            rw [this] at hw
            cases hw
        simp only [cursor_Reader_Varint.f, if_pos hat1, e2, Option.bind_some]
        simp only [cursor_Reader_Fault.f, if_pos hat1, Option.bind_some]
        exact Evn.neg (by omega) (Evn.now _)
      · obtain ⟨ev, hok⟩ := CI.back _ _ _ hb1 hw
        obtain ⟨d0, d1, d2⟩ := drop_end b0 b1 (b2.trans ev)
        have hat2 : atIn bs ((bs.length : Int) - r2.length) := ⟨d0, d1⟩
        have e2 : viR bs ((bs.length : Int) - r1.length) 0 = (v, (bs.length : Int) - r2.length, 0) := by
          unfold viR
          rw [if_neg (by decide), b2]
          rcases hq : numF r1 0 0 with e3 | ⟨u, r⟩
          · have : CI.rv r1 = .inl e3 := by simp only [CI, hq]
            rw [this] at hw
            cases hw
          · have : CI.rv r1 = .inr (unfV u, r) := by simp only [CI, hq]
            rw [this] at hw
            injection hw with hw
            obtain ⟨rfl, rfl⟩ := Prod.mk.inj hw
            rfl
        have hval : cursor_Reader_Varint.f bs ((bs.length : Int) - r1.length) 0 = some (v, (bs.length : Int) - r2.length, 0) := by simp only [cursor_Reader_Varint.f, if_pos hat1, e2]
        have hu : IntKind.u64.wrap left = left := u64_in h0 (by omega)
        dsimp only
        by_cases g1 : k < 1
        · rw [if_pos g1]
          refine ⟨[], 100, Evn.succ (fun _ => rfl) ?_, rfl, by simp⟩
          simp only [runs_read_ints.l0]
          refine Evn.pos (by omega) ?_
          simp only [cursor_Reader_Uvarint.f, if_pos hat, e1, Option.bind_some, hval]
          simp only [cursor_Reader_Fault.f, if_pos hat2, Option.bind_some]
          exact Evn.pos trivial (Evn.pos g1 (Evn.now _))
        rw [if_neg g1]
        by_cases g2 : k > left
        · rw [if_pos g2]
          refine ⟨[], 100, Evn.succ (fun _ => rfl) ?_, rfl, by simp⟩
          simp only [runs_read_ints.l0]
          refine Evn.pos (by omega) ?_
          simp only [cursor_Reader_Uvarint.f, if_pos hat, e1, Option.bind_some, hval]
          simp only [cursor_Reader_Fault.f, if_pos hat2, Option.bind_some]
          exact Evn.pos trivial (Evn.neg g1 (Evn.pos (by rw [hu]; exact g2) (Evn.now _)))
        rw [if_neg g2]
        have wk : wrap64 k = k := wrap64_in (by omega) (by omega)
        have wl : wrap64 (left - k) = left - k := wrap64_in (by omega) (by omega)
        have wi : IntKind.u64.wrap (i + 1) = i + 1 := u64_in (by omega) (by omega)
        have hpr : npr (⟨v, k⟩ : S38) = (v, k.toNat) := rfl
        have hgo : ∀ (_ : ¬ lastV (acc.map npr) = some v), ∃ x e, Evn (fun q => runs_read_ints.l0 q (acc ++ [(⟨v, k⟩ : S38)]) (left - k) many (i + 1) bs ((bs.length : Int) - r2.length) 0) (x, e) ∧ (x.map npr, e) = rR CI c (left - k) (acc.map npr ++ [(v, k.toNat)]) r2 ∧ ∀ s ∈ x, 0 ≤ s.f1 := by
          intro _
          have := ih (acc ++ [(⟨v, k⟩ : S38)]) (left - k) (i + 1) ((bs.length : Int) - r2.length) (by omega) (by omega) (by simp; omega) (by omega) (by simp; omega) (fun s hs => by
            rcases List.mem_append.1 hs with hs | hs
            · exact hn s hs
            · obtain rfl : s = ⟨v, k⟩ := by simpa using hs
              show 0 ≤ k; omega) d0 d1
          rw [d2, List.map_append, List.map_cons, List.map_nil, hpr] at this
          exact this
        by_cases hz : acc = []
        · have hi0 : i = 0 := by rw [hz] at ha; simpa using ha.symm
          have hnl : ¬ lastV (acc.map npr) = some v := by rw [hz]; simp [lastV]
          rw [if_neg hnl]
          obtain ⟨x, e, hx, hr, hpos⟩ := hgo hnl
          refine ⟨x, e, Evn.succ (fun _ => rfl) ?_, hr, hpos⟩
          simp only [runs_read_ints.l0]
          refine Evn.pos (by omega) ?_
          simp only [cursor_Reader_Uvarint.f, if_pos hat, e1, Option.bind_some, hval]
          simp only [cursor_Reader_Fault.f, if_pos hat2, Option.bind_some]
          refine Evn.pos trivial (Evn.neg g1 (Evn.neg (by rw [hu]; exact g2) (Evn.neg (by omega) (Evn.pos (by omega) ?_))))
          rw [wk, wl, wi]
          exact hx
        · have hl := nlast_at acc hz
          have hip : 0 < i := by have := List.length_pos_iff.2 hz; omega
          have wi2 : IntKind.u64.wrap (i - 1) = (acc.length : Int) - 1 := by rw [u64_in (by omega) (by omega)]; omega
          by_cases g3 : (rd_T38 acc ((acc.length : Int) - 1)).f0 = v
          · rw [if_pos (by rw [hl, g3])]
            refine ⟨[], 100, Evn.succ (fun _ => rfl) ?_, rfl, by simp⟩
            simp only [runs_read_ints.l0]
            refine Evn.pos (by omega) ?_
            simp only [cursor_Reader_Uvarint.f, if_pos hat, e1, Option.bind_some, hval]
            simp only [cursor_Reader_Fault.f, if_pos hat2, Option.bind_some]
            refine Evn.pos trivial (Evn.neg g1 (Evn.neg (by rw [hu]; exact g2) (Evn.pos (by omega) (Evn.pos (by omega) (Evn.pos (by omega) (Evn.pos ?_ (Evn.now _)))))))
            rw [wi2]
            exact id g3
          · have hnl : ¬ lastV (acc.map npr) = some v := by rw [hl]; exact fun e => g3 (Option.some.inj e)
            rw [if_neg hnl]
            obtain ⟨x, e, hx, hr, hpos⟩ := hgo hnl
            refine ⟨x, e, Evn.succ (fun _ => rfl) ?_, hr, hpos⟩
            simp only [runs_read_ints.l0]
            refine Evn.pos (by omega) ?_
            simp only [cursor_Reader_Uvarint.f, if_pos hat, e1, Option.bind_some, hval]
            simp only [cursor_Reader_Fault.f, if_pos hat2, Option.bind_some]
            refine Evn.pos trivial (Evn.neg g1 (Evn.neg (by rw [hu]; exact g2) (Evn.pos (by omega) (Evn.pos (by omega) (Evn.pos (by omega) (Evn.neg ?_ (Evn.pos (by omega) ?_)))))))
            · rw [wi2]
              exact fun e => g3 (id e)
            · rw [wk, wl, wi]
              exact hx
theorem nread_e (bs : List Int) (hb : Bytes bs) (hlen : bs.length < 211106232532992) (n : Int) (hn0 : -9223372036854775808 ≤ n) (hn1 : n ≤ 9223372036854775807) :
    ∃ x e, Evn (fun k => runs_Ints.f k bs n) (x, e) ∧ (x.map npr, e) = rdA CI n bs ∧ ∀ s ∈ x, 0 ≤ s.f1 := by
  have key : ∃ x e, Evn (fun k => runs_read_ints.f k bs n) (x, e) ∧ (x.map npr, e) = rdA CI n bs ∧ ∀ s ∈ x, 0 ≤ s.f1 := by
    unfold runs_read_ints.f rdA
    by_cases h1 : n < 0
    · refine ⟨[], 2, Evn.pos h1 (Evn.succ (fun _ => rfl) ?_), by rw [if_pos (.inl h1)]; rfl, by simp⟩
      simp only [runs_read_ints.j0]
      exact Evn.pos trivial (Evn.now _)
    · by_cases h2 : n > 16777216
      · refine ⟨[], 2, Evn.neg h1 (Evn.succ (fun _ => rfl) ?_), by rw [if_pos (.inr h2)]; rfl, by simp⟩
        simp only [runs_read_ints.j0]
        exact Evn.pos (decide_eq_true h2) (Evn.now _)
      · have hat : atIn bs 0 := ⟨by omega, by omega⟩
        rw [if_neg (by omega)]
        rcases hv : numF bs 0 0 with e | ⟨m, r⟩
        · have he := numF_err _ _ _ _ hv
          have e1 : uvR bs 0 0 = (0, 0, e) := by unfold uvR; rw [if_neg (by decide), show (0 : Int).toNat = 0 from rfl, List.drop_zero, hv]
          refine ⟨[], e, Evn.neg h1 (Evn.succ (fun _ => rfl) ?_), rfl, by simp⟩
          simp only [runs_read_ints.j0]
          refine Evn.neg (by simpa using h2) ?_
          simp only [cursor_Open.f, if_pos hlen, cursor_Reader_Uvarint.f, if_pos hat, e1, Option.bind_some]
          simp only [cursor_Reader_Fault.f, if_pos hat, Option.bind_some]
          exact Evn.neg (by omega) (Evn.now _)
        · have e1 : uvR bs 0 0 = (m, (bs.length : Int) - r.length, 0) := by unfold uvR; rw [if_neg (by decide), show (0 : Int).toNat = 0 from rfl, List.drop_zero, hv]
          obtain ⟨m0, m1, em⟩ := numF_back hb hv
          obtain ⟨b0, b1, b2⟩ := drop_end (bs := bs) (at_ := 0) (by omega) (by omega) (show bs.drop (0 : Int).toNat = sf m.toNat ++ r from em)
          have hat1 : atIn bs ((bs.length : Int) - r.length) := ⟨b0, b1⟩
          obtain ⟨x, e, hx, hr, hp⟩ := nread_l0 bs hb hlen m m1 m.toNat [] n 0 ((bs.length : Int) - r.length) (by omega) (by omega) (by simp) (by omega) (by simp; omega) (by simp) b0 b1
          rw [b2] at hr
          refine ⟨x, e, Evn.neg h1 (Evn.succ (fun _ => rfl) ?_), hr, hp⟩
          simp only [runs_read_ints.j0]
          refine Evn.neg (by simpa using h2) ?_
          simp only [cursor_Open.f, if_pos hlen, cursor_Reader_Uvarint.f, if_pos hat, e1, Option.bind_some]
          simp only [cursor_Reader_Fault.f, if_pos hat1, Option.bind_some]
          exact Evn.pos trivial hx
  obtain ⟨x, e, h, h2⟩ := key
  exact ⟨x, e, Evn.bind h (Evn.now _), h2⟩
theorem nput_l0 (r : List S38) (hl : r.length ≤ 16777216) (hn : ∀ s ∈ r, 1 ≤ s.f1 ∧ s.f1 ≤ 16777216) (hk : ∀ s ∈ r, CI.ok s.f0) (d : Nat) : ∀ (i : Nat) (x : List Int), i + d = r.length → x.length + 65600 * d ≤ 10000000000000 → Evn (fun k => runs_put_ints.l0 k x r (r.length : Int) (i : Int)) (x ++ frs CI ((r.drop i).map npr)) := by
  induction d with
  | zero =>
    intro i x hi hx
    rw [List.drop_eq_nil_of_le (by omega)]
    refine Evn.succ (fun _ => rfl) ?_
    simp only [runs_put_ints.l0]
    refine Evn.neg (by omega) ?_
    simp only [frs, List.map_nil, List.flatMap_nil, List.append_nil]
    exact Evn.now _
  | succ d ih =>
    intro i x hi hx
    have hi' : i < r.length := by omega
    have h1 := hn _ (List.getElem_mem hi')
    have h2 := hk _ (List.getElem_mem hi')
    have hs := sf_len10 (n := (r[i]).f1.toNat) (by omega)
    rw [List.drop_eq_getElem_cons hi', List.map_cons, frs_cons]
    refine Evn.succ (fun _ => rfl) ?_
    simp only [runs_put_ints.l0]
    refine Evn.pos (by omega) (Evn.pos (by omega) (Evn.pos (by omega) ?_))
    rw [nrT_at r i hi', u64_in (n := (r[i]).f1) (by omega) (by omega)]
    have hu := putuv_e (r[i]).f1.toNat (by omega) [] (by simp)
    rw [Int.toNat_of_nonneg (show 0 ≤ (r[i]).f1 by omega), List.nil_append] at hu
    refine Evn.bind hu ?_
    have hpv := putvi_e (r[i]).f0 h2.1 h2.2 (sf (r[i]).f1.toNat) (by omega)
    have hfl : (CI.fv (r[i]).f0).length ≤ 10 := by
      have := foldV_range (r[i]).f0 h2.1 h2.2
      exact sf_len10 (by omega)
    have hpv : Evn (fun k => cursor_PutVarint.f k (sf (r[i]).f1.toNat) (r[i]).f0) (sf (r[i]).f1.toNat ++ CI.fv (r[i]).f0) := hpv
    refine Evn.bind hpv (Evn.pos (by rw [List.length_append]; omega) ?_)
    rw [wrap64_in (n := (i : Int) + 1) (by omega) (by omega), show (i : Int) + 1 = ((i + 1 : Nat) : Int) by omega]
    have := ih (i + 1) (x ++ (sf (r[i]).f1.toNat ++ CI.fv (r[i]).f0)) (by omega) (by simp only [List.length_append]; omega)
    rw [List.append_assoc, List.append_assoc] at this
    exact this
theorem nput_e {l : List Int} {r : List S38} (hl : l.length ≤ 16777216) (hr : nFo l r) (hk : ∀ s ∈ r, CI.ok s.f0) (he : Evn (fun k => runs_Fold_int64.f k l) r) : Evn (fun k => runs_PutInts.f k l) (frm CI (r.map npr)) := by
  have h0 := hr.len
  have hs := sf_len10 (n := r.length) (by omega)
  unfold runs_PutInts.f runs_put_ints.f
  refine Evn.bind (Evn.bind he ?_) (Evn.now _)
  rw [u64n _ (by omega)]
  have hu := putuv_e r.length (by omega) [] (by simp)
  rw [List.nil_append] at hu
  refine Evn.bind hu ?_
  have := nput_l0 r (by omega) (fun s hs => ⟨hr.n s hs, by have := hr.max s hs; omega⟩) hk r.length 0 (sf r.length) (by omega) (by omega)
  rw [List.drop_zero] at this
  rw [frm, List.length_map]
  exact this
theorem nfrm_len {l : List Int} {r : List S38} (hl : l.length ≤ 16777216) (hr : nFo l r) (hk : ∀ s ∈ r, CI.ok s.f0) : 1 ≤ (frm CI (r.map npr)).length ∧ (frm CI (r.map npr)).length ≤ 2000000000000 := by
  have h0 := hr.len
  have hs := sf_len10 (n := r.length) (by omega)
  have hs2 := sf_pos r.length
  have : ∀ q : List S38, (∀ s ∈ q, CI.ok s.f0 ∧ 1 ≤ s.f1 ∧ s.f1 ≤ 16777216) → (frs CI (q.map npr)).length ≤ 65600 * q.length := by
    intro q
    induction q with
    | nil => simp [frs]
    | cons s q ih =>
      intro h
      have h1 := ih (fun y hy => h y (by simp [hy]))
      obtain ⟨h2, h3, h4⟩ := h s (by simp)
      have hs := sf_len10 (n := s.f1.toNat) (by omega)
      have hfl : (CI.fv s.f0).length ≤ 10 := by
        have := foldV_range s.f0 h2.1 h2.2
        exact sf_len10 (by omega)
      rw [List.map_cons, frs_cons, List.length_append, List.length_append, List.length_cons]
      have e2 : (npr s).2 = s.f1.toNat := rfl
      have e1 : (npr s).1 = s.f0 := rfl
      rw [e2, e1]
      omega
  have h2 := this r (fun s hs => ⟨hk s hs, hr.n s hs, by have := hr.max s hs; omega⟩)
  rw [frm, List.length_append, List.length_map]
  omega
theorem nbytes_frm (r : List S38) : Bytes (frm CI (r.map npr)) := by
  have : ∀ q : List S38, Bytes (frs CI (q.map npr)) := by
    intro q
    induction q with
    | nil => exact Bytes.nil
    | cons s q ih =>
      rw [List.map_cons, frs_cons]
      exact (show Bytes (sf _) from sf_range _).append ((show Bytes (sf _) from sf_range _).append ih)
  rw [frm]
  exact (show Bytes (sf _) from sf_range _).append (this r)
/-- What is read are runs; their values, folded, are they. -/
theorem nFo_of {x : List S38} {p : List (Int × Nat)} (e : x.map npr = p) (hp : Pr p) (hn : ∀ s ∈ x, 0 ≤ s.f1) : nFo (unf p) x := by
  subst e
  exact ⟨hp, rfl, fun s hs => by have := hp.pos (npr s) (List.mem_map_of_mem hs); have := hn s hs; unfold npr at *; simp only at *; omega⟩

/-! ### texts -/
theorem tlast_at (acc : List S42) (h : acc ≠ []) : lastV (acc.map tpr) = some (rd_T42 acc ((acc.length : Int) - 1)).f0 := by
  rcases List.eq_nil_or_concat acc with rfl | ⟨b, s, rfl⟩
  · exact absurd rfl h
  · have e : (((b.concat s).length : Int) - 1) = (b.length : Int) := by simp
    rw [e, trT_at _ _ (by simp)]
    simp [lastV, tpr]
theorem tread_l0 (bs : List Int) (hb : Bytes bs) (hlen : bs.length < 211106232532992) (many : Int) (hm : many < 18446744073709551616) : ∀ (c : Nat) (acc : List S42) (left i at_ : Int), many - i = c → 0 ≤ i → (acc.length : Int) = i → 0 ≤ left → acc.length + left ≤ 16777216 → (∀ s ∈ acc, 0 ≤ s.f1) → 0 ≤ at_ → at_ ≤ bs.length →
    ∃ x e, Evn (fun k => runs_read_texts.l0 k acc left many i bs at_ 0) (x, e) ∧ (x.map tpr, e) = rR CT c left (acc.map tpr) (bs.drop at_.toNat) ∧ ∀ s ∈ x, 0 ≤ s.f1 := by
  intro c
  induction c with
  | zero =>
    intro acc left i at_ hi i0 ha h0 hs hn a0 a1
    have hat : atIn bs at_ := ⟨a0, a1⟩
    by_cases hl : left > 0
    · refine ⟨[], 100, Evn.succ (fun _ => rfl) ?_, by rw [rR, if_pos hl]; rfl, by simp⟩
      simp only [runs_read_texts.l0]
      exact Evn.neg (by omega) (Evn.pos hl (Evn.now _))
    · by_cases he : at_ = (bs.length : Int)
      · refine ⟨acc, 0, Evn.succ (fun _ => rfl) ?_, ?_, hn⟩
        · simp only [runs_read_texts.l0]
          refine Evn.neg (by omega) (Evn.neg hl ?_)
          simp only [cursor_Reader_End.f, cursor_Reader_Fault.f, cursor_Reader_Left.f, if_pos hat, Option.bind_some]
          rw [if_pos trivial, if_pos (by omega)]
          exact Evn.congr (fun _ => rfl) (Evn.now _)
        · rw [rR, if_neg hl, if_pos (List.drop_eq_nil_of_le (by omega))]
      · refine ⟨[], 72, Evn.succ (fun _ => rfl) ?_, ?_, by simp⟩
        · simp only [runs_read_texts.l0]
          refine Evn.neg (by omega) (Evn.neg hl ?_)
          simp only [cursor_Reader_End.f, cursor_Reader_Fault.f, cursor_Reader_Left.f, if_pos hat, Option.bind_some]
          rw [if_pos trivial, if_neg (by omega)]
          exact Evn.congr (fun _ => rfl) (Evn.now _)
        · rw [rR, if_neg hl, if_neg (fun e => by have := congrArg List.length e; rw [List.length_drop] at this; simp only [List.length_nil] at this; omega)]
          rfl
  | succ c ih =>
    intro acc left i at_ hi i0 ha h0 hs hn a0 a1
    have hat : atIn bs at_ := ⟨a0, a1⟩
    rw [rR_succ]
    rcases hv : numF (bs.drop at_.toNat) 0 0 with e | ⟨k, r1⟩
    · have he := numF_err _ _ _ _ hv
      have e1 : uvR bs at_ 0 = (0, at_, e) := by unfold uvR; rw [if_neg (by decide), hv]
      refine ⟨[], e, Evn.succ (fun _ => rfl) ?_, rfl, by simp⟩
      simp only [runs_read_texts.l0]
      refine Evn.pos (by omega) ?_
      simp only [cursor_Reader_Uvarint.f, if_pos hat, e1, Option.bind_some]
      have e2 : blkR bs at_ e 65535 = ([], at_, e) := by unfold blkR; rw [if_pos (by omega)]
      simp only [runs_Texts_1.f, cursor_Reader_Block.f, if_pos (show atIn bs at_ ∧ (-9223372036854775808 ≤ (65535 : Int) ∧ (65535 : Int) ≤ 9223372036854775807) ∧ bs.length < 211106232532992 from ⟨hat, by omega, hlen⟩), e2, Option.bind_some]
      simp only [cursor_Reader_Fault.f, if_pos hat, Option.bind_some]
      exact Evn.neg (by omega) (Evn.now _)
    · have e1 : uvR bs at_ 0 = (k, (bs.length : Int) - r1.length, 0) := by unfold uvR; rw [if_neg (by decide), hv]
      obtain ⟨k0, k1, ek⟩ := numF_back (hb.drop _) hv
      obtain ⟨b0, b1, b2⟩ := drop_end a0 a1 ek
      have hat1 : atIn bs ((bs.length : Int) - r1.length) := ⟨b0, b1⟩
      have hb1 : Bytes r1 := by rw [← b2]; exact hb.drop _
      dsimp only
      rcases hw : CT.rv r1 with e | ⟨v, r2⟩
      · have he := CT.err _ _ hw
        refine ⟨[], e, Evn.succ (fun _ => rfl) ?_, rfl, by simp⟩
        simp only [runs_read_texts.l0]
        refine Evn.pos (by omega) ?_
        simp only [cursor_Reader_Uvarint.f, if_pos hat, e1, Option.bind_some]
        have e2 : blkR bs ((bs.length : Int) - r1.length) 0 65535 = ([], (bs.length : Int) - r1.length, e) := by
          unfold blkR
          rw [if_neg (by decide), if_neg (by decide), b2]
          rcases hq : blockF r1 65535 with e3 | ⟨u, r⟩
          · have : CT.rv r1 = .inl e3 := by simp only [CT, hq]
            rw [this] at hw
            injection hw with hw
            rw [hw]
          · have : CT.rv r1 = .inr (strOfNums u, r) := by simp only [CT, hq]
            rw [this] at hw
            cases hw
        simp only [runs_Texts_1.f, cursor_Reader_Block.f, if_pos (show atIn bs ((bs.length : Int) - r1.length) ∧ (-9223372036854775808 ≤ (65535 : Int) ∧ (65535 : Int) ≤ 9223372036854775807) ∧ bs.length < 211106232532992 from ⟨hat1, by omega, hlen⟩), e2, Option.bind_some]
        simp only [cursor_Reader_Fault.f, if_pos hat1, Option.bind_some]
        exact Evn.neg (by omega) (Evn.now _)
      · obtain ⟨ev, hok⟩ := CT.back _ _ _ hb1 hw
        obtain ⟨d0, d1, d2⟩ := drop_end b0 b1 (b2.trans ev)
        have hat2 : atIn bs ((bs.length : Int) - r2.length) := ⟨d0, d1⟩
        have hval : runs_Texts_1.f bs ((bs.length : Int) - r1.length) 0 = some (v, (bs.length : Int) - r2.length, 0) := by
          rcases hq : blockF r1 65535 with e3 | ⟨u, r⟩
          · have : CT.rv r1 = .inl e3 := by simp only [CT, hq]
            rw [this] at hw
            cases hw
          · have : CT.rv r1 = .inr (strOfNums u, r) := by simp only [CT, hq]
            rw [this] at hw
            injection hw with hw
            obtain ⟨rfl, rfl⟩ := Prod.mk.inj hw
            have e2 : blkR bs ((bs.length : Int) - r1.length) 0 65535 = (u, (bs.length : Int) - r.length, 0) := by
              unfold blkR
              rw [if_neg (by decide), if_neg (by decide), b2, hq]
            simp only [runs_Texts_1.f, cursor_Reader_Block.f, if_pos (show atIn bs ((bs.length : Int) - r1.length) ∧ (-9223372036854775808 ≤ (65535 : Int) ∧ (65535 : Int) ≤ 9223372036854775807) ∧ bs.length < 211106232532992 from ⟨hat1, by omega, hlen⟩), e2, Option.bind_some]
        have hu : IntKind.u64.wrap left = left := u64_in h0 (by omega)
        dsimp only
        by_cases g1 : k < 1
        · rw [if_pos g1]
          refine ⟨[], 100, Evn.succ (fun _ => rfl) ?_, rfl, by simp⟩
          simp only [runs_read_texts.l0]
          refine Evn.pos (by omega) ?_
          simp only [cursor_Reader_Uvarint.f, if_pos hat, e1, Option.bind_some, hval]
          simp only [cursor_Reader_Fault.f, if_pos hat2, Option.bind_some]
          exact Evn.pos trivial (Evn.pos g1 (Evn.now _))
        rw [if_neg g1]
        by_cases g2 : k > left
        · rw [if_pos g2]
          refine ⟨[], 100, Evn.succ (fun _ => rfl) ?_, rfl, by simp⟩
          simp only [runs_read_texts.l0]
          refine Evn.pos (by omega) ?_
          simp only [cursor_Reader_Uvarint.f, if_pos hat, e1, Option.bind_some, hval]
          simp only [cursor_Reader_Fault.f, if_pos hat2, Option.bind_some]
          exact Evn.pos trivial (Evn.neg g1 (Evn.pos (by rw [hu]; exact g2) (Evn.now _)))
        rw [if_neg g2]
        have wk : wrap64 k = k := wrap64_in (by omega) (by omega)
        have wl : wrap64 (left - k) = left - k := wrap64_in (by omega) (by omega)
        have wi : IntKind.u64.wrap (i + 1) = i + 1 := u64_in (by omega) (by omega)
        have hpr : tpr (⟨v, k⟩ : S42) = (v, k.toNat) := rfl
        have hgo : ∀ (_ : ¬ lastV (acc.map tpr) = some v), ∃ x e, Evn (fun q => runs_read_texts.l0 q (acc ++ [(⟨v, k⟩ : S42)]) (left - k) many (i + 1) bs ((bs.length : Int) - r2.length) 0) (x, e) ∧ (x.map tpr, e) = rR CT c (left - k) (acc.map tpr ++ [(v, k.toNat)]) r2 ∧ ∀ s ∈ x, 0 ≤ s.f1 := by
          intro _
          have := ih (acc ++ [(⟨v, k⟩ : S42)]) (left - k) (i + 1) ((bs.length : Int) - r2.length) (by omega) (by omega) (by simp; omega) (by omega) (by simp; omega) (fun s hs => by
            rcases List.mem_append.1 hs with hs | hs
            · exact hn s hs
            · obtain rfl : s = ⟨v, k⟩ := by simpa using hs
              show 0 ≤ k; omega) d0 d1
          rw [d2, List.map_append, List.map_cons, List.map_nil, hpr] at this
          exact this
        by_cases hz : acc = []
        · have hi0 : i = 0 := by rw [hz] at ha; simpa using ha.symm
          have hnl : ¬ lastV (acc.map tpr) = some v := by rw [hz]; simp [lastV]
          rw [if_neg hnl]
          obtain ⟨x, e, hx, hr, hpos⟩ := hgo hnl
          refine ⟨x, e, Evn.succ (fun _ => rfl) ?_, hr, hpos⟩
          simp only [runs_read_texts.l0]
          refine Evn.pos (by omega) ?_
          simp only [cursor_Reader_Uvarint.f, if_pos hat, e1, Option.bind_some, hval]
          simp only [cursor_Reader_Fault.f, if_pos hat2, Option.bind_some]
          refine Evn.pos trivial (Evn.neg g1 (Evn.neg (by rw [hu]; exact g2) (Evn.neg (by omega) (Evn.pos (by omega) ?_))))
          rw [wk, wl, wi]
          exact hx
        · have hl := tlast_at acc hz
          have hip : 0 < i := by have := List.length_pos_iff.2 hz; omega
          have wi2 : IntKind.u64.wrap (i - 1) = (acc.length : Int) - 1 := by rw [u64_in (by omega) (by omega)]; omega
          by_cases g3 : (rd_T42 acc ((acc.length : Int) - 1)).f0 = v
          · rw [if_pos (by rw [hl, g3])]
            refine ⟨[], 100, Evn.succ (fun _ => rfl) ?_, rfl, by simp⟩
            simp only [runs_read_texts.l0]
            refine Evn.pos (by omega) ?_
            simp only [cursor_Reader_Uvarint.f, if_pos hat, e1, Option.bind_some, hval]
            simp only [cursor_Reader_Fault.f, if_pos hat2, Option.bind_some]
            refine Evn.pos trivial (Evn.neg g1 (Evn.neg (by rw [hu]; exact g2) (Evn.pos (by omega) (Evn.pos (by omega) (Evn.pos (by omega) (Evn.pos ?_ (Evn.now _)))))))
            rw [wi2]
            exact congrArg ByteArray.toList g3
          · have hnl : ¬ lastV (acc.map tpr) = some v := by rw [hl]; exact fun e => g3 (Option.some.inj e)
            rw [if_neg hnl]
            obtain ⟨x, e, hx, hr, hpos⟩ := hgo hnl
            refine ⟨x, e, Evn.succ (fun _ => rfl) ?_, hr, hpos⟩
            simp only [runs_read_texts.l0]
            refine Evn.pos (by omega) ?_
            simp only [cursor_Reader_Uvarint.f, if_pos hat, e1, Option.bind_some, hval]
            simp only [cursor_Reader_Fault.f, if_pos hat2, Option.bind_some]
            refine Evn.pos trivial (Evn.neg g1 (Evn.neg (by rw [hu]; exact g2) (Evn.pos (by omega) (Evn.pos (by omega) (Evn.pos (by omega) (Evn.neg ?_ (Evn.pos (by omega) ?_)))))))
            · rw [wi2]
              exact fun e => g3 (tl_inj e)
            · rw [wk, wl, wi]
              exact hx
theorem tread_e (bs : List Int) (hb : Bytes bs) (hlen : bs.length < 211106232532992) (n : Int) (hn0 : -9223372036854775808 ≤ n) (hn1 : n ≤ 9223372036854775807) :
    ∃ x e, Evn (fun k => runs_Texts.f k bs n) (x, e) ∧ (x.map tpr, e) = rdA CT n bs ∧ ∀ s ∈ x, 0 ≤ s.f1 := by
  have key : ∃ x e, Evn (fun k => runs_read_texts.f k bs n) (x, e) ∧ (x.map tpr, e) = rdA CT n bs ∧ ∀ s ∈ x, 0 ≤ s.f1 := by
    unfold runs_read_texts.f rdA
    by_cases h1 : n < 0
    · refine ⟨[], 2, Evn.pos h1 (Evn.succ (fun _ => rfl) ?_), by rw [if_pos (.inl h1)]; rfl, by simp⟩
      simp only [runs_read_texts.j0]
      exact Evn.pos trivial (Evn.now _)
    · by_cases h2 : n > 16777216
      · refine ⟨[], 2, Evn.neg h1 (Evn.succ (fun _ => rfl) ?_), by rw [if_pos (.inr h2)]; rfl, by simp⟩
        simp only [runs_read_texts.j0]
        exact Evn.pos (decide_eq_true h2) (Evn.now _)
      · have hat : atIn bs 0 := ⟨by omega, by omega⟩
        rw [if_neg (by omega)]
        rcases hv : numF bs 0 0 with e | ⟨m, r⟩
        · have he := numF_err _ _ _ _ hv
          have e1 : uvR bs 0 0 = (0, 0, e) := by unfold uvR; rw [if_neg (by decide), show (0 : Int).toNat = 0 from rfl, List.drop_zero, hv]
          refine ⟨[], e, Evn.neg h1 (Evn.succ (fun _ => rfl) ?_), rfl, by simp⟩
          simp only [runs_read_texts.j0]
          refine Evn.neg (by simpa using h2) ?_
          simp only [cursor_Open.f, if_pos hlen, cursor_Reader_Uvarint.f, if_pos hat, e1, Option.bind_some]
          simp only [cursor_Reader_Fault.f, if_pos hat, Option.bind_some]
          exact Evn.neg (by omega) (Evn.now _)
        · have e1 : uvR bs 0 0 = (m, (bs.length : Int) - r.length, 0) := by unfold uvR; rw [if_neg (by decide), show (0 : Int).toNat = 0 from rfl, List.drop_zero, hv]
          obtain ⟨m0, m1, em⟩ := numF_back hb hv
          obtain ⟨b0, b1, b2⟩ := drop_end (bs := bs) (at_ := 0) (by omega) (by omega) (show bs.drop (0 : Int).toNat = sf m.toNat ++ r from em)
          have hat1 : atIn bs ((bs.length : Int) - r.length) := ⟨b0, b1⟩
          obtain ⟨x, e, hx, hr, hp⟩ := tread_l0 bs hb hlen m m1 m.toNat [] n 0 ((bs.length : Int) - r.length) (by omega) (by omega) (by simp) (by omega) (by simp; omega) (by simp) b0 b1
          rw [b2] at hr
          refine ⟨x, e, Evn.neg h1 (Evn.succ (fun _ => rfl) ?_), hr, hp⟩
          simp only [runs_read_texts.j0]
          refine Evn.neg (by simpa using h2) ?_
          simp only [cursor_Open.f, if_pos hlen, cursor_Reader_Uvarint.f, if_pos hat, e1, Option.bind_some]
          simp only [cursor_Reader_Fault.f, if_pos hat1, Option.bind_some]
          exact Evn.pos trivial hx
  obtain ⟨x, e, h, h2⟩ := key
  exact ⟨x, e, Evn.bind h (Evn.now _), h2⟩
theorem tput_l0 (r : List S42) (hl : r.length ≤ 16777216) (hn : ∀ s ∈ r, 1 ≤ s.f1 ∧ s.f1 ≤ 16777216) (hk : ∀ s ∈ r, CT.ok s.f0) (d : Nat) : ∀ (i : Nat) (x : List Int), i + d = r.length → x.length + 65600 * d ≤ 10000000000000 → Evn (fun k => runs_put_texts.l0 k x r (r.length : Int) (i : Int)) (x ++ frs CT ((r.drop i).map tpr)) := by
  induction d with
  | zero =>
    intro i x hi hx
    rw [List.drop_eq_nil_of_le (by omega)]
    refine Evn.succ (fun _ => rfl) ?_
    simp only [runs_put_texts.l0]
    refine Evn.neg (by omega) ?_
    simp only [frs, List.map_nil, List.flatMap_nil, List.append_nil]
    exact Evn.now _
  | succ d ih =>
    intro i x hi hx
    have hi' : i < r.length := by omega
    have h1 := hn _ (List.getElem_mem hi')
    have h2 := hk _ (List.getElem_mem hi')
    have hs := sf_len10 (n := (r[i]).f1.toNat) (by omega)
    rw [List.drop_eq_getElem_cons hi', List.map_cons, frs_cons]
    refine Evn.succ (fun _ => rfl) ?_
    simp only [runs_put_texts.l0]
    refine Evn.pos (by omega) (Evn.pos (by omega) (Evn.pos (by omega) ?_))
    rw [trT_at r i hi', u64_in (n := (r[i]).f1) (by omega) (by omega)]
    have hu := putuv_e (r[i]).f1.toNat (by omega) [] (by simp)
    rw [Int.toNat_of_nonneg (show 0 ≤ (r[i]).f1 by omega), List.nil_append] at hu
    refine Evn.bind hu ?_
    have h2' : (r[i]).f0.size ≤ 65535 := h2
    have hfl : (CT.fv (r[i]).f0).length ≤ 65545 := by
      have := sf_len10 (n := (bytesOf (r[i]).f0).length) (by rw [bytesOf_length]; omega)
      show (blkf (bytesOf (r[i]).f0)).length ≤ 65545
      rw [blkf, List.length_append, bytesOf_length] at *
      omega
    have hpv : Evn (fun k => runs_PutTexts_1.f k (sf (r[i]).f1.toNat) (r[i]).f0) (sf (r[i]).f1.toNat ++ CT.fv (r[i]).f0) := by
      unfold runs_PutTexts_1.f
      exact Evn.pos (by omega) (putblk_e _ _ (by rw [bytesOf_length]; omega))
    refine Evn.bind hpv (Evn.pos (by rw [List.length_append]; omega) ?_)
    rw [wrap64_in (n := (i : Int) + 1) (by omega) (by omega), show (i : Int) + 1 = ((i + 1 : Nat) : Int) by omega]
    have := ih (i + 1) (x ++ (sf (r[i]).f1.toNat ++ CT.fv (r[i]).f0)) (by omega) (by simp only [List.length_append]; omega)
    rw [List.append_assoc, List.append_assoc] at this
    exact this
theorem tput_e {l : List ByteArray} {r : List S42} (hl : l.length ≤ 16777216) (hr : tFo l r) (hk : ∀ s ∈ r, CT.ok s.f0) (he : Evn (fun k => runs_Fold_string.f k l) r) : Evn (fun k => runs_PutTexts.f k l) (frm CT (r.map tpr)) := by
  have h0 := hr.len
  have hs := sf_len10 (n := r.length) (by omega)
  unfold runs_PutTexts.f runs_put_texts.f
  refine Evn.bind (Evn.bind he ?_) (Evn.now _)
  rw [u64n _ (by omega)]
  have hu := putuv_e r.length (by omega) [] (by simp)
  rw [List.nil_append] at hu
  refine Evn.bind hu ?_
  have := tput_l0 r (by omega) (fun s hs => ⟨hr.n s hs, by have := hr.max s hs; omega⟩) hk r.length 0 (sf r.length) (by omega) (by omega)
  rw [List.drop_zero] at this
  rw [frm, List.length_map]
  exact this
theorem tfrm_len {l : List ByteArray} {r : List S42} (hl : l.length ≤ 16777216) (hr : tFo l r) (hk : ∀ s ∈ r, CT.ok s.f0) : 1 ≤ (frm CT (r.map tpr)).length ∧ (frm CT (r.map tpr)).length ≤ 2000000000000 := by
  have h0 := hr.len
  have hs := sf_len10 (n := r.length) (by omega)
  have hs2 := sf_pos r.length
  have : ∀ q : List S42, (∀ s ∈ q, CT.ok s.f0 ∧ 1 ≤ s.f1 ∧ s.f1 ≤ 16777216) → (frs CT (q.map tpr)).length ≤ 65600 * q.length := by
    intro q
    induction q with
    | nil => simp [frs]
    | cons s q ih =>
      intro h
      have h1 := ih (fun y hy => h y (by simp [hy]))
      obtain ⟨h2, h3, h4⟩ := h s (by simp)
      have hs := sf_len10 (n := s.f1.toNat) (by omega)
      have h2' : s.f0.size ≤ 65535 := h2
      have hfl : (CT.fv s.f0).length ≤ 65545 := by
        have := sf_len10 (n := (bytesOf s.f0).length) (by rw [bytesOf_length]; omega)
        show (blkf (bytesOf s.f0)).length ≤ 65545
        rw [blkf, List.length_append, bytesOf_length] at *
        omega
      rw [List.map_cons, frs_cons, List.length_append, List.length_append, List.length_cons]
      have e2 : (tpr s).2 = s.f1.toNat := rfl
      have e1 : (tpr s).1 = s.f0 := rfl
      rw [e2, e1]
      omega
  have h2 := this r (fun s hs => ⟨hk s hs, hr.n s hs, by have := hr.max s hs; omega⟩)
  rw [frm, List.length_append, List.length_map]
  omega
theorem tbytes_frm (r : List S42) : Bytes (frm CT (r.map tpr)) := by
  have : ∀ q : List S42, Bytes (frs CT (q.map tpr)) := by
    intro q
    induction q with
    | nil => exact Bytes.nil
    | cons s q ih =>
      rw [List.map_cons, frs_cons]
      exact (show Bytes (sf _) from sf_range _).append ((show Bytes (blkf _) from (show Bytes (sf _) from sf_range _).append (bytes_bytesOf _)).append ih)
  rw [frm]
  exact (show Bytes (sf _) from sf_range _).append (this r)
/-- What is read are runs; their values, folded, are they. -/
theorem tFo_of {x : List S42} {p : List (ByteArray × Nat)} (e : x.map tpr = p) (hp : Pr p) (hn : ∀ s ∈ x, 0 ≤ s.f1) : tFo (unf p) x := by
  subst e
  exact ⟨hp, rfl, fun s hs => by have := hp.pos (tpr s) (List.mem_map_of_mem hs); have := hn s hs; unfold tpr at *; simp only at *; omega⟩
end Go.Proofs.Ythlpkdmandcngaa.Pa
