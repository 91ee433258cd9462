/- Columns, plainly: schema.Take, whole. -/
import Derived.Test.YtdiabhfphonciaaS3
import Derived.Test.YtdiabhfphonciaaFd
import Derived.Test.YtdiabhfphonciaaPa6
import Derived.Test.YtdiabhfphonciaaPa12
import Derived.Test.YtdiabhfphonciaaPa12
import Derived.Test.YtdiabhfphonciaaPa10
import Derived.Test.YtdiabhfphonciaaPa17
import Derived.Test.YtdiabhfphonciaaPa16
namespace Go.Proofs.Ytdiabhfphonciaa.Pa
open Go.RowKit Go.Proofs.YtdiabhfphonciaaW.PrintWords Go.Proofs.YtdiabhfphonciaaW.PrintLast Go.Proofs.YtdiabhfphonciaaW.PrintMore Go.Proofs.Ytdiabhfphonciaa.L
set_option linter.unusedVariables false
set_option linter.unusedSimpArgs false
/-- What a reading of columns comes to: the columns whose form the bytes are; else a refusal. -/
def Reads42 (bs : List Int) (res : List S42 × Int) : Prop :=
  (res = ([], 150) ∨ ∃ l, res = (l, 0) ∧ OK l ∧ enc l = bs) ∧ ∀ l, OK l → enc l = bs → res = (l, 0)
theorem Reads42.uniq {bs : List Int} {r r' : List S42 × Int} (h : Reads42 bs r) (h' : Reads42 bs r') : r = r' := by
  rcases h.1 with e | ⟨l, e, h1, h2⟩
  · rcases h'.1 with e' | ⟨l, e', h1, h2⟩
    · rw [e, e']
    · rw [e', h.2 l h1 h2]
  · rw [e, h'.2 l h1 h2]
theorem Reads42.no {bs : List Int} (h : ∀ l, OK l → enc l ≠ bs) : Reads42 bs ([], 150) := ⟨Or.inl rfl, fun l h1 h2 => absurd h2 (h l h1)⟩
theorem enc_num {l : List S42} {bs : List Int} (h : OK l) (e : enc l = bs) : numF bs 0 0 = .inr ((l.length : Int), encB l) := by
  rw [← e]
  exact numF_sf l.length (by have := h.2.1; omega) (encB l)
theorem take_f (bs : List Int) (hb : Bytes bs) (hl : bs.length < 140737488355328) : ∃ res, Evn (fun k => schema_Take.f k bs) res ∧ Reads42 bs res := by
  unfold schema_Take.f
  have hg : bs.length < 140737488355328 ∧ ∀ x ∈ bs, 0 ≤ x ∧ x < 256 := ⟨hl, hb⟩
  simp only [if_pos hg]
  have hd0 : bs.drop (0 : Int).toNat = bs := rfl
  rcases hn : numF bs 0 0 with n | ⟨n, rest⟩
  · have hu : uvR bs 0 0 = (0, 0, n) := by simp [uvR, hn]
    have he : n ≠ 0 := by have := numF_err _ _ _ _ hn; omega
    refine ⟨([], 150), ?_, Reads42.no (fun l h1 h2 => by rw [enc_num h1 h2] at hn; cases hn)⟩
    rw [hu]
    refine Evn.neg (by simp) ?_
    simp only [Int.toNat_zero, takeL]
    exact Evn.neg (by simp [endR, he]) (Evn.now _)
  · have hu : uvR bs 0 0 = (n, (bs.length : Int) - rest.length, 0) := by simp [uvR, hn]
    rw [hu]
    by_cases hgt : n > 256
    · refine ⟨([], 150), Evn.pos hgt (Evn.now _), Reads42.no (fun l h1 h2 => ?_)⟩
      rw [enc_num h1 h2] at hn
      injection hn with hn
      injection hn with h3 h4
      have := h1.2.1
      omega
    · obtain ⟨hn0, hsf⟩ := numF_back hb hn (by omega)
      have hrl : rest.length ≤ bs.length := by rw [hsf]; simp
      have hrd : rest = bs.drop ((bs.length : Int) - rest.length).toNat := by
        have e1 : ((bs.length : Int) - rest.length).toNat = (sf n.toNat).length := by rw [hsf]; simp
        rw [e1, hsf]
        simp
      have hrb : Bytes rest := fun x hx => hb x (by rw [hsf]; simp [hx])
      have hT := takeL_S bs n.toNat rest ((bs.length : Int) - rest.length) [] (by omega) (by omega) hrd
      have huni : ∀ l, OK l → enc l = bs → takeS n.toNat rest [] = some (l, []) := by
        intro l h1 h2
        have h3 := enc_num h1 h2
        rw [h3] at hn
        injection hn with hn
        injection hn with h4 h5
        have h6 := takeS_of l [] [] h1.2.2.1
        rw [← h5, ← h4]
        simpa using h6
      rcases hts : takeS n.toNat rest [] with _ | ⟨cols, r⟩
      · rw [hts] at hT
        simp only at hT
        refine ⟨([], 150), ?_, Reads42.no (fun l h1 h2 => by rw [huni l h1 h2] at hts; cases hts)⟩
        refine Evn.neg hgt (Evn.neg ?_ (Evn.now _))
        simp only [endR, hT, ne_eq, not_false_eq_true, if_true]
      · rw [hts] at hT
        simp only at hT
        obtain ⟨l, h1, h2, h3, h4, h5⟩ := takeS_back _ _ _ _ _ hrb hts
        simp only [List.nil_append] at h1
        subst h1
        simp only [hT]
        by_cases hr : r = []
        · subst hr
          have hE : endR bs ((bs.length : Int) - ([] : List Int).length) 0 = 0 := by simp [endR]
          have hck := check_f cols (fun c hc => by have := h5 c hc; omega)
          by_cases hok : OK cols
          · rw [if_pos hok] at hck
            have hen : enc cols = bs := by
              unfold enc
              rw [h2]
              have := h3 hok.2.2.1
              rw [List.append_nil] at this
              rw [← this]
              exact hsf.symm
            refine ⟨(cols, 0), Evn.neg hgt (Evn.pos hE (Evn.bind hck (Evn.pos rfl (Evn.now _)))), Or.inr ⟨cols, rfl, hok, hen⟩, fun l h6 h7 => ?_⟩
            have := huni l h6 h7
            rw [hts] at this
            injection this with this
            injection this with h8 h9
            rw [h8]
          · rw [if_neg hok] at hck
            refine ⟨([], 150), Evn.neg hgt (Evn.pos hE (Evn.bind hck (Evn.neg (by decide) (Evn.now _)))), Reads42.no (fun l h6 h7 => ?_)⟩
            have := huni l h6 h7
            rw [hts] at this
            injection this with this
            injection this with h8 h9
            subst h8
            exact hok h6
        · refine ⟨([], 150), Evn.neg hgt (Evn.neg ?_ (Evn.now _)), Reads42.no (fun l h6 h7 => ?_)⟩
          · have : r.length ≠ 0 := fun h => hr (List.eq_nil_of_length_eq_zero h)
            simp only [endR]
            simp
            omega
          · have := huni l h6 h7
            rw [hts] at this
            injection this with this
            injection this with h8 h9
            exact hr h9
/-! ### the rows of the chapter -/
def y42 : List S42 := [⟨⟨#[97]⟩, 1, false⟩, ⟨⟨#[98, 50]⟩, 2, true⟩]
theorem y42_ok : OK y42 := by decide +kernel
theorem y42_enc : enc y42 = [2, 1, 97, 1, 2, 98, 50, 6] := by
  unfold enc
  rw [sf_lo (by decide)]
  decide +kernel
open Classical in
theorem same_l0 (l m : List S42) (n : Nat) (hn : n = l.length) (hl : l.length = m.length) (hb : l.length ≤ 1000000000000000) : ∀ d i : Nat, i + d = n → (∀ j (h : j < l.length), j < i → l[j] = m[j]'(by omega)) → Evn (fun k => schema_Same.l0 k m l (l.length : Int) (i : Int)) (decide (l = m)) := by
  intro d
  induction d with
  | zero =>
    intro i e hp
    have : l = m := List.ext_getElem hl (fun j h1 h2 => hp j h1 (by omega))
    rw [decide_eq_true this]
    refine Evn.succ (fun _ => rfl) ?_
    simp only [schema_Same.l0]
    exact Evn.neg (by omega) (Evn.now _)
  | succ d ih =>
    intro i e hp
    refine Evn.succ (fun _ => rfl) ?_
    simp only [schema_Same.l0]
    refine Evn.pos (by omega) (Evn.pos (by omega) (Evn.pos (by omega) (Evn.pos (by omega) ?_)))
    rw [rd_nat l i (by omega), rd_nat m i (by omega), ByteArray.toList_eq, ByteArray.toList_eq]
    have e1 : wrap64 ((i : Int) + 1) = ((i + 1 : Nat) : Int) := by rw [wrap64_in (by omega) (by omega)]; omega
    rw [e1]
    by_cases h : l[i]'(by omega) = m[i]'(by omega)
    · refine Evn.neg (by rw [h]; simp) (ih (i + 1) (by omega) (fun j h1 h2 => ?_))
      rcases Nat.lt_or_ge j i with h3 | h3
      · exact hp j h1 h3
      · obtain rfl : j = i := by omega
        exact h
    · have hne : l ≠ m := fun h2 => h (by simp [h2])
      rw [decide_eq_false hne]
      refine Evn.pos ?_ (Evn.now _)
      rcases hx : l[i]'(by omega) with ⟨a1, a2, a3⟩
      rcases hy : m[i]'(by omega) with ⟨b1, b2, b3⟩
      rw [hx, hy] at h
      simp only
      by_cases c1 : a1.data.toList = b1.data.toList
      · have c1' : a1 = b1 := by
          have := Array.toList_inj.1 c1
          cases a1; cases b1; simpa using this
        by_cases c2 : a2 = b2
        · have c3 : a3 ≠ b3 := fun c3 => h (by rw [c1', c2, c3])
          simp [c3]
        · simp [c2]
      · have c4 : ¬ a1.data = b1.data := fun h => c1 (by rw [h])
        simp [c4]
open Classical in
theorem same_f (l m : List S42) (hb : l.length ≤ 1000000000000000) : Evn (fun k => schema_Same.f k l m) (decide (l = m)) := by
  unfold schema_Same.f
  by_cases h : l.length = m.length
  · exact Evn.pos (by omega) (same_l0 l m l.length rfl h hb l.length 0 (by omega) (fun j h1 h2 => absurd h2 (by omega)))
  · rw [decide_eq_false (fun e => h (by rw [e]))]
    exact Evn.neg (by omega) (Evn.now _)
/-- What 'known' asks, at some number of rounds. -/
theorem known_facts : ∃ k, schema_Put.f k y42 = some ([2, 1, 97, 1, 2, 98, 50, 6], 0) ∧ schema_Take.f k [2, 1, 97, 1, 2, 98, 50, 6] = some (y42, 0) ∧ schema_Same.f k y42 y42 = some true ∧ schema_Check.f k [] = some 150 ∧ schema_Find.f y42 ⟨#[98, 50]⟩ = some (1, true) := by
  obtain ⟨K1, h1⟩ := put_f y42 (by intro c hc; have := good_size (y42_ok.2.2.1 c hc); omega)
  rw [if_pos y42_ok, y42_enc] at h1
  obtain ⟨r, ⟨K2, h2⟩, hr⟩ := take_f [2, 1, 97, 1, 2, 98, 50, 6] (by rw [← y42_enc]; exact enc_bytes _ y42_ok.2.2.1) (by decide)
  rw [hr.2 y42 y42_ok y42_enc] at h2
  obtain ⟨K3, h3⟩ := same_f y42 y42 (by decide)
  obtain ⟨K4, h4⟩ := check_f [] (by intro c hc; simp at hc)
  rw [if_neg (fun h => by have := h.1; simp at this)] at h4
  refine ⟨K1 + K2 + K3 + K4, h1 _ (by omega), h2 _ (by omega), ?_, h4 _ (by omega), ?_⟩
  · have := h3 (K1 + K2 + K3 + K4) (by omega)
    simpa using this
  · simp only [schema_Find.f, schema_Find.i, y42, ByteArray.toList_eq]
    decide +kernel
end Go.Proofs.Ytdiabhfphonciaa.Pa
namespace Go.Proofs.Ytdiabhfphonciaa.Pa
open Go.RowKit Go.Proofs.YtdiabhfphonciaaW.PrintWords Go.Proofs.YtdiabhfphonciaaW.PrintLast Go.Proofs.YtdiabhfphonciaaW.PrintMore Go.Proofs.Ytdiabhfphonciaa.L
set_option linter.unusedVariables false
set_option linter.unusedSimpArgs false
theorem columns_f (l : List S42) (h : l.length * 32 ≤ 140737488351232) : colonnadelaw15_columns.f l = some l := by
  unfold colonnadelaw15_columns.f
  rw [if_pos (by simp; omega)]
  simp
theorem twin_f (l : List Int) (h : l.length < 140737488355328) : colonnadelaw15_twin.f l = some l := by
  unfold colonnadelaw15_twin.f
  rw [if_pos (by simpa using h)]
  simp
theorem small_of {l : List S42} (h : ∀ c ∈ l, c.f0.size ≤ 140737488351232) : small l := fun c hc => by have := h c hc; omega
def findR (r : Int) : Int × Bool := (mx r 0, decide (r ≥ 0))
theorem ref_find_l0 (l : List S42) (s : ByteArray) (hl : l.length ≤ 1000000000000000) : ∀ d i : Nat, i + d = l.length → Evn (fun k => colonnaderef15_Find.l0 k l s (i : Int)) (findR (schema_Find.i (l.drop i) s i)) := by
  intro d
  induction d with
  | zero =>
    intro i e
    rw [List.drop_eq_nil_of_le (by omega)]
    refine Evn.succ (fun _ => rfl) ?_
    simp only [colonnaderef15_Find.l0]
    exact Evn.neg (by omega) (Evn.now _)
  | succ d ih =>
    intro i e
    have hi : i < l.length := by omega
    have e1 : wrap64 ((i : Int) + 1) = ((i + 1 : Nat) : Int) := by rw [wrap64_in (by omega) (by omega)]; omega
    rw [List.drop_eq_getElem_cons hi, schema_Find.i]
    refine Evn.succ (fun _ => rfl) ?_
    simp only [colonnaderef15_Find.l0]
    refine Evn.pos (by omega) (Evn.pos (by omega) ?_)
    rw [rd_nat l i hi, e1]
    by_cases h : l[i].f0.toList = s.toList
    · rw [if_pos h]
      have e2 : findR (i : Int) = ((i : Int), true) := by
        unfold findR mx
        simp
        try omega
      rw [e2]
      exact Evn.pos h (Evn.now _)
    · rw [if_neg h]
      exact Evn.neg h (ih (i + 1) (by omega))
theorem ref_find_f (l : List S42) (s : ByteArray) (hl : l.length ≤ 1000000000000000) : Evn (fun k => colonnaderef15_Find.f k l s) (findR (schema_Find.i l s 0)) := ref_find_l0 l s hl l.length 0 (by omega)
open Classical in
theorem ref_same_l0 (l m : List S42) (hl : l.length = m.length) (hb : l.length ≤ 1000000000000000) : ∀ d i : Nat, i + d = l.length → (∀ j (h : j < l.length), j < i → l[j] = m[j]'(by omega)) → Evn (fun k => colonnaderef15_Same.l0 k l m (i : Int)) (decide (l = m)) := by
  intro d
  induction d with
  | zero =>
    intro i e hp
    have : l = m := List.ext_getElem hl (fun j h1 h2 => hp j h1 (by omega))
    rw [decide_eq_true this]
    refine Evn.succ (fun _ => rfl) ?_
    simp only [colonnaderef15_Same.l0]
    exact Evn.neg (by omega) (Evn.now _)
  | succ d ih =>
    intro i e hp
    refine Evn.succ (fun _ => rfl) ?_
    simp only [colonnaderef15_Same.l0]
    refine Evn.pos (by omega) (Evn.pos (by omega) (Evn.pos (by omega) ?_))
    rw [rd_nat l i (by omega), rd_nat m i (by omega), ByteArray.toList_eq, ByteArray.toList_eq]
    have e1 : wrap64 ((i : Int) + 1) = ((i + 1 : Nat) : Int) := by rw [wrap64_in (by omega) (by omega)]; omega
    rw [e1]
    rcases hx : l[i]'(by omega) with ⟨a1, a2, a3⟩
    rcases hy : m[i]'(by omega) with ⟨b1, b2, b3⟩
    simp only
    have hne : ¬ (S42.mk a1 a2 a3 = S42.mk b1 b2 b3) → decide (l = m) = false := fun h => decide_eq_false (fun h2 => h (by rw [← hx, ← hy]; simp [h2]))
    by_cases c1 : a1.data.toList = b1.data.toList
    · refine Evn.pos c1 ?_
      have c1' : a1 = b1 := by
        have := Array.toList_inj.1 c1
        cases a1; cases b1; simpa using this
      by_cases c2 : a2 = b2
      · refine Evn.pos c2 ?_
        by_cases c3 : a3 = b3
        · refine Evn.neg (by simp [c3]) (ih (i + 1) (by omega) (fun j h1 h2 => ?_))
          rcases Nat.lt_or_ge j i with h3 | h3
          · exact hp j h1 h3
          · obtain rfl : j = i := by omega
            rw [hx, hy, c1', c2, c3]
        · rw [hne (by simp [c3])]
          exact Evn.pos (by simp [c3]) (Evn.now _)
      · rw [hne (by simp [c2])]
        exact Evn.neg c2 (Evn.now _)
    · have c4 : ¬ a1 = b1 := fun h => c1 (by rw [h])
      rw [hne (by simp [c4])]
      exact Evn.neg c1 (Evn.now _)
open Classical in
theorem ref_same_f (l m : List S42) (hb : l.length ≤ 1000000000000000) : Evn (fun k => colonnaderef15_Same.f k l m) (decide (l = m)) := by
  unfold colonnaderef15_Same.f
  by_cases h : l.length = m.length
  · exact Evn.pos (by omega) (ref_same_l0 l m h hb l.length 0 (by omega) (fun j h1 h2 => absurd h2 (by omega)))
  · rw [decide_eq_false (fun e => h (by rw [e]))]
    exact Evn.neg (by omega) (Evn.now _)
end Go.Proofs.Ytdiabhfphonciaa.Pa
namespace Go.Proofs.Ytdiabhfphonciaa.Pa
open Go.RowKit Go.Proofs.YtdiabhfphonciaaW.PrintWords Go.Proofs.YtdiabhfphonciaaW.PrintLast Go.Proofs.YtdiabhfphonciaaW.PrintMore Go.Proofs.Ytdiabhfphonciaa.L
set_option linter.unusedVariables false
set_option linter.unusedSimpArgs false
theorem wrapS (x : Int) (h0 : -1000000000000000 ≤ x) (h1 : x ≤ 1000000000000000) : wrap64 x = x := wrap64_in (by omega) (by omega)
/-- One column, as the document reads it. -/
def mkR (bs : List Int) (a n : Nat) : S42 := ⟨strOfNums ((bs.take (a + 1 + n)).drop (a + 1)), Int.tmod (bs.getD (a + 1 + n) 0) 4, decide (bs.getD (a + 1 + n) 0 ≥ 4)⟩
/-- The document's rounds; none: refused. -/
def refTakeL (bs : List Int) : Nat → Nat → List S42 → Option (List S42)
  | 0, _, cols => some cols
  | d + 1, a, cols => if a < bs.length ∧ cols.length < 256 then
      (if bs.getD a 0 > 64 ∨ a + 1 + (bs.getD a 0).toNat ≥ bs.length then none
       else refTakeL bs d (a + 2 + (bs.getD a 0).toNat) (cols ++ [mkR bs a (bs.getD a 0).toNat]))
    else some cols
open Classical in
noncomputable def finR (bs : List Int) : Option (List S42) → List S42 × Int
  | none => ([], 150)
  | some cols => if OK cols ∧ enc cols = bs then (cols, 0) else ([], 150)
theorem getD_bytes {bs : List Int} (hb : Bytes bs) (i : Nat) : ∃ n : Nat, bs.getD i 0 = (n : Int) ∧ n < 256 := by
  rcases Nat.lt_or_ge i bs.length with h | h
  · have := hb (bs.getD i 0) (by rw [List.getD_eq_getElem?_getD, List.getElem?_eq_getElem h]; exact List.getElem_mem h)
    exact ⟨(bs.getD i 0).toNat, by omega, by omega⟩
  · refine ⟨0, ?_, by omega⟩
    rw [List.getD_eq_getElem?_getD, List.getElem?_eq_none h]
    rfl
theorem ref_end (bs : List Int) (hb : Bytes bs) (cols : List S42) (a : Int) : Evn (fun k => colonnaderef15_Take.j3 k bs cols a false) (finR bs (some cols)) := by
  refine Evn.succ (fun _ => rfl) ?_
  simp only [colonnaderef15_Take.j3]
  refine Evn.neg (by simp) (Evn.bind (ref_check_f cols) ?_)
  unfold finR
  by_cases h : OK cols
  · simp only [if_pos h]
    have hp := ref_put_f cols
    rw [if_pos h] at hp
    refine Evn.pos trivial (Evn.bind hp ?_)
    by_cases he : enc cols = bs
    · rw [if_pos (show OK cols ∧ enc cols = bs from ⟨h, he⟩)]
      exact Evn.pos (by rw [he]) (Evn.now _)
    · rw [if_neg (show ¬(OK cols ∧ enc cols = bs) from fun h' => he h'.2)]
      exact Evn.neg (fun h' => he (str_inj (enc_bytes _ h.2.2.1) hb h')) (Evn.now _)
  · simp only [if_neg h]
    rw [if_neg (show ¬(OK cols ∧ enc cols = bs) from fun h' => h h'.1)]
    exact Evn.neg (by decide) (Evn.now _)
theorem ref_take_l0 (bs : List Int) (hb : Bytes bs) (hl : bs.length < 140737488355328) : ∀ (d a : Nat) (cols : List S42), 1 ≤ a → a ≤ bs.length + 2 → bs.length + 1 ≤ a + d → cols.length ≤ 256 → Evn (fun k => colonnaderef15_Take.l0 k bs cols (a : Int)) (finR bs (refTakeL bs d a cols)) := by
  intro d
  induction d with
  | zero =>
    intro a cols h1 h2 h3 h4
    refine Evn.succ (fun _ => rfl) ?_
    simp only [colonnaderef15_Take.l0]
    exact Evn.neg (by omega) (ref_end bs hb cols _)
  | succ d ih =>
    intro a cols h1 h2 h3 h4
    refine Evn.succ (fun _ => rfl) ?_
    simp only [colonnaderef15_Take.l0]
    by_cases ha : a < bs.length
    · refine Evn.pos (by omega) ?_
      by_cases hc : cols.length < 256
      · have hd : decide ((cols.length : Int) < 256) = true := by simp; omega
        rw [hd]
        refine Evn.succ (fun _ => rfl) ?_
        simp only [colonnaderef15_Take.j3]
        refine Evn.pos trivial (Evn.pos (by omega) (Evn.pos (by omega) ?_))
        obtain ⟨n, hn, hn2⟩ := getD_bytes hb a
        have er : rd bs (a : Int) = (n : Int) := hn
        have eT : refTakeL bs (d + 1) a cols = (if (n : Int) > 64 ∨ a + 1 + n ≥ bs.length then none else refTakeL bs d (a + 2 + n) (cols ++ [mkR bs a n])) := by
          rw [refTakeL, if_pos ⟨ha, hc⟩, hn]
          rfl
        rw [er, eT, wrapS (n : Int) (by omega) (by omega), wrapS ((a : Int) + 1) (by omega) (by omega), wrapS ((a : Int) + 1 + n) (by omega) (by omega), wrapS ((a : Int) + 2) (by omega) (by omega), wrapS ((a : Int) + 2 + n) (by omega) (by omega)]
        by_cases c1 : (n : Int) > 64
        · rw [if_pos (Or.inl c1)]
          exact Evn.pos c1 (Evn.now _)
        · refine Evn.neg c1 ?_
          by_cases c2 : a + 1 + n ≥ bs.length
          · rw [if_pos (Or.inr c2)]
            exact Evn.pos (by omega) (Evn.now _)
          · rw [if_neg (by omega)]
            refine Evn.neg (by omega) (Evn.pos (by omega) (Evn.pos (by omega) (Evn.pos (by omega) (Evn.pos (by omega) (Evn.pos (by omega) (Evn.pos (by omega) ?_))))))
            have e1 : ((a : Int) + 1 + n).toNat = a + 1 + n := by omega
            have e2 : ((a : Int) + 1).toNat = a + 1 := by omega
            obtain ⟨q, hq, hq2⟩ := getD_bytes hb (a + 1 + n)
            have e3 : rd bs ((a : Int) + 1 + n) = (q : Int) := by
              show bs.getD ((a : Int) + 1 + n).toNat 0 = _
              rw [e1, hq]
            rw [e1, e2, e3, wrapS (q : Int) (by omega) (by omega)]
            have e4 : (⟨strOfNums ((bs.take (a + 1 + n)).drop (a + 1)), Int.tmod (q : Int) 4, decide ((q : Int) ≥ 4)⟩ : S42) = mkR bs a n := by rw [mkR, hq]
            rw [e4]
            have e5 : (a : Int) + 2 + n = ((a + 2 + n : Nat) : Int) := by omega
            rw [e5]
            exact ih (a + 2 + n) _ (by omega) (by omega) (by omega) (by simp; omega)
      · have hd : decide ((cols.length : Int) < 256) = false := by simp; omega
        rw [hd]
        have eT : refTakeL bs (d + 1) a cols = some cols := by rw [refTakeL, if_neg (fun h => hc h.2)]
        rw [eT]
        exact ref_end bs hb cols _
    · have eT : refTakeL bs (d + 1) a cols = some cols := by rw [refTakeL, if_neg (fun h => ha h.1)]
      rw [eT]
      exact Evn.neg (by omega) (ref_end bs hb cols _)
theorem refTakeL_of (bs : List Int) : ∀ (l pre : List S42) (pb : List Int) (d : Nat) (cols : List S42), bs = pb ++ encB l → (∀ c ∈ l, good c) → cols.length + l.length ≤ 256 → l.length ≤ d → refTakeL bs d pb.length cols = some (cols ++ l)
  | [], _, pb, d, cols, h, _, _, _ => by
    have : bs.length = pb.length := by rw [h]; simp [encB]
    cases d with
    | zero => simp [refTakeL]
    | succ d => rw [refTakeL, if_neg (fun h' => by omega)]; simp
  | c :: l, pre, pb, d, cols, h, hg, hc, hd => by
    obtain ⟨d, rfl⟩ : ∃ m, d = m + 1 := ⟨d - 1, by simp at hd; omega⟩
    have h2 := good_size (hg c (by simp))
    have hlen : bs.length = pb.length + 1 + c.f0.size + 1 + (encB l).length := by rw [h]; simp [encB, bytesOf_length]; omega
    have e0 : bs.getD pb.length 0 = (c.f0.size : Int) := by rw [h, List.getD_eq_getElem?_getD, List.getElem?_append_right (Nat.le_refl _)]; simp [encB]
    have hdrop : bs.drop (pb.length + 1) = bytesOf c.f0 ++ kd c :: encB l := by
      rw [h, ← List.drop_drop, List.drop_left]
      rfl
    have e1 : (bs.take (pb.length + 1 + c.f0.size)).drop (pb.length + 1) = bytesOf c.f0 := by
      rw [List.drop_take, hdrop, show pb.length + 1 + c.f0.size - (pb.length + 1) = c.f0.size by omega]
      exact List.take_left' (bytesOf_length _)
    have e2 : bs.getD (pb.length + 1 + c.f0.size) 0 = kd c := by
      have : bs[pb.length + 1 + c.f0.size]? = (bs.drop (pb.length + 1))[c.f0.size]? := by rw [List.getElem?_drop]
      rw [List.getD_eq_getElem?_getD, this, hdrop, List.getElem?_append_right (by rw [bytesOf_length]; omega), bytesOf_length]
      simp
    have e3 : mkR bs pb.length c.f0.size = c := by
      rw [mkR, e1, e2, str_bytesOf]
      rcases c with ⟨nm, ty, nl⟩
      have hty := (hg ⟨nm, ty, nl⟩ (by simp)).2
      simp only at hty
      rcases hty with rfl | rfl <;> cases nl <;> rfl
    rw [refTakeL, if_pos ⟨by omega, by simp at hc; omega⟩, e0, if_neg (by simp; omega)]
    have e4 : (c.f0.size : Int).toNat = c.f0.size := by omega
    rw [e4, e3]
    have e5 : pb.length + 2 + c.f0.size = (pb ++ ((c.f0.size : Int) :: (bytesOf c.f0 ++ [kd c]))).length := by simp [bytesOf_length]; omega
    rw [e5, refTakeL_of bs l pre (pb ++ ((c.f0.size : Int) :: (bytesOf c.f0 ++ [kd c]))) d (cols ++ [c]) (by rw [h]; simp [encB]) (fun x hx => hg x (by simp [hx])) (by simp at hc ⊢; omega) (by simp at hd; omega)]
    simp
theorem ref_take_f (bs : List Int) (hb : Bytes bs) (hl : bs.length < 140737488355328) : ∃ res, Evn (fun k => colonnaderef15_Take.f k bs) res ∧ Reads42 bs res := by
  obtain ⟨a0, ha0⟩ : ∃ a0 : Nat, a0 = (if bs.getD 0 0 > 127 then 2 else 1) := ⟨_, rfl⟩
  have ha1 : 1 ≤ a0 ∧ a0 ≤ 2 := by rw [ha0]; split <;> omega
  refine ⟨finR bs (refTakeL bs bs.length a0 []), ?_, ?_⟩
  · have hL := ref_take_l0 bs hb hl bs.length a0 [] ha1.1 (by omega) (by omega) (by simp)
    unfold colonnaderef15_Take.f
    by_cases h : (bs.length : Int) > 0
    · refine Evn.pos h (Evn.pos (by omega) (Evn.succ (fun _ => rfl) ?_))
      simp only [colonnaderef15_Take.j0]
      have er : rd bs 0 = bs.getD 0 0 := rfl
      rw [er]
      by_cases h2 : bs.getD 0 0 > 127
      · rw [if_pos h2] at ha0
        subst ha0
        refine Evn.pos (by simpa using h2) (Evn.succ (fun _ => rfl) ?_)
        simp only [colonnaderef15_Take.j1]
        exact hL
      · rw [if_neg h2] at ha0
        subst ha0
        refine Evn.neg (by simpa using h2) (Evn.succ (fun _ => rfl) ?_)
        simp only [colonnaderef15_Take.j1]
        exact hL
    · have hn : bs = [] := List.eq_nil_of_length_eq_zero (by omega)
      subst hn
      have : a0 = 1 := by rw [ha0]; rfl
      subst this
      refine Evn.neg h (Evn.succ (fun _ => rfl) ?_)
      simp only [colonnaderef15_Take.j0]
      refine Evn.neg (by simp) (Evn.succ (fun _ => rfl) ?_)
      simp only [colonnaderef15_Take.j1]
      exact hL
  · constructor
    · unfold finR
      split
      · exact Or.inl rfl
      · rename_i cols _
        split
        · rename_i h
          exact Or.inr ⟨cols, rfl, h.1, h.2⟩
        · exact Or.inl rfl
    · intro l h1 h2
      have hlen := h1.2.1
      have hlen1 := h1.1
      have hpb : a0 = (sf l.length).length := by
        rw [ha0, ← h2]
        unfold enc
        by_cases h : l.length < 128
        · rw [sf_lo h]
          have : ([(l.length : Int)] ++ encB l).getD 0 0 = (l.length : Int) := rfl
          rw [this, if_neg (by omega)]
          rfl
        · rw [sf_hi h, sf_lo (show l.length / 128 < 128 by omega)]
          have : ((((l.length % 128 + 128 : Nat) : Int) :: [((l.length / 128 : Nat) : Int)]) ++ encB l).getD 0 0 = ((l.length % 128 + 128 : Nat) : Int) := rfl
          rw [this, if_pos (by omega)]
          rfl
      have hbl : l.length ≤ bs.length := by
        rw [← h2]
        have : ∀ m : List S42, m.length ≤ (encB m).length := by
          intro m
          induction m with
          | nil => simp [encB]
          | cons c m ih => simp [encB]; omega
        have := this l
        simp [enc]
        omega
      rw [hpb, refTakeL_of bs l [] (sf l.length) bs.length [] h2.symm h1.2.2.1 (by simpa using hlen) hbl]
      unfold finR
      simp only [List.nil_append]
      rw [if_pos ⟨h1, h2⟩]
end Go.Proofs.Ytdiabhfphonciaa.Pa
