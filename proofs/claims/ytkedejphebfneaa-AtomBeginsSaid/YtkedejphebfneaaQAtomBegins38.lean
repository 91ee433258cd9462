/- The texts of AtomBegins, merged: part 38. -/
import Derived.Test.YtkedejphebfneaaQAtomBegins28
import Derived.Test.YtkedejphebfneaaQAtomBegins37
import Derived.Test.YtkedejphebfneaaQAtomBegins6
/- AtomBegins: of any texts what begins with a text is not ahead of it, nor behind one that is behind it and does not begin with it. No conditions. -/
namespace Go.Proofs.Ytkedejphebfneaa.Pure
open Go.RowKit Go.Proofs.Ytkedejphebfneaa.Pa Go.Proofs.Ytkedejphebfneaa.V Go.Proofs.Ytkedejphebfneaa.L Go.Proofs.YtkedejphebfneaaW.PrintWords Go.Proofs.YtkedejphebfneaaW.PrintLast Go.Proofs.YtkedejphebfneaaW.PrintMore
theorem AtomBegins (a0 : ByteArray) (a1 : ByteArray) (a2 : ByteArray) (h0 : a0.size ≤ 140737488351232) (h1 : a1.size ≤ 140737488351232) (h2 : a2.size ≤ 140737488351232) : ∃ k, colonnadelaw18_AtomBegins.f k a0 a1 a2 = some true := by
  apply Evn.ex
  unfold colonnadelaw18_AtomBegins.f
  refine Evn.bind known_f (Evn.pos rfl ?_)
  have big : Evn (fun k => colonnadelaw18_AtomBegins.j0 k a0 a1 a2 true) true := Evn.succ (fun n => by rw [colonnadelaw18_AtomBegins.j0]) (Evn.pos rfl (Evn.now _))
  by_cases s0 : a0.size ≤ 65535
  case neg => exact Evn.pos (by omega) big
  refine Evn.neg (by omega) ?_
  by_cases s1 : a1.size ≤ 65535
  case neg => exact Evn.pos (by omega) big
  refine Evn.neg (by omega) ?_
  by_cases s2 : a2.size ≤ 65535
  case neg => rw [decide_eq_true (by omega)]; exact big
  rw [decide_eq_false (by omega)]
  have okn : okL [] := fun c hc => by simp at hc
  have w : ∀ t : ByteArray, colonnadelaw18_word.f t = some (2, 0, 0, t) := fun t => rfl
  have cm : ∀ (op : Int) (t : ByteArray), colonnadelaw18_compared.f op 2 0 0 t = some (1, (⟨#[99]⟩ : ByteArray), op, 2, 0, 0, t, [], []) := fun op t => rfl
  have T := fun (op : Int) (s c : ByteArray) (h : s.size ≤ 65535) (hc : c.size ≤ 65535) => test_cmp op h hc ▸ test_f 1 (⟨#[99]⟩ : ByteArray) op 2 0 c [] [] 2 0 (r := 0) s (a5 := 0) (by decide) okn (by decide)
  have P := fun (s c : ByteArray) (h : s.size ≤ 65535) => test_pre (c := c) h ▸ test_f 5 (⟨#[99]⟩ : ByteArray) 0 2 0 c [] [] 2 0 (r := 0) s (a5 := 0) (by decide) okn (by decide)
  have Z := fun (c : ByteArray) => test_null c ▸ test_f 5 (⟨#[99]⟩ : ByteArray) 0 2 0 c [] [] 0 0 (r := 0) (⟨#[]⟩ : ByteArray) (a5 := 0) (by decide) okn (by decide)
  refine Evn.succ (fun n => by rw [colonnadelaw18_AtomBegins.j0]) (Evn.neg (by decide) ?_)
  simp only [w, Option.bind_some, begins_f]
  refine Evn.bind (P a1 a0 s1) ?_
  have same : ∀ b : Bool, ((if b = true then (1 : Int) else 0) == 1) = b := by decide
  simp only [same]
  refine Evn.neg (by simp) (Evn.bind (P a2 a0 s2) ?_)
  simp only [same]
  refine Evn.neg (by simp) (Evn.bind (Z a0) ?_)
  refine Evn.succ (fun n => by rw [colonnadelaw18_AtomBegins.j1]) (Evn.neg (by decide) ?_)
  by_cases hp : preS a1 a0 = true
  case neg => exact Evn.neg hp (Evn.now _)
  refine Evn.pos hp ?_
  simp only [w, cm, Option.bind_some, begins_f]
  refine Evn.bind (T 6 a1 a0 s1 s0) ?_
  obtain ⟨l, hl⟩ := (pre_iff _ _).1 hp
  have g6 : stS (cmpb a1 a0) 6 = true := by
    have := cmpB_pre a0.data.toList l
    rw [cmpb_eq, hl]
    simp [stS]; omega
  rw [g6]
  refine Evn.pos rfl ?_
  by_cases hq : preS a2 a0 = true
  · exact Evn.pos hq (Evn.now _)
  refine Evn.neg hq (Evn.bind (T 5 a2 a0 s2 s0) ?_)
  by_cases h5 : stS (cmpb a2 a0) 5 = true
  · rw [if_pos h5]
    refine Evn.pos rfl (Evn.bind (T 3 a1 a2 s1 s2) ?_)
    have h5' : Lib.compareBytes a2.data.toList a0.data.toList > 0 := by
      rw [cmpb_eq] at h5
      simpa [stS] using h5
    have g3 : stS (cmpb a1 a2) 3 = true := by
      have := cmpB_behind a0.data.toList a2.data.toList l h5' (fun hm => hq ((pre_iff _ _).2 hm))
      rw [cmpb_eq, hl]
      simp [stS]; omega
    rw [g3]
    exact Evn.now _
  · rw [if_neg h5]
    exact Evn.neg (by decide) (Evn.now _)
end Go.Proofs.Ytkedejphebfneaa.Pure
