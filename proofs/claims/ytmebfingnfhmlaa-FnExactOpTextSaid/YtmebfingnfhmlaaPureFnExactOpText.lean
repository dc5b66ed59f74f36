/- The program's OpText and the reference's tell the same, for all ops. No condition. -/
import Derived.Test.YtmebfingnfhmlaaDFnExactOpText
import Derived.Test.YtmebfingnfhmlaaLm
namespace Go.Proofs.Ytmebfingnfhmlaa.Pure
open Go.RowKit Go.Proofs.Ytmebfingnfhmlaa.QFnExactOpText Go.Proofs.YtmebfingnfhmlaaW.PrintWords Go.Proofs.YtmebfingnfhmlaaW.PrintLast Go.Proofs.YtmebfingnfhmlaaW.PrintMore Go.Proofs.Ytmebfingnfhmlaa.Lm
set_option linter.unusedSimpArgs false
set_option linter.unusedVariables false
theorem spec_l10Clean_ev (s : ByteArray) (hs : s.size ≤ 9223372036854775807) : Ev (fun k => spec_l10Clean.f k s) (plain (bytesOf s)) := by
  have := Ev.scan (l := fun k (_ : Unit) i => spec_l10Clean.l0 k s i) s.size (fun _ _ => True) (fun i _ => plain ((bytesOf s).drop i)) ?_ ?_ 0 () (Nat.zero_le _) trivial
  · simpa [spec_l10Clean.f] using this
  · intro _ _
    exact Ev.some_ fun k => by simp only [spec_l10Clean.l0]; rw [if_neg (by omega)]; simp [plain, ← bytesOf_length]
  · intro i _ hi _
    have hd := drop_bt s i hi
    have hl : ∀ k, spec_l10Clean.l0 (k + 1) s (i : Int) = if bt s (i : Int) = 32 then some false else if bt s (i : Int) = 10 then some false else spec_l10Clean.l0 k s ((i + 1 : Nat) : Int) := fun k => by
      simp only [spec_l10Clean.l0]; rw [if_pos (by omega), if_pos (by omega), w64s hi hs]
    by_cases h1 : bt s (i : Int) = 32
    · exact .inl (Ev.some_ fun k => by simp only [hl]; rw [if_pos h1, hd, h1]; rfl)
    · by_cases h2 : bt s (i : Int) = 10
      · exact .inl (Ev.some_ fun k => by simp only [hl]; rw [if_neg h1, if_pos h2, hd, h2]; rfl)
      · exact .inr ⟨(), trivial, by rw [hd]; simp [plain, h1, h2], EvE.of fun k => by simp only [hl]; rw [if_neg h1, if_neg h2]⟩
theorem impl_isPlain_ev (s : ByteArray) (hs : s.size ≤ 9223372036854775807) : Ev (fun k => impl_isPlain.f k s) (plain (bytesOf s)) := by
  have := Ev.scan (l := fun k (_ : Unit) i => impl_isPlain.l0 k s i) s.size (fun _ _ => True) (fun i _ => plain ((bytesOf s).drop i)) ?_ ?_ 0 () (Nat.zero_le _) trivial
  · simpa [impl_isPlain.f] using this
  · intro _ _
    exact Ev.some_ fun k => by simp only [impl_isPlain.l0]; rw [if_neg (by omega)]; simp [plain, ← bytesOf_length]
  · intro i _ hi _
    have hd := drop_bt s i hi
    have hl : ∀ k, impl_isPlain.l0 (k + 1) s (i : Int) = if bt s (i : Int) = 32 then some false else if bt s (i : Int) = 10 then some false else impl_isPlain.l0 k s ((i + 1 : Nat) : Int) := fun k => by
      simp only [impl_isPlain.l0]; rw [if_pos (by omega), if_pos (by omega), w64s hi hs]
    by_cases h1 : bt s (i : Int) = 32
    · exact .inl (Ev.some_ fun k => by simp only [hl]; rw [if_pos h1, hd, h1]; rfl)
    · by_cases h2 : bt s (i : Int) = 10
      · exact .inl (Ev.some_ fun k => by simp only [hl]; rw [if_neg h1, if_pos h2, hd, h2]; rfl)
      · exact .inr ⟨(), trivial, by rw [hd]; simp [plain, h1, h2], EvE.of fun k => by simp only [hl]; rw [if_neg h1, if_neg h2]⟩
theorem spec_ItemOk_ev (a b : ByteArray) (f : Int) (ha : a.size ≤ 9223372036854775807) (hb : b.size ≤ 9223372036854775807) : Ev (fun k => spec_ItemOk.f k a b f) (itemOk a b f) := by
  obtain ⟨K1, h1⟩ := spec_l10Clean_ev a ha
  obtain ⟨K2, h2⟩ := spec_l10Clean_ev b hb
  refine ⟨max K1 K2, fun k hk => ?_⟩
  have e1 := h1 k (by omega)
  have e2 := h2 k (by omega)
  by_cases c1 : 1 ≤ (a.size : Int) <;> by_cases c2 : (a.size : Int) ≤ 20 <;> by_cases c3 : (b.size : Int) ≤ 40 <;> by_cases c4 : 0 ≤ f <;> by_cases c5 : f ≤ 3 <;> cases p1 : plain (bytesOf a) <;> cases p2 : plain (bytesOf b) <;>
    simp only [spec_ItemOk.f, spec_l01In.f, e1, e2, Option.bind_some, itemOk, ge_iff_le, c1, c2, c3, c4, c5, p1, p2, if_true, if_false, decide_true, decide_false, Bool.and_true, Bool.true_and, Bool.false_and, Bool.and_false, Bool.false_eq_true]
theorem impl_ItemOk_ev (a b : ByteArray) (f : Int) (ha : a.size ≤ 9223372036854775807) (hb : b.size ≤ 9223372036854775807) : Ev (fun k => impl_ItemOk.f k a b f) (itemOk a b f) := by
  obtain ⟨K1, h1⟩ := impl_isPlain_ev a ha
  obtain ⟨K2, h2⟩ := impl_isPlain_ev b hb
  refine ⟨max K1 K2, fun k hk => ?_⟩
  have e1 := h1 k (by omega)
  have e2 := h2 k (by omega)
  by_cases c1 : 1 ≤ (a.size : Int) <;> by_cases c2 : (a.size : Int) ≤ 20 <;> by_cases c3 : (b.size : Int) ≤ 40 <;> by_cases c4 : 0 ≤ f <;> by_cases c5 : f ≤ 3 <;> cases p1 : plain (bytesOf a) <;> cases p2 : plain (bytesOf b) <;>
    simp only [impl_ItemOk.f, impl_within.f, e1, e2, Option.bind_some, itemOk, ge_iff_le, c1, c2, c3, c4, c5, p1, p2, if_true, if_false, decide_true, decide_false, Bool.and_true, Bool.true_and, Bool.false_and, Bool.and_false, Bool.false_eq_true]
theorem spec_OpOk_ev (a : Int) (b c : ByteArray) (hb : b.size ≤ 9223372036854775807) (hc : c.size ≤ 9223372036854775807) : Ev (fun k => spec_OpOk.f k a b c) (opOk a b c) := by
  refine (evP (spec_ItemOk_ev b c 0 hb hc)).ev fun k e1 => ?_
  by_cases c1 : 1 ≤ a <;> by_cases c2 : a ≤ 3 <;> cases p1 : itemOk b c 0 <;> rw [p1] at e1 <;>
    simp only [spec_OpOk.f, e1, Option.bind_some, opOk, ge_iff_le, c1, c2, p1, eq_self, if_true, if_false, decide_true, decide_false, Bool.and_true, Bool.true_and, Bool.false_and, Bool.and_false, Bool.false_eq_true, Bool.true_or, Bool.false_or] <;> (try (split <;> simp_all))
theorem impl_OpOk_ev (a : Int) (b c : ByteArray) (hb : b.size ≤ 9223372036854775807) (hc : c.size ≤ 9223372036854775807) : Ev (fun k => impl_OpOk.f k a b c) (opOk a b c) := by
  refine (evP (impl_ItemOk_ev b c 0 hb hc)).ev fun k e1 => ?_
  by_cases c1 : 1 ≤ a <;> by_cases c2 : a ≤ 3 <;> cases p1 : itemOk b c 0 <;> rw [p1] at e1 <;>
    simp only [impl_OpOk.f, impl_within.f, e1, Option.bind_some, opOk, ge_iff_le, c1, c2, p1, eq_self, if_true, if_false, decide_true, decide_false, Bool.and_true, Bool.true_and, Bool.false_and, Bool.and_false, Bool.false_eq_true, Bool.true_or, Bool.false_or] <;> (try (split <;> simp_all))
theorem spec_OpText_ev (a : Int) (b c : ByteArray) (hb : b.size ≤ 9223372036854775807) (hc : c.size ≤ 9223372036854775807) : Ev (fun k => spec_OpText.f k a b c) (opText a b c) := by
  refine (evP (spec_OpOk_ev a b c hb hc)).ev fun k e => ?_
  unfold opText
  cases p : opOk a b c with
  | false => rw [p] at e; simp only [spec_OpText.f, e, Option.bind_some, Bool.false_eq_true, if_false]
  | true =>
    rw [p] at e
    have hz := opOk_sizes p
    have s1 : (⟨#[32]⟩ : ByteArray).size = 1 := rfl
    have s4 : (⟨#[112, 117, 116, 32]⟩ : ByteArray).size = 4 := rfl
    simp only [spec_OpText.f, e, Option.bind_some, if_true]
    by_cases c1 : a = 1
    · rw [if_pos c1, if_pos c1, if_pos (by omega)]
    · rw [if_neg c1, if_neg c1]
      by_cases c2 : a = 2
      · rw [if_pos c2, if_pos c2, if_pos (by omega), if_pos (by rw [ba_sizes]; omega), if_pos (by rw [ba_sizes, ba_sizes]; omega)]
      · rw [if_neg c2, if_neg c2, if_pos (by omega)]
theorem impl_OpText_ev (a : Int) (b c : ByteArray) (hb : b.size ≤ 9223372036854775807) (hc : c.size ≤ 9223372036854775807) : Ev (fun k => impl_OpText.f k a b c) (opText a b c) := by
  refine (evP (impl_OpOk_ev a b c hb hc)).ev fun k e => ?_
  unfold opText
  cases p : opOk a b c with
  | false => rw [p] at e; simp only [impl_OpText.f, e, Option.bind_some, Bool.false_eq_true, if_false]
  | true =>
    rw [p] at e
    have hz := opOk_sizes p
    have s1 : (⟨#[32]⟩ : ByteArray).size = 1 := rfl
    have s4 : (⟨#[112, 117, 116, 32]⟩ : ByteArray).size = 4 := rfl
    simp only [impl_OpText.f, e, Option.bind_some, if_true]
    by_cases c1 : a = 1
    · rw [if_pos c1, if_pos c1, if_pos (by omega)]
    · rw [if_neg c1, if_neg c1]
      by_cases c2 : a = 2
      · rw [if_pos c2, if_pos c2, if_pos (by omega), if_pos (by rw [ba_sizes]; omega), if_pos (by rw [ba_sizes, ba_sizes]; omega)]
      · rw [if_neg c2, if_neg c2, if_pos (by omega)]
theorem FnExactOpText : DFnExactOpText.Pure := by
  intro a b c ha hb hc
  obtain ⟨k, e1, e2⟩ := (evA (spec_OpText_ev a b c hb hc) (evP (impl_OpText_ev a b c hb hc))).ex
  refine ⟨k, ?_⟩
  simp only [laws_FnExactOpText.f, laws_toOp.f, Option.bind_some, e1, e2, laws_szOp.f]
  (repeat' split) <;> simp_all
end Go.Proofs.Ytmebfingnfhmlaa.Pure
