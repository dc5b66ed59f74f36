/- The program's TextOp and the reference's tell the same, for all texts. No condition. -/
import Derived.Test.YtmebfingnfhmlaaDFnExactTextOp
import Derived.Test.YtmebfingnfhmlaaLm
namespace Go.Proofs.Ytmebfingnfhmlaa.Pure
open Go.RowKit Go.Proofs.Ytmebfingnfhmlaa.QFnExactTextOp Go.Proofs.YtmebfingnfhmlaaW.PrintWords Go.Proofs.YtmebfingnfhmlaaW.PrintLast Go.Proofs.YtmebfingnfhmlaaW.PrintMore Go.Proofs.Ytmebfingnfhmlaa.Lm
set_option linter.unusedSimpArgs false
set_option linter.unusedVariables false
theorem spec_l10Clean_ev (s : ByteArray) (hs : s.size ≤ 9223372036854775807) : Ev (fun k => spec_l10Clean.f k s) (plain (bytesOf s)) := by
  have := Ev.scan (l := fun k (_ : Unit) i => spec_l10Clean.l0 k s i) s.size (fun _ _ => True) (fun i _ => plain ((bytesOf s).drop i)) ?_ ?_ 0 () (Nat.zero_le _) trivial
  · simpa [spec_l10Clean.f] using this
  · intro _ _
    exact Ev.some_ fun k => by simp only [spec_l10Clean.l0]; rw [if_neg (by omega)]; simp [plain, ← bytesOf_length]
  · intro i _ hi _
    have hd := drop_bt s i hi
    have hl : ∀ k, spec_l10Clean.l0 (k + 1) s (i : Int) = if bt s (i : Int) = 32 then some false else if bt s (i : Int) = 10 then some false else spec_l10Clean.l0 k s ((i + 1 : Nat) : Int) := fun k => by
      simp only [spec_l10Clean.l0]; rw [if_pos (by omega), if_pos (by omega), w64s hi hs]
    by_cases h1 : bt s (i : Int) = 32
    · exact .inl (Ev.some_ fun k => by simp only [hl]; rw [if_pos h1, hd, h1]; rfl)
    · by_cases h2 : bt s (i : Int) = 10
      · exact .inl (Ev.some_ fun k => by simp only [hl]; rw [if_neg h1, if_pos h2, hd, h2]; rfl)
      · exact .inr ⟨(), trivial, by rw [hd]; simp [plain, h1, h2], EvE.of fun k => by simp only [hl]; rw [if_neg h1, if_neg h2]⟩
theorem impl_isPlain_ev (s : ByteArray) (hs : s.size ≤ 9223372036854775807) : Ev (fun k => impl_isPlain.f k s) (plain (bytesOf s)) := by
  have := Ev.scan (l := fun k (_ : Unit) i => impl_isPlain.l0 k s i) s.size (fun _ _ => True) (fun i _ => plain ((bytesOf s).drop i)) ?_ ?_ 0 () (Nat.zero_le _) trivial
  · simpa [impl_isPlain.f] using this
  · intro _ _
    exact Ev.some_ fun k => by simp only [impl_isPlain.l0]; rw [if_neg (by omega)]; simp [plain, ← bytesOf_length]
  · intro i _ hi _
    have hd := drop_bt s i hi
    have hl : ∀ k, impl_isPlain.l0 (k + 1) s (i : Int) = if bt s (i : Int) = 32 then some false else if bt s (i : Int) = 10 then some false else impl_isPlain.l0 k s ((i + 1 : Nat) : Int) := fun k => by
      simp only [impl_isPlain.l0]; rw [if_pos (by omega), if_pos (by omega), w64s hi hs]
    by_cases h1 : bt s (i : Int) = 32
    · exact .inl (Ev.some_ fun k => by simp only [hl]; rw [if_pos h1, hd, h1]; rfl)
    · by_cases h2 : bt s (i : Int) = 10
      · exact .inl (Ev.some_ fun k => by simp only [hl]; rw [if_neg h1, if_pos h2, hd, h2]; rfl)
      · exact .inr ⟨(), trivial, by rw [hd]; simp [plain, h1, h2], EvE.of fun k => by simp only [hl]; rw [if_neg h1, if_neg h2]⟩
theorem spec_ItemOk_ev (a b : ByteArray) (f : Int) (ha : a.size ≤ 9223372036854775807) (hb : b.size ≤ 9223372036854775807) : Ev (fun k => spec_ItemOk.f k a b f) (itemOk a b f) := by
  obtain ⟨K1, h1⟩ := spec_l10Clean_ev a ha
  obtain ⟨K2, h2⟩ := spec_l10Clean_ev b hb
  refine ⟨max K1 K2, fun k hk => ?_⟩
  have e1 := h1 k (by omega)
  have e2 := h2 k (by omega)
  by_cases c1 : 1 ≤ (a.size : Int) <;> by_cases c2 : (a.size : Int) ≤ 20 <;> by_cases c3 : (b.size : Int) ≤ 40 <;> by_cases c4 : 0 ≤ f <;> by_cases c5 : f ≤ 3 <;> cases p1 : plain (bytesOf a) <;> cases p2 : plain (bytesOf b) <;>
    simp only [spec_ItemOk.f, spec_l01In.f, e1, e2, Option.bind_some, itemOk, ge_iff_le, c1, c2, c3, c4, c5, p1, p2, if_true, if_false, decide_true, decide_false, Bool.and_true, Bool.true_and, Bool.false_and, Bool.and_false, Bool.false_eq_true]
theorem impl_ItemOk_ev (a b : ByteArray) (f : Int) (ha : a.size ≤ 9223372036854775807) (hb : b.size ≤ 9223372036854775807) : Ev (fun k => impl_ItemOk.f k a b f) (itemOk a b f) := by
  obtain ⟨K1, h1⟩ := impl_isPlain_ev a ha
  obtain ⟨K2, h2⟩ := impl_isPlain_ev b hb
  refine ⟨max K1 K2, fun k hk => ?_⟩
  have e1 := h1 k (by omega)
  have e2 := h2 k (by omega)
  by_cases c1 : 1 ≤ (a.size : Int) <;> by_cases c2 : (a.size : Int) ≤ 20 <;> by_cases c3 : (b.size : Int) ≤ 40 <;> by_cases c4 : 0 ≤ f <;> by_cases c5 : f ≤ 3 <;> cases p1 : plain (bytesOf a) <;> cases p2 : plain (bytesOf b) <;>
    simp only [impl_ItemOk.f, impl_within.f, e1, e2, Option.bind_some, itemOk, ge_iff_le, c1, c2, c3, c4, c5, p1, p2, if_true, if_false, decide_true, decide_false, Bool.and_true, Bool.true_and, Bool.false_and, Bool.and_false, Bool.false_eq_true]
theorem spec_OpOk_ev (a : Int) (b c : ByteArray) (hb : b.size ≤ 9223372036854775807) (hc : c.size ≤ 9223372036854775807) : Ev (fun k => spec_OpOk.f k a b c) (opOk a b c) := by
  refine (evP (spec_ItemOk_ev b c 0 hb hc)).ev fun k e1 => ?_
  by_cases c1 : 1 ≤ a <;> by_cases c2 : a ≤ 3 <;> cases p1 : itemOk b c 0 <;> rw [p1] at e1 <;>
    simp only [spec_OpOk.f, e1, Option.bind_some, opOk, ge_iff_le, c1, c2, p1, eq_self, if_true, if_false, decide_true, decide_false, Bool.and_true, Bool.true_and, Bool.false_and, Bool.and_false, Bool.false_eq_true, Bool.true_or, Bool.false_or] <;> (try (split <;> simp_all))
theorem impl_OpOk_ev (a : Int) (b c : ByteArray) (hb : b.size ≤ 9223372036854775807) (hc : c.size ≤ 9223372036854775807) : Ev (fun k => impl_OpOk.f k a b c) (opOk a b c) := by
  refine (evP (impl_ItemOk_ev b c 0 hb hc)).ev fun k e1 => ?_
  by_cases c1 : 1 ≤ a <;> by_cases c2 : a ≤ 3 <;> cases p1 : itemOk b c 0 <;> rw [p1] at e1 <;>
    simp only [impl_OpOk.f, impl_within.f, e1, Option.bind_some, opOk, ge_iff_le, c1, c2, p1, eq_self, if_true, if_false, decide_true, decide_false, Bool.and_true, Bool.true_and, Bool.false_and, Bool.and_false, Bool.false_eq_true, Bool.true_or, Bool.false_or] <;> (try (split <;> simp_all))
theorem spec_OpText_ev (a : Int) (b c : ByteArray) (hb : b.size ≤ 9223372036854775807) (hc : c.size ≤ 9223372036854775807) : Ev (fun k => spec_OpText.f k a b c) (opText a b c) := by
  refine (evP (spec_OpOk_ev a b c hb hc)).ev fun k e => ?_
  unfold opText
  cases p : opOk a b c with
  | false => rw [p] at e; simp only [spec_OpText.f, e, Option.bind_some, Bool.false_eq_true, if_false]
  | true =>
    rw [p] at e
    have hz := opOk_sizes p
    have s1 : (⟨#[32]⟩ : ByteArray).size = 1 := rfl
    have s4 : (⟨#[112, 117, 116, 32]⟩ : ByteArray).size = 4 := rfl
    simp only [spec_OpText.f, e, Option.bind_some, if_true]
    by_cases c1 : a = 1
    · rw [if_pos c1, if_pos c1, if_pos (by omega)]
    · rw [if_neg c1, if_neg c1]
      by_cases c2 : a = 2
      · rw [if_pos c2, if_pos c2, if_pos (by omega), if_pos (by rw [ba_sizes]; omega), if_pos (by rw [ba_sizes, ba_sizes]; omega)]
      · rw [if_neg c2, if_neg c2, if_pos (by omega)]
theorem impl_OpText_ev (a : Int) (b c : ByteArray) (hb : b.size ≤ 9223372036854775807) (hc : c.size ≤ 9223372036854775807) : Ev (fun k => impl_OpText.f k a b c) (opText a b c) := by
  refine (evP (impl_OpOk_ev a b c hb hc)).ev fun k e => ?_
  unfold opText
  cases p : opOk a b c with
  | false => rw [p] at e; simp only [impl_OpText.f, e, Option.bind_some, Bool.false_eq_true, if_false]
  | true =>
    rw [p] at e
    have hz := opOk_sizes p
    have s1 : (⟨#[32]⟩ : ByteArray).size = 1 := rfl
    have s4 : (⟨#[112, 117, 116, 32]⟩ : ByteArray).size = 4 := rfl
    simp only [impl_OpText.f, e, Option.bind_some, if_true]
    by_cases c1 : a = 1
    · rw [if_pos c1, if_pos c1, if_pos (by omega)]
    · rw [if_neg c1, if_neg c1]
      by_cases c2 : a = 2
      · rw [if_pos c2, if_pos c2, if_pos (by omega), if_pos (by rw [ba_sizes]; omega), if_pos (by rw [ba_sizes, ba_sizes]; omega)]
      · rw [if_neg c2, if_neg c2, if_pos (by omega)]
theorem cut_same : ∀ k a b c d e, spec_l01Cut.l0 k a b c d e = impl_split.l0 k a b c d e := by
  intro k
  induction k with
  | zero => intros; rfl
  | succ k ih => intro a b c d e; simp only [spec_l01Cut.l0, impl_split.l0, ih]
theorem cut_ev (s : ByteArray) (hs : s.size ≤ 1048576) : ∃ w, CutOf s w ∧ Ev (fun k => impl_Cut.f k s) w ∧ Ev (fun k => spec_Cut.f k s) w := by
  have key := Ev.scanX (fun k (a : List ByteArray × Nat) i => impl_split.l0 k s 32 a.1 (a.2 : Int) i) s.size
    (fun i a => a.2 ≤ i ∧ a.1.length ≤ i ∧ (∀ x ∈ a.1, x.size ≤ s.size) ∧ (a.1 = [] ∧ a.2 = 0 ∨ a.1 ≠ [] ∧ glue a.1 ++ (⟨#[32]⟩ : ByteArray) = s.extract 0 a.2)) (fun w => CutOf s w)
    (fun a ⟨h1, h2, h3, h4⟩ => ⟨a.1 ++ [s.extract a.2 s.size], ⟨?_, by simp, by simp; omega, ?_⟩, Ev.some_ fun k => by
        simp only [impl_split.l0, Int.toNat_natCast]; rw [if_neg (by omega), if_pos (by omega), if_pos (by omega), if_pos (by omega)]⟩)
    (fun i a hi ⟨h1, h2, h3, h4⟩ => ?_) 0 ([], 0) (Nat.zero_le _) ⟨Nat.le_refl _, Nat.zero_le _, by simp, .inl ⟨rfl, rfl⟩⟩
  · obtain ⟨w, hw, he⟩ := key
    refine ⟨w, hw, ?_, ?_⟩
    · exact (evP he).ev fun k e => by simp only [impl_Cut.f, impl_split.f]; rw [show impl_split.l0 k s 32 [] 0 0 = some w from e]; rfl
    · exact (evP he).ev fun k e => by simp only [spec_Cut.f, spec_l01Cut.f]; rw [cut_same, show impl_split.l0 k s 32 [] 0 0 = some w from e]; rfl
  · rcases h4 with ⟨e1, e2⟩ | ⟨e1, e2⟩
    · rw [e1, e2]; simp only [List.nil_append, glue, gluing, ba_nil]; exact ByteArray.extract_zero_size
    · rw [glue_snoc _ _ e1, e2, ByteArray.extract_append_extract]; rw [Nat.min_eq_left (Nat.zero_le _), Nat.max_eq_right h1]; exact ByteArray.extract_zero_size
  · intro x hx
    rcases List.mem_append.1 hx with h | h
    · exact h3 x h
    · rw [List.mem_singleton.1 h, ByteArray.size_extract]; omega
  · by_cases c : bt s (i : Int) = 32
    · refine .inr ⟨(a.1 ++ [s.extract a.2 i], i + 1), ⟨Nat.le_refl _, by simp; omega, ?_, .inr ⟨by simp, ?_⟩⟩, EvE.of fun k => ?_⟩
      · intro x hx
        rcases List.mem_append.1 hx with h | h
        · exact h3 x h
        · rw [List.mem_singleton.1 h, ByteArray.size_extract]; omega
      · rw [← bt_32 s i hi c]
        rcases h4 with ⟨e1, e2⟩ | ⟨e1, e2⟩
        · rw [e1, e2]; simp only [List.nil_append, glue, gluing, ba_nil]; rw [ByteArray.extract_append_extract, Nat.min_eq_left (by omega), Nat.max_eq_right (by omega)]
        · rw [glue_snoc _ _ e1, e2, ByteArray.extract_append_extract, Nat.min_eq_left (by omega), Nat.max_eq_right h1, ByteArray.extract_append_extract, Nat.min_eq_left (by omega), Nat.max_eq_right (by omega)]
      · simp only [impl_split.l0, Int.toNat_natCast]
        rw [if_pos (by omega), if_pos (by omega), if_pos c, if_pos (by omega), if_pos (by omega), if_pos (by omega), if_pos (by omega), w64s hi (by omega)]
    · exact .inr ⟨a, ⟨by omega, by omega, h3, h4⟩, EvE.of fun k => by simp only [impl_split.l0]; rw [if_pos (by omega), if_pos (by omega), if_neg c, w64s hi (by omega)]⟩
theorem eq_self_op (a : Int) (b c : ByteArray) : laws_eqOp.f a b c a b c = some true := by simp [laws_eqOp.f]
theorem getText : (⟨#[103, 101, 116, 32]⟩ : ByteArray) = (⟨#[103, 101, 116]⟩ : ByteArray) ++ (⟨#[32]⟩ : ByteArray) := by decide +kernel
theorem of_toList {a b : ByteArray} {l : List UInt8} (h : a.toList = l) (hb : b.toList = l) : a = b := toList_inj.1 (h.trans hb.symm)
theorem tl_get : (⟨#[103, 101, 116]⟩ : ByteArray).toList = [103, 101, 116] := by decide +kernel
theorem tl_put : (⟨#[112, 117, 116]⟩ : ByteArray).toList = [112, 117, 116] := by decide +kernel
theorem tl_drop : (⟨#[100, 114, 111, 112]⟩ : ByteArray).toList = [100, 114, 111, 112] := by decide +kernel
theorem tl_nil : (⟨#[]⟩ : ByteArray).toList = [] := by decide +kernel
/-- What TextOp tells of a text cut into w. -/
def textOp (s : ByteArray) (w : List ByteArray) : Int × ByteArray × ByteArray × Bool :=
  let no : Int × ByteArray × ByteArray × Bool := (0, (⟨#[]⟩ : ByteArray), (⟨#[]⟩ : ByteArray), false)
  match w with
  | [a, b] => if a.toList = [103, 101, 116] ∧ opText 1 b (⟨#[]⟩ : ByteArray) = s ∧ s.toList ≠ [] then (1, b, (⟨#[]⟩ : ByteArray), true)
      else if a.toList = [100, 114, 111, 112] ∧ opText 3 b (⟨#[]⟩ : ByteArray) = s ∧ s.toList ≠ [] then (3, b, (⟨#[]⟩ : ByteArray), true) else no
  | [a, b, c] => if a.toList = [112, 117, 116] ∧ opText 2 b c = s ∧ s.toList ≠ [] then (2, b, c, true) else no
  | _ => no
theorem opText_ne {a : Int} {b c s : ByteArray} (h : opText a b c = s) (hs : s.toList ≠ []) : opOk a b c = true := by
  unfold opText at h
  cases p : opOk a b c with
  | true => rfl
  | false => rw [p] at h; simp only [Bool.false_eq_true, if_false] at h; rw [← h] at hs; exact absurd tl_nil hs
theorem opText_nil {a : Int} {b c : ByteArray} (h : opOk a b c = true) : (opText a b c).toList ≠ [] := by
  intro e
  have : opText a b c = (⟨#[]⟩ : ByteArray) := of_toList e tl_nil
  have hz := opOk_sizes h
  have s0 : (⟨#[]⟩ : ByteArray).size = 0 := rfl
  unfold opText at this
  rw [h, if_pos rfl] at this
  split at this
  · have := congrArg ByteArray.size this; rw [ba_sizes] at this; omega
  · split at this
    · have := congrArg ByteArray.size this; rw [ba_sizes, ba_sizes, ba_sizes] at this; omega
    · have := congrArg ByteArray.size this; rw [ba_sizes] at this; omega
theorem j2_ev (s : ByteArray) (a : Int) (b c : ByteArray) (hb : b.size ≤ 9223372036854775807) (hc : c.size ≤ 9223372036854775807) : Ev (fun k => impl_TextOp.j2 k s a b c) (if opText a b c = s ∧ s.toList ≠ [] then (a, b, c, true) else (0, (⟨#[]⟩ : ByteArray), (⟨#[]⟩ : ByteArray), false)) := by
  refine Ev.up (g := fun _ => some _) ((evA (impl_OpOk_ev a b c hb hc) (evP (impl_OpText_ev a b c hb hc))).eve fun k ⟨e1, e2⟩ => ?_) (Ev.now _)
  simp only [impl_TextOp.j2, e1, e2, Option.bind_some, toList_inj]
  cases p : opOk a b c with
  | true =>
    simp only [if_true]
    by_cases c1 : opText a b c = s
    · rw [if_pos c1, if_pos ⟨c1, c1 ▸ opText_nil p⟩]
    · rw [if_neg c1, if_neg (fun h => c1 h.1)]
  | false =>
    simp only [Bool.false_eq_true, if_false]
    rw [if_neg]
    intro ⟨h1, h2⟩
    rw [opText_ne h1 h2] at p; cases p
theorem no_op (s b c : ByteArray) (a : Int) (h : a < 1) : (if opText a b c = s ∧ s.toList ≠ [] then (a, b, c, true) else ((0 : Int), (⟨#[]⟩ : ByteArray), (⟨#[]⟩ : ByteArray), false)) = (0, (⟨#[]⟩ : ByteArray), (⟨#[]⟩ : ByteArray), false) := by
  rw [if_neg]; intro ⟨h1, h2⟩
  have := opOk_sizes (opText_ne h1 h2); omega
theorem no_key (s c : ByteArray) (a : Int) : ¬ (opText a (⟨#[]⟩ : ByteArray) c = s ∧ s.toList ≠ []) := by
  intro ⟨h1, h2⟩
  have := opOk_sizes (opText_ne h1 h2)
  have s0 : (⟨#[]⟩ : ByteArray).size = 0 := rfl
  omega
theorem impl_TextOp_ev (s : ByteArray) (hs : s.size ≤ 1048576) (w : List ByteArray) (hw : CutOf s w) (hi : Ev (fun k => impl_Cut.f k s) w) : Ev (fun k => impl_TextOp.f k s) (textOp s w) := by
  obtain ⟨hg, hne, hlen, hsz⟩ := hw
  have z0 : (⟨#[]⟩ : ByteArray).size ≤ 9223372036854775807 := by show 0 ≤ _; omega
  have jn := j2_ev s 0 (⟨#[]⟩ : ByteArray) (⟨#[]⟩ : ByteArray) z0 z0
  rw [no_op _ _ _ _ (by omega)] at jn
  have dg : ¬ ([112, 117, 116] : List UInt8) = [103, 101, 116] := by decide
  have dd : ¬ ([100, 114, 111, 112] : List UInt8) = [103, 101, 116] := by decide
  have dp : ¬ ([100, 114, 111, 112] : List UInt8) = [112, 117, 116] := by decide
  match w, hne with
  | [a], _ =>
    have j1 : Ev (fun k => impl_TextOp.j1 k s [a] false 0 (⟨#[]⟩ : ByteArray) (⟨#[]⟩ : ByteArray)) (textOp s [a]) := by
      refine Ev.up (EvE.of fun k => ?_) jn
      simp only [impl_TextOp.j1, Bool.false_eq_true, if_false, List.length_singleton]
      rw [if_pos (by omega)]; split <;> first | rfl | (rw [if_neg (by omega)])
    have j0 : Ev (fun k => impl_TextOp.j0 k s [a] false 0 (⟨#[]⟩ : ByteArray) (⟨#[]⟩ : ByteArray)) (textOp s [a]) := by
      refine Ev.up (EvE.of fun k => ?_) j1
      simp only [impl_TextOp.j0, Bool.false_eq_true, if_false, List.length_singleton]
      rw [if_pos (by omega), show (((1 : Nat) : Int) == 3) = false by decide]; split <;> rfl
    refine (evA hi (evP j0)).ev fun k ⟨e1, e2⟩ => ?_
    simp only [impl_TextOp.f, e1, Option.bind_some, List.length_singleton]
    rw [if_pos (by omega), show (((1 : Nat) : Int) == 2) = false by decide, e2]; split <;> rfl
  | [a, b], _ =>
    have hbs : b.size ≤ 9223372036854775807 := by have := hsz b (by simp); omega
    have r0 : rdOf ByteArray.empty [a, b] 0 = a := rfl
    have r1 : rdOf ByteArray.empty [a, b] 1 = b := rfl
    have l2 : (([a, b] : List ByteArray).length : Int) = 2 := rfl
    by_cases c1 : a.toList = ([103, 101, 116] : List UInt8)
    · have h2 := j2_ev s 1 b (⟨#[]⟩ : ByteArray) hbs z0
      have et : textOp s [a, b] = (if opText 1 b (⟨#[]⟩ : ByteArray) = s ∧ s.toList ≠ [] then (1, b, (⟨#[]⟩ : ByteArray), true) else (0, (⟨#[]⟩ : ByteArray), (⟨#[]⟩ : ByteArray), false)) := by
        simp only [textOp, c1, true_and]; rw [if_neg (c := _ ∧ _ ∧ _) (fun h => absurd h.1.symm dd)]
      rw [et]
      have j0 : Ev (fun k => impl_TextOp.j0 k s [a, b] true 0 (⟨#[]⟩ : ByteArray) (⟨#[]⟩ : ByteArray)) _ := Ev.up (EvE.of fun k => by simp only [impl_TextOp.j0, if_true, l2, r1]; rw [if_pos (by omega)]) h2
      refine (evA hi (evP j0)).ev fun k ⟨e1, e2⟩ => ?_
      simp only [impl_TextOp.f, e1, Option.bind_some, l2, r0]
      rw [if_pos (by omega), if_pos c1]; exact e2
    · by_cases c3 : a.toList = ([100, 114, 111, 112] : List UInt8)
      · have h2 := j2_ev s 3 b (⟨#[]⟩ : ByteArray) hbs z0
        have et : textOp s [a, b] = (if opText 3 b (⟨#[]⟩ : ByteArray) = s ∧ s.toList ≠ [] then (3, b, (⟨#[]⟩ : ByteArray), true) else (0, (⟨#[]⟩ : ByteArray), (⟨#[]⟩ : ByteArray), false)) := by
          simp only [textOp]; rw [if_neg (fun h => c1 h.1)]; simp only [c3, true_and]
        rw [et]
        have j1 : Ev (fun k => impl_TextOp.j1 k s [a, b] false 0 (⟨#[]⟩ : ByteArray) (⟨#[]⟩ : ByteArray)) _ := Ev.up (EvE.of fun k => by simp only [impl_TextOp.j1, Bool.false_eq_true, if_false, l2, r0, r1]; rw [if_pos (by omega), if_pos c3, if_pos trivial, if_pos (by omega)]) h2
        have j0 : Ev (fun k => impl_TextOp.j0 k s [a, b] false 0 (⟨#[]⟩ : ByteArray) (⟨#[]⟩ : ByteArray)) _ := Ev.up (EvE.of fun k => by simp only [impl_TextOp.j0, Bool.false_eq_true, if_false, l2, r0]; rw [if_pos (by omega), if_neg (by rw [c3]; exact dp)]) j1
        refine (evA hi (evP j0)).ev fun k ⟨e1, e2⟩ => ?_
        simp only [impl_TextOp.f, e1, Option.bind_some, l2, r0]
        rw [if_pos (by omega), if_neg c1]; exact e2
      · have et : textOp s [a, b] = (0, (⟨#[]⟩ : ByteArray), (⟨#[]⟩ : ByteArray), false) := by
          simp only [textOp]; rw [if_neg (fun h => c1 h.1), if_neg (fun h => c3 h.1)]
        rw [et]
        have j1 : Ev (fun k => impl_TextOp.j1 k s [a, b] false 0 (⟨#[]⟩ : ByteArray) (⟨#[]⟩ : ByteArray)) _ := Ev.up (EvE.of fun k => by simp only [impl_TextOp.j1, Bool.false_eq_true, if_false, l2, r0]; rw [if_pos (by omega), if_neg c3]) jn
        have j0 : Ev (fun k => impl_TextOp.j0 k s [a, b] false 0 (⟨#[]⟩ : ByteArray) (⟨#[]⟩ : ByteArray)) _ := Ev.up (EvE.of fun k => by
          simp only [impl_TextOp.j0, Bool.false_eq_true, if_false, l2, r0, show ((2 : Int) == 3) = false by decide, ite_self]; rw [if_pos (by omega)]) j1
        refine (evA hi (evP j0)).ev fun k ⟨e1, e2⟩ => ?_
        simp only [impl_TextOp.f, e1, Option.bind_some, l2, r0]
        rw [if_pos (by omega), if_neg c1]; exact e2
  | [a, b, c], _ =>
    have hbs : b.size ≤ 9223372036854775807 := by have := hsz b (by simp); omega
    have hcs : c.size ≤ 9223372036854775807 := by have := hsz c (by simp); omega
    have r0 : rdOf ByteArray.empty [a, b, c] 0 = a := rfl
    have r1 : rdOf ByteArray.empty [a, b, c] 1 = b := rfl
    have r2 : rdOf ByteArray.empty [a, b, c] 2 = c := rfl
    have l3 : (([a, b, c] : List ByteArray).length : Int) = 3 := rfl
    by_cases c1 : a.toList = ([112, 117, 116] : List UInt8)
    · have h2 := j2_ev s 2 b c hbs hcs
      have et : textOp s [a, b, c] = (if opText 2 b c = s ∧ s.toList ≠ [] then (2, b, c, true) else (0, (⟨#[]⟩ : ByteArray), (⟨#[]⟩ : ByteArray), false)) := by simp only [textOp, c1, true_and]
      rw [et]
      have j1 : Ev (fun k => impl_TextOp.j1 k s [a, b, c] true 0 (⟨#[]⟩ : ByteArray) (⟨#[]⟩ : ByteArray)) _ := Ev.up (EvE.of fun k => by simp only [impl_TextOp.j1, if_true, l3, r1, r2]; rw [if_pos (by omega), if_pos (by omega)]) h2
      have j0 : Ev (fun k => impl_TextOp.j0 k s [a, b, c] false 0 (⟨#[]⟩ : ByteArray) (⟨#[]⟩ : ByteArray)) _ := Ev.up (EvE.of fun k => by simp only [impl_TextOp.j0, Bool.false_eq_true, if_false, l3, r0]; rw [if_pos (by omega), if_pos c1]; rfl) j1
      refine (evA hi (evP j0)).ev fun k ⟨e1, e2⟩ => ?_
      simp only [impl_TextOp.f, e1, Option.bind_some, l3, r0]
      rw [if_pos (by omega), if_neg (by rw [c1]; exact dg)]; exact e2
    · have et : textOp s [a, b, c] = (0, (⟨#[]⟩ : ByteArray), (⟨#[]⟩ : ByteArray), false) := by simp only [textOp]; rw [if_neg (fun h => c1 h.1)]
      rw [et]
      have j1 : Ev (fun k => impl_TextOp.j1 k s [a, b, c] false 0 (⟨#[]⟩ : ByteArray) (⟨#[]⟩ : ByteArray)) _ := Ev.up (EvE.of fun k => by
        simp only [impl_TextOp.j1, Bool.false_eq_true, if_false, l3, r0, show ¬ (3 : Int) = 2 by decide, ite_self]; rw [if_pos (by omega)]) jn
      have j0 : Ev (fun k => impl_TextOp.j0 k s [a, b, c] false 0 (⟨#[]⟩ : ByteArray) (⟨#[]⟩ : ByteArray)) _ := Ev.up (EvE.of fun k => by simp only [impl_TextOp.j0, Bool.false_eq_true, if_false, l3, r0]; rw [if_pos (by omega), if_neg c1]) j1
      refine (evA hi (evP j0)).ev fun k ⟨e1, e2⟩ => ?_
      simp only [impl_TextOp.f, e1, Option.bind_some, l3, r0, show ((3 : Int) == 2) = false by decide, ite_self]
      rw [if_pos (by omega)]; exact e2
  | a :: b :: c :: d :: r, _ =>
    have l4 : (((a :: b :: c :: d :: r : List ByteArray)).length : Int) = (r.length : Int) + 4 := by simp only [List.length_cons]; omega
    have n2 : (((r.length : Int) + 4) == 2) = false := by rw [beq_eq_false_iff_ne]; omega
    have n3 : (((r.length : Int) + 4) == 3) = false := by rw [beq_eq_false_iff_ne]; omega
    have n2' : ((r.length : Int) + 4 = 2) = False := eq_false (by omega)
    have j1 : Ev (fun k => impl_TextOp.j1 k s (a :: b :: c :: d :: r) false 0 (⟨#[]⟩ : ByteArray) (⟨#[]⟩ : ByteArray)) (textOp s (a :: b :: c :: d :: r)) := by
      refine Ev.up (EvE.of fun k => ?_) jn
      simp only [impl_TextOp.j1, Bool.false_eq_true, if_false, l4, n2', ite_self]; rw [if_pos (by omega)]
    have j0 : Ev (fun k => impl_TextOp.j0 k s (a :: b :: c :: d :: r) false 0 (⟨#[]⟩ : ByteArray) (⟨#[]⟩ : ByteArray)) (textOp s (a :: b :: c :: d :: r)) := by
      refine Ev.up (EvE.of fun k => ?_) j1
      simp only [impl_TextOp.j0, Bool.false_eq_true, if_false, l4, n3, ite_self]; rw [if_pos (by omega)]
    refine (evA hi (evP j0)).ev fun k ⟨e1, e2⟩ => ?_
    simp only [impl_TextOp.f, e1, Option.bind_some, l4, n2, ite_self]
    rw [if_pos (by omega)]; exact e2
theorem spec_word (s : ByteArray) (b c : ByteArray) (a : Int) (hb : b.size ≤ 9223372036854775807) (hc : c.size ≤ 9223372036854775807) : Ev (fun k => if s.toList = ([] : List UInt8) then (some ((0 : Int), (⟨#[]⟩ : ByteArray), (⟨#[]⟩ : ByteArray), false)) else ((spec_OpText.f k a b c).bind fun t => (if t.toList = s.toList then (some (a, b, c, true)) else (some (0, (⟨#[]⟩ : ByteArray), (⟨#[]⟩ : ByteArray), false)))))
    (if opText a b c = s ∧ s.toList ≠ [] then (a, b, c, true) else (0, (⟨#[]⟩ : ByteArray), (⟨#[]⟩ : ByteArray), false)) := by
  refine (evP (spec_OpText_ev a b c hb hc)).ev fun k e => ?_
  simp only [e, Option.bind_some, toList_inj]
  by_cases c0 : s.toList = ([] : List UInt8)
  · rw [if_pos c0, if_neg (fun h => h.2 c0)]
  · rw [if_neg c0]
    by_cases c1 : opText a b c = s
    · rw [if_pos c1, if_pos ⟨c1, c0⟩]
    · rw [if_neg c1, if_neg (fun h => c1 h.1)]
theorem glue_size_cons (x : ByteArray) (r : List ByteArray) : (glue (x :: r)).size = x.size + (gluing r).size := by simp only [glue, ba_sizes]
theorem gluing_size_cons (x : ByteArray) (r : List ByteArray) : (gluing (x :: r)).size = 1 + x.size + (gluing r).size := by simp only [gluing, ba_sizes]; rfl
theorem spec_rest (s : ByteArray) (w : List ByteArray) (hw : CutOf s w) : (if (rdOf ByteArray.empty (w ++ [(⟨#[]⟩ : ByteArray), (⟨#[]⟩ : ByteArray)]) 0).toList = ([103, 101, 116] : List UInt8) then (if opText 1 (rdOf ByteArray.empty (w ++ [(⟨#[]⟩ : ByteArray), (⟨#[]⟩ : ByteArray)]) 1) (⟨#[]⟩ : ByteArray) = s ∧ s.toList ≠ [] then (1, rdOf ByteArray.empty (w ++ [(⟨#[]⟩ : ByteArray), (⟨#[]⟩ : ByteArray)]) 1, (⟨#[]⟩ : ByteArray), true) else ((0 : Int), (⟨#[]⟩ : ByteArray), (⟨#[]⟩ : ByteArray), false))
    else if (rdOf ByteArray.empty (w ++ [(⟨#[]⟩ : ByteArray), (⟨#[]⟩ : ByteArray)]) 0).toList = ([112, 117, 116] : List UInt8) then (if opText 2 (rdOf ByteArray.empty (w ++ [(⟨#[]⟩ : ByteArray), (⟨#[]⟩ : ByteArray)]) 1) (rdOf ByteArray.empty (w ++ [(⟨#[]⟩ : ByteArray), (⟨#[]⟩ : ByteArray)]) 2) = s ∧ s.toList ≠ [] then (2, rdOf ByteArray.empty (w ++ [(⟨#[]⟩ : ByteArray), (⟨#[]⟩ : ByteArray)]) 1, rdOf ByteArray.empty (w ++ [(⟨#[]⟩ : ByteArray), (⟨#[]⟩ : ByteArray)]) 2, true) else ((0 : Int), (⟨#[]⟩ : ByteArray), (⟨#[]⟩ : ByteArray), false))
    else if (rdOf ByteArray.empty (w ++ [(⟨#[]⟩ : ByteArray), (⟨#[]⟩ : ByteArray)]) 0).toList = ([100, 114, 111, 112] : List UInt8) then (if opText 3 (rdOf ByteArray.empty (w ++ [(⟨#[]⟩ : ByteArray), (⟨#[]⟩ : ByteArray)]) 1) (⟨#[]⟩ : ByteArray) = s ∧ s.toList ≠ [] then (3, rdOf ByteArray.empty (w ++ [(⟨#[]⟩ : ByteArray), (⟨#[]⟩ : ByteArray)]) 1, (⟨#[]⟩ : ByteArray), true) else ((0 : Int), (⟨#[]⟩ : ByteArray), (⟨#[]⟩ : ByteArray), false))
    else ((0 : Int), (⟨#[]⟩ : ByteArray), (⟨#[]⟩ : ByteArray), false)) = textOp s w := by
  obtain ⟨hg, hne, hlen, hsz⟩ := hw
  have dg : ¬ ([112, 117, 116] : List UInt8) = [103, 101, 116] := by decide
  have dd : ¬ ([100, 114, 111, 112] : List UInt8) = [103, 101, 116] := by decide
  have dp : ¬ ([100, 114, 111, 112] : List UInt8) = [112, 117, 116] := by decide
  have sg : (⟨#[103, 101, 116, 32]⟩ : ByteArray).size = 4 := rfl
  have sp : (⟨#[112, 117, 116, 32]⟩ : ByteArray).size = 4 := rfl
  have sd : (⟨#[100, 114, 111, 112, 32]⟩ : ByteArray).size = 5 := rfl
  have s1 : (⟨#[32]⟩ : ByteArray).size = 1 := rfl
  have g3 : (⟨#[103, 101, 116]⟩ : ByteArray).size = 3 := rfl
  have p3 : (⟨#[112, 117, 116]⟩ : ByteArray).size = 3 := rfl
  have d4 : (⟨#[100, 114, 111, 112]⟩ : ByteArray).size = 4 := rfl
  have g0 : (gluing []).size = 0 := rfl
  have hh := congrArg ByteArray.size hg
  match w, hne with
  | [a], _ =>
    simp only [List.cons_append, List.nil_append, show rdOf ByteArray.empty [a, (⟨#[]⟩ : ByteArray), (⟨#[]⟩ : ByteArray)] 1 = (⟨#[]⟩ : ByteArray) from rfl, textOp, no_key, if_false, ite_self]
  | [a, b], _ =>
    simp only [List.cons_append, List.nil_append, show rdOf ByteArray.empty [a, b, (⟨#[]⟩ : ByteArray), (⟨#[]⟩ : ByteArray)] 0 = a from rfl, show rdOf ByteArray.empty [a, b, (⟨#[]⟩ : ByteArray), (⟨#[]⟩ : ByteArray)] 1 = b from rfl, show rdOf ByteArray.empty [a, b, (⟨#[]⟩ : ByteArray), (⟨#[]⟩ : ByteArray)] 2 = (⟨#[]⟩ : ByteArray) from rfl, textOp]
    by_cases c1 : a.toList = ([103, 101, 116] : List UInt8)
    · rw [if_pos c1]; simp only [c1, true_and]; rw [if_neg (c := _ ∧ _ ∧ _) (fun h => absurd h.1.symm dd)]
    · rw [if_neg c1, if_neg (c := _ ∧ _ ∧ _) (fun h => c1 h.1)]
      by_cases c2 : a.toList = ([112, 117, 116] : List UInt8)
      · rw [if_pos c2, if_neg (c := _ ∧ _ ∧ _) (fun h => dp (h.1.symm.trans c2)), if_neg]
        intro ⟨h1, h2⟩
        have hok := opText_ne h1 h2
        obtain rfl : a = (⟨#[112, 117, 116]⟩ : ByteArray) := of_toList c2 tl_put
        have hz := congrArg ByteArray.size h1
        unfold opText at hz
        rw [hok, if_pos rfl, if_neg (by decide), if_pos rfl, ba_sizes, ba_sizes, ba_sizes] at hz
        rw [glue_size_cons, gluing_size_cons] at hh
        have s0 : (⟨#[]⟩ : ByteArray).size = 0 := rfl
        omega
      · rw [if_neg c2]
        by_cases c3 : a.toList = ([100, 114, 111, 112] : List UInt8)
        · rw [if_pos c3]; simp only [c3, true_and]
        · rw [if_neg c3, if_neg (c := _ ∧ _ ∧ _) (fun h => c3 h.1)]
  | a :: b :: c :: r, _ =>
    simp only [List.cons_append, show rdOf ByteArray.empty (a :: b :: c :: (r ++ [(⟨#[]⟩ : ByteArray), (⟨#[]⟩ : ByteArray)])) 0 = a from rfl, show rdOf ByteArray.empty (a :: b :: c :: (r ++ [(⟨#[]⟩ : ByteArray), (⟨#[]⟩ : ByteArray)])) 1 = b from rfl, show rdOf ByteArray.empty (a :: b :: c :: (r ++ [(⟨#[]⟩ : ByteArray), (⟨#[]⟩ : ByteArray)])) 2 = c from rfl]
    rw [glue_size_cons, gluing_size_cons, gluing_size_cons] at hh
    have ng : a.toList = ([103, 101, 116] : List UInt8) → ¬ (opText 1 b (⟨#[]⟩ : ByteArray) = s ∧ s.toList ≠ []) := by
      intro c1 ⟨h1, h2⟩
      have hok := opText_ne h1 h2
      obtain rfl : a = (⟨#[103, 101, 116]⟩ : ByteArray) := of_toList c1 tl_get
      have hz := congrArg ByteArray.size h1
      unfold opText at hz
      rw [hok, if_pos rfl, if_pos rfl, ba_sizes] at hz
      omega
    have nd : a.toList = ([100, 114, 111, 112] : List UInt8) → ¬ (opText 3 b (⟨#[]⟩ : ByteArray) = s ∧ s.toList ≠ []) := by
      intro c1 ⟨h1, h2⟩
      have hok := opText_ne h1 h2
      obtain rfl : a = (⟨#[100, 114, 111, 112]⟩ : ByteArray) := of_toList c1 tl_drop
      have hz := congrArg ByteArray.size h1
      unfold opText at hz
      rw [hok, if_pos rfl, if_neg (by decide), if_neg (by decide), ba_sizes] at hz
      omega
    by_cases c1 : a.toList = ([103, 101, 116] : List UInt8)
    · rw [if_pos c1, if_neg (ng c1)]
      cases r with
      | nil => simp only [textOp]; rw [if_neg (fun h => dg (h.1.symm.trans c1))]
      | cons d r => rfl
    · rw [if_neg c1]
      by_cases c2 : a.toList = ([112, 117, 116] : List UInt8)
      · rw [if_pos c2]
        cases r with
        | nil => simp only [textOp, c2, true_and]
        | cons d r =>
          rw [if_neg]; rfl
          intro ⟨h1, h2⟩
          have hok := opText_ne h1 h2
          obtain rfl : a = (⟨#[112, 117, 116]⟩ : ByteArray) := of_toList c2 tl_put
          have hz := congrArg ByteArray.size h1
          unfold opText at hz
          rw [hok, if_pos rfl, if_neg (by decide), if_pos rfl, ba_sizes, ba_sizes, ba_sizes] at hz
          rw [gluing_size_cons] at hh
          omega
      · rw [if_neg c2]
        have hno : textOp s (a :: b :: c :: r) = (0, (⟨#[]⟩ : ByteArray), (⟨#[]⟩ : ByteArray), false) := by
          cases r with
          | nil => simp only [textOp]; rw [if_neg (fun h => c2 h.1)]
          | cons d r => rfl
        rw [hno]
        by_cases c3 : a.toList = ([100, 114, 111, 112] : List UInt8)
        · rw [if_pos c3, if_neg (nd c3)]
        · rw [if_neg c3]
theorem spec_TextOp_ev (s : ByteArray) (hs : s.size ≤ 1048576) (w : List ByteArray) (hw : CutOf s w) (hi : Ev (fun k => spec_Cut.f k s) w) : Ev (fun k => spec_TextOp.f k s) (textOp s w) := by
  rw [← spec_rest s w hw]
  obtain ⟨hg, hne, hlen, hsz⟩ := hw
  have z0 : (⟨#[]⟩ : ByteArray).size ≤ 9223372036854775807 := by show 0 ≤ _; omega
  have hlw : (w ++ [(⟨#[]⟩ : ByteArray), (⟨#[]⟩ : ByteArray)]).length = w.length + 2 := by simp
  have hpos : 0 < w.length := List.length_pos_iff.2 hne
  have hall : ∀ i : Nat, i < w.length + 2 → (rdOf ByteArray.empty (w ++ [(⟨#[]⟩ : ByteArray), (⟨#[]⟩ : ByteArray)]) (i : Int)).size ≤ 9223372036854775807 := by
    intro i hi
    have hm := rdOf_mem ByteArray.empty (w ++ [(⟨#[]⟩ : ByteArray), (⟨#[]⟩ : ByteArray)]) i (by rw [hlw]; exact hi)
    rcases List.mem_append.1 hm with h | h
    · have := hsz _ h; omega
    · simp only [List.mem_cons, List.not_mem_nil, or_false, or_self] at h; rw [h]; exact z0
  have q1 := hall 1 (by omega)
  have q2 := hall 2 (by omega)
  have e1 := spec_word s (rdOf ByteArray.empty (w ++ [(⟨#[]⟩ : ByteArray), (⟨#[]⟩ : ByteArray)]) 1) (⟨#[]⟩ : ByteArray) 1 q1 z0
  have e2 := spec_word s (rdOf ByteArray.empty (w ++ [(⟨#[]⟩ : ByteArray), (⟨#[]⟩ : ByteArray)]) 1) (rdOf ByteArray.empty (w ++ [(⟨#[]⟩ : ByteArray), (⟨#[]⟩ : ByteArray)]) 2) 2 q1 q2
  have e3 := spec_word s (rdOf ByteArray.empty (w ++ [(⟨#[]⟩ : ByteArray), (⟨#[]⟩ : ByteArray)]) 1) (⟨#[]⟩ : ByteArray) 3 q1 z0
  have e4 := spec_word s (rdOf ByteArray.empty (w ++ [(⟨#[]⟩ : ByteArray), (⟨#[]⟩ : ByteArray)]) 1) (⟨#[]⟩ : ByteArray) 0 q1 z0
  rw [no_op _ _ _ _ (by omega)] at e4
  refine (evA hi (evA e1 (evA e2 (evA e3 (evP e4))))).ev fun k ⟨h0, h1, h2, h3, h4⟩ => ?_
  simp only [spec_TextOp.f, h0, Option.bind_some]
  rw [if_pos (by simp; omega), if_pos (by rw [hlw]; omega), if_pos (by rw [hlw]; omega)]
  split
  · exact h1
  · split
    · rw [if_pos (by rw [hlw]; omega)]; exact h2
    · split
      · exact h3
      · exact h4
theorem FnExactTextOp : DFnExactTextOp.Pure := by
  intro s hs
  by_cases c : (s.size : Int) > 1048576
  · exact ⟨0, by simp only [laws_FnExactTextOp.f]; rw [if_pos c]⟩
  · obtain ⟨w, hw, hi, hsp⟩ := cut_ev s (by omega)
    obtain ⟨k, e1, e2⟩ := (evA (spec_TextOp_ev s (by omega) w hw hsp) (evP (impl_TextOp_ev s (by omega) w hw hi))).ex
    exact ⟨k, by simp only [laws_FnExactTextOp.f, e1, e2, eq_self_op, Option.bind_some, if_true, bne_self_eq_false, Bool.false_eq_true, if_false]; rw [if_neg c]⟩
end Go.Proofs.Ytmebfingnfhmlaa.Pure
