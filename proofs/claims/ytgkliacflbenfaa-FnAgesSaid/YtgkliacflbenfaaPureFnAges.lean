/- A pinned handle holds the epochs: for all codes. No condition. -/
import Derived.Test.YtgkliacflbenfaaDFnAges
import Derived.Test.YtgkliacflbenfaaLm
namespace Go.Proofs.Ytgkliacflbenfaa.Pure
open Go.RowKit Go.Proofs.Ytgkliacflbenfaa.QFnAges Go.Proofs.YtgkliacflbenfaaW.PrintWords Go.Proofs.YtgkliacflbenfaaW.PrintLast Go.Proofs.YtgkliacflbenfaaW.PrintMore Go.Proofs.Ytgkliacflbenfaa.Lm
set_option linter.unusedSimpArgs false
set_option linter.unusedVariables false
def hasN (l : List Int) (x : Int) : Bool := l.any fun y => decide (y = x)
theorem hasN_cons (y : Int) (l : List Int) (x : Int) : hasN (y :: l) x = (decide (y = x) || hasN l x) := rfl
theorem spec_l03Has_ev (l : List Int) (x : Int) (hl : l.length ≤ 1048576) : Ev (fun k => spec_l03Has.f k l x) (hasN l x) := by
  have key := Ev.scan (fun k (_ : Unit) i => spec_l03Has.l0 k x l (l.length : Int) i) l.length (fun _ _ => True) (fun i _ => hasN (l.drop i) x)
    (fun _ _ => Ev.some_ fun k => by simp only [spec_l03Has.l0]; rw [if_neg (by omega), List.drop_eq_nil_of_le (Nat.le_refl _)]; rfl)
    (fun i _ hi _ => by
      have hd := drop_rd l i hi
      have hs : ∀ k, spec_l03Has.l0 (k + 1) x l (l.length : Int) (i : Int) = if rd l (i : Int) = x then some true else spec_l03Has.l0 k x l (l.length : Int) ((i + 1 : Nat) : Int) := fun k => by
        simp only [spec_l03Has.l0]; rw [if_pos (by omega), if_pos (by omega), if_pos (by omega), w64s hi (by omega)]
      rw [hd, hasN_cons]
      by_cases c : rd l (i : Int) = x
      · exact .inl (Ev.some_ fun k => by simp only [hs]; rw [if_pos c, decide_eq_true c]; rfl)
      · exact .inr ⟨(), trivial, by rw [decide_eq_false c]; rfl, EvE.of fun k => by simp only [hs]; rw [if_neg c]⟩) 0 () (Nat.zero_le _) trivial
  simpa [spec_l03Has.f] using key
def rg (g : List S63) (i : Nat) : S63 := g.getD i z63
theorem rd_rg (g : List S63) (i : Nat) : rd_T63 g (i : Int) = rg g i := by unfold rd_T63 rg; rw [Int.toNat_natCast]
theorem Ev.asks2 (l : Nat → Int → Option Bool) (n : Nat) (p : Nat → Bool) (b : Bool)
    (hend : Ev (fun k => l (k + 1) (n : Int)) b)
    (hs : ∀ i : Nat, i < n → EvE (fun k => l (k + 1) (i : Int)) (fun k => if p i = true then l k ((i + 1 : Nat) : Int) else some false)) : Ev (fun k => l k 0) (allN n p && b) := by
  refine Ev.asks l n p b hend (fun i hi h => ?_) (fun i hi h => ?_)
  · exact Ev.ofE (hs i hi) (Ev.some_ fun k => by rw [h]; rfl)
  · obtain ⟨K, hK⟩ := hs i hi
    exact ⟨K, fun k hk => (hK k hk).trans (by show (if p i = true then l k ((i + 1 : Nat) : Int) else some false) = _; rw [if_pos h])⟩
def nodeIn (g : List S63) (x : Int) : Bool := g.any fun y => decide (y.f0 = x)
def pinOk (a x : Int) : Bool := decide (x = -1 ∨ x = a ∨ x = a - 1)
def limAt (a : Int) (g : List S63) (i : Nat) : Bool := decide (0 ≤ (rg g i).f1 ∧ (rg g i).f1 ≤ a ∧ (0 < i → (rg g (i - 1)).f1 ≤ (rg g i).f1)) && !nodeIn (g.take i) (rg g i).f0
def limOk (a : Int) (g : List S63) : Bool := allN g.length (limAt a g)
def agesOk (a : Int) (p : List Int) (g : List S63) : Bool := decide ((0 ≤ a ∧ a ≤ 4294967295) ∧ (1 ≤ p.length ∧ p.length ≤ 8) ∧ g.length ≤ 100) && (allN p.length (fun i => pinOk a (rd p (i : Int))) && limOk a g)
theorem spec_l06Node_ev (l : List S63) (x : Int) (hl : l.length ≤ 1048576) : Ev (fun k => spec_l06Node.f k l x) (nodeIn l x) := by
  have key := Ev.scan (fun k (_ : Unit) i => spec_l06Node.l0 k x l (l.length : Int) i) l.length (fun _ _ => True) (fun i _ => nodeIn (l.drop i) x)
    (fun _ _ => Ev.some_ fun k => by simp only [spec_l06Node.l0]; rw [if_neg (by omega), List.drop_eq_nil_of_le (Nat.le_refl _)]; rfl)
    (fun i _ hi _ => by
      have hd : l.drop i = rg l i :: l.drop (i + 1) := drop_cons z63 l i hi
      have hs : ∀ k, spec_l06Node.l0 (k + 1) x l (l.length : Int) (i : Int) = if (rg l i).f0 = x then some true else spec_l06Node.l0 k x l (l.length : Int) ((i + 1 : Nat) : Int) := fun k => by
        simp only [spec_l06Node.l0, rd_rg]; rw [if_pos (by omega), if_pos (by omega), if_pos (by omega), w64s hi (by omega)]
      have hc : nodeIn (rg l i :: l.drop (i + 1)) x = (decide ((rg l i).f0 = x) || nodeIn (l.drop (i + 1)) x) := rfl
      rw [hd, hc]
      by_cases c : (rg l i).f0 = x
      · exact .inl (Ev.some_ fun k => by simp only [hs]; rw [if_pos c, decide_eq_true c]; rfl)
      · exact .inr ⟨(), trivial, by rw [decide_eq_false c]; rfl, EvE.of fun k => by simp only [hs]; rw [if_neg c]⟩) 0 () (Nat.zero_le _) trivial
  simpa [spec_l06Node.f] using key
theorem spec_lim_ev (a : Int) (p : List Int) (g : List S63) (hg : g.length ≤ 100) : Ev (fun k => spec_AgesOk.l1 k g (g.length : Int) 0 a p g) (limOk a g) := by
  have key := Ev.asks2 (fun k i => spec_AgesOk.l1 k g (g.length : Int) i a p g) g.length (limAt a g) true (Ev.some_ fun k => by simp only [spec_AgesOk.l1]; rw [if_neg (by omega)]) (fun i hi => by
    refine (evP (spec_l06Node_ev (g.take i) (rg g i).f0 (by rw [List.length_take]; omega))).eve fun k e => ?_
    simp only [spec_AgesOk.l1, rd_rg, Int.toNat_natCast, e, Option.bind_some]
    rw [if_pos (by omega), if_pos (by omega), if_pos (by omega), w64s hi (by omega)]
    unfold limAt
    by_cases c1 : (rg g i).f1 < 0
    · rw [if_pos c1, decide_eq_false (by omega)]; rfl
    rw [if_neg c1]
    by_cases c2 : (rg g i).f1 > a
    · rw [if_pos c2, decide_eq_false (by omega)]; rfl
    rw [if_neg c2]
    by_cases c3 : i = 0
    · rw [if_neg (by omega), if_pos (by omega), decide_eq_true ⟨by omega, by omega, fun h => absurd h (by omega)⟩]
      cases nodeIn (g.take i) (rg g i).f0 <;> simp
    · have e1 : wrap64 ((i : Int) - 1) = ((i - 1 : Nat) : Int) := by rw [w64 (by omega) (by omega)]; omega
      simp only [e1, rd_rg]
      rw [if_pos (by omega), if_pos (by omega), if_pos (by omega)]
      by_cases c4 : (rg g (i - 1)).f1 > (rg g i).f1
      · rw [if_pos c4, decide_eq_false (fun h => by have := h.2.2 (by omega); omega)]; rfl
      · rw [if_neg c4, if_pos (by omega), decide_eq_true ⟨by omega, by omega, fun _ => by omega⟩]
        cases nodeIn (g.take i) (rg g i).f0 <;> simp)
  rw [Bool.and_true] at key
  exact key
theorem impl_inLimbo_ev (a : Int) (p : List Int) (g : List S63) (hg : g.length ≤ 1048576) (i0 : Nat) (h0 : i0 < g.length) : ∃ t, Ev (fun k => impl_Ages_inLimbo.f k a p g (rg g i0).f0) t ∧ (t = (i0 : Int) ↔ nodeIn (g.take i0) (rg g i0).f0 = false) := by
  obtain ⟨t, ht, he⟩ := Ev.scanX (fun k (_ : Unit) i => impl_Ages_inLimbo.l0 k (rg g i0).f0 g (g.length : Int) i) g.length (fun i _ => ∀ j, j < i → (rg g j).f0 ≠ (rg g i0).f0) (fun t => ∃ n : Nat, t = (n : Int) ∧ n < g.length ∧ (rg g n).f0 = (rg g i0).f0 ∧ ∀ j, j < n → (rg g j).f0 ≠ (rg g i0).f0)
    (fun _ h => absurd rfl (h i0 h0))
    (fun i _ hi h => by
      have hs : ∀ k, impl_Ages_inLimbo.l0 (k + 1) (rg g i0).f0 g (g.length : Int) (i : Int) = if (rg g i).f0 = (rg g i0).f0 then some (i : Int) else impl_Ages_inLimbo.l0 k (rg g i0).f0 g (g.length : Int) ((i + 1 : Nat) : Int) := fun k => by
        simp only [impl_Ages_inLimbo.l0, rd_rg]; rw [if_pos (by omega), if_pos (by omega), if_pos (by omega), w64s hi (by omega)]
      by_cases c : (rg g i).f0 = (rg g i0).f0
      · exact .inl ⟨i, ⟨i, rfl, hi, c, h⟩, Ev.some_ fun k => by simp only [hs]; rw [if_pos c]⟩
      · refine .inr ⟨(), fun j hj => ?_, EvE.of fun k => by simp only [hs]; rw [if_neg c]⟩
        by_cases e : j = i
        · rw [e]; exact c
        · exact h j (by omega)) 0 () (Nat.zero_le _) (fun j hj => absurd hj (by omega))
  obtain ⟨n, rfl, hn, hc, hj⟩ := ht
  refine ⟨_, he, ?_⟩
  unfold nodeIn
  rw [List.any_eq_false]
  constructor
  · intro h x hx
    obtain ⟨m, hm, rfl⟩ := List.getElem_of_mem hx
    rw [List.length_take] at hm
    have := hj m (by omega)
    rw [List.getElem_take]
    have e : rg g m = g[m] := by unfold rg; simp [show m < g.length by omega]
    rw [e] at this
    simpa using this
  · intro h
    have h1 : ¬ n < i0 := fun h2 => by
      have := h (rg g n) (by
        have e : rg g n = (g.take i0)[n]'(by rw [List.length_take]; omega) := by rw [List.getElem_take]; unfold rg; simp [hn]
        rw [e]; exact List.getElem_mem _)
      simp [hc] at this
    have h2 : ¬ i0 < n := fun h2 => hj i0 h2 rfl
    omega
theorem within_ev (a b c : Int) : impl_within.f a b c = some (decide (b ≤ a ∧ a ≤ c)) := by
  simp only [impl_within.f]
  by_cases h : a ≥ b
  · rw [if_pos h]; congr 1; exact decide_eq_decide.2 ⟨fun h2 => ⟨h, h2⟩, fun h2 => h2.2⟩
  · rw [if_neg h, decide_eq_false (fun h2 => h h2.1)]
theorem impl_lim_ev (a : Int) (p : List Int) (g : List S63) (hg : g.length ≤ 100) : Ev (fun k => impl_AgesOk.l1 k g (g.length : Int) 0 a p g) (limOk a g) := by
  have key := Ev.asks2 (fun k i => impl_AgesOk.l1 k g (g.length : Int) i a p g) g.length (limAt a g) true (Ev.some_ fun k => by simp only [impl_AgesOk.l1]; rw [if_neg (by omega)]) (fun i hi => by
    obtain ⟨t, ht, hit⟩ := impl_inLimbo_ev a p g (by omega) i hi
    refine (evP ht).eve fun k e => ?_
    simp only [impl_AgesOk.l1, rd_rg, within_ev, e, Option.bind_some]
    rw [if_pos (by omega), if_pos (by omega), if_pos (by omega), w64s hi (by omega)]
    unfold limAt
    by_cases c1 : 0 ≤ (rg g i).f1 ∧ (rg g i).f1 ≤ a
    case neg => rw [if_neg (by simpa using c1), decide_eq_false (fun h => c1 ⟨h.1, h.2.1⟩)]; rfl
    rw [if_pos (by simpa using c1)]
    have last : ∀ q : Prop, [Decidable q] → q → (if t = (i : Int) then impl_AgesOk.l1 k g (g.length : Int) ((i + 1 : Nat) : Int) a p g else some false) = if (decide q && !nodeIn (g.take i) (rg g i).f0) = true then impl_AgesOk.l1 k g (g.length : Int) ((i + 1 : Nat) : Int) a p g else some false := by
      intro q _ hq
      rw [decide_eq_true hq, Bool.true_and]
      by_cases c : t = (i : Int)
      · rw [if_pos c, hit.1 c]; rfl
      · rw [if_neg c]
        cases d : nodeIn (g.take i) (rg g i).f0 with
        | true => rfl
        | false => exact absurd (hit.2 d) c
    by_cases c3 : i = 0
    · rw [if_neg (by omega)]
      exact last _ ⟨c1.1, c1.2, fun h => absurd h (by omega)⟩
    · have e1 : wrap64 ((i : Int) - 1) = ((i - 1 : Nat) : Int) := by rw [w64 (by omega) (by omega)]; omega
      simp only [e1, rd_rg]
      rw [if_pos (by omega), if_pos (by omega), if_pos (by omega)]
      by_cases c4 : (rg g (i - 1)).f1 > (rg g i).f1
      · rw [if_pos c4, decide_eq_false (fun h => by have := h.2.2 (by omega); omega)]; rfl
      · rw [if_neg c4]
        exact last _ ⟨c1.1, c1.2, fun _ => by omega⟩)
  rw [Bool.and_true] at key
  exact key
theorem pins_spec (a : Int) (ha : 0 ≤ a ∧ a ≤ 4294967295) (p : List Int) (hp : p.length ≤ 8) (g : List S63) (hg : g.length ≤ 100) : Ev (fun k => spec_AgesOk.l0 k p (p.length : Int) 0 a p g) (allN p.length (fun i => pinOk a (rd p (i : Int))) && limOk a g) :=
  Ev.asks2 (fun k i => spec_AgesOk.l0 k p (p.length : Int) i a p g) p.length _ _ ((spec_lim_ev a p g hg).imp fun K h k hk => by simp only [spec_AgesOk.l0]; rw [if_neg (by omega)]; exact h k hk) (fun i hi => EvE.of fun k => by
    simp only [spec_AgesOk.l0]
    rw [if_pos (by omega), if_pos (by omega), if_pos (by omega), w64s hi (by omega), w64 (x := a - 1) (by omega) (by omega)]
    unfold pinOk
    generalize rd p (i : Int) = x
    by_cases c1 : x = -1
    · rw [if_pos c1, if_pos (by simp [c1])]
    rw [if_neg c1]
    by_cases c2 : x = a
    · rw [if_pos c2, if_pos (by simp [c2])]
    rw [if_neg c2]
    by_cases c3 : x = a - 1
    · rw [if_neg (by omega), if_pos c3, if_pos (by simp [c3])]
    · rw [if_neg c3, ite_self, if_neg (by simp only [decide_eq_true_eq]; omega)])
theorem pins_impl (a : Int) (ha : 0 ≤ a ∧ a ≤ 4294967295) (p : List Int) (hp : p.length ≤ 8) (g : List S63) (hg : g.length ≤ 100) : Ev (fun k => impl_AgesOk.l0 k p (p.length : Int) 0 a p g) (allN p.length (fun i => pinOk a (rd p (i : Int))) && limOk a g) :=
  Ev.asks2 (fun k i => impl_AgesOk.l0 k p (p.length : Int) i a p g) p.length _ _ ((impl_lim_ev a p g hg).imp fun K h k hk => by simp only [impl_AgesOk.l0]; rw [if_neg (by omega)]; exact h k hk) (fun i hi => EvE.of fun k => by
    simp only [impl_AgesOk.l0]
    rw [if_pos (by omega), if_pos (by omega), if_pos (by omega), w64s hi (by omega), w64 (x := a - 1) (by omega) (by omega)]
    unfold pinOk
    generalize rd p (i : Int) = x
    by_cases c0 : x < -1
    · rw [if_pos c0, if_neg (by simp only [decide_eq_true_eq]; omega)]
    rw [if_neg c0]
    by_cases c1 : x = -1
    · rw [if_pos c1, if_pos (by simp [c1])]
    rw [if_neg c1]
    by_cases c2 : x = a
    · rw [if_pos c2, if_pos (by simp [c2])]
    rw [if_neg c2]
    by_cases c3 : x = a - 1
    · rw [if_pos c3, if_pos (by simp [c3])]
    · rw [if_neg c3, if_neg (by simp only [decide_eq_true_eq]; omega)])
theorem agesOk_no {a : Int} {p : List Int} {g : List S63} (h : ¬ ((0 ≤ a ∧ a ≤ 4294967295) ∧ (1 ≤ p.length ∧ p.length ≤ 8) ∧ g.length ≤ 100)) : agesOk a p g = false := by
  unfold agesOk; rw [decide_eq_false h]; rfl
theorem spec_AgesOk_ev (a : Int) (p : List Int) (g : List S63) : Ev (fun k => spec_AgesOk.f k a p g) (agesOk a p g) := by
  have no : Ev (fun k => spec_AgesOk.j0 k true a p g) false := Ev.up (g := fun _ => some false) (EvE.of fun k => by simp only [spec_AgesOk.j0, if_true]) (Ev.now _)
  by_cases c1 : 0 ≤ a ∧ a ≤ 4294967295
  case neg =>
    rw [agesOk_no (fun h => c1 h.1)]
    refine (evP no).ev fun k e => ?_
    simp only [spec_AgesOk.f, spec_l01Num.f]
    by_cases h : a ≥ 0
    · rw [if_pos h, Option.bind_some, if_neg (by simp only [decide_eq_true_eq]; omega), e]
    · rw [if_neg h, Option.bind_some, if_neg (by simp), e]
  have h0 : ∀ k, spec_AgesOk.f k a p g = (if (p.length : Int) < 1 then (spec_AgesOk.j0 k true a p g) else (if (p.length : Int) > 8 then (spec_AgesOk.j0 k true a p g) else (spec_AgesOk.j0 k (decide ((g.length : Int) > 100)) a p g))) := fun k => by
    simp only [spec_AgesOk.f, spec_l01Num.f]
    rw [if_pos c1.1, Option.bind_some, if_pos (by simpa using c1.2)]
  refine Ev.congr h0 ?_
  by_cases c2 : (p.length : Int) < 1
  · rw [agesOk_no (fun h => by omega)]; exact Ev.congr (fun k => by rw [if_pos c2]) no
  by_cases c3 : (p.length : Int) > 8
  · rw [agesOk_no (fun h => by omega)]; exact Ev.congr (fun k => by rw [if_neg c2, if_pos c3]) no
  by_cases c4 : (g.length : Int) > 100
  · rw [agesOk_no (fun h => by omega)]; exact Ev.congr (fun k => by rw [if_neg c2, if_neg c3, decide_eq_true c4]) no
  refine Ev.congr (fun k => by rw [if_neg c2, if_neg c3, decide_eq_false c4]) ?_
  unfold agesOk
  rw [decide_eq_true ⟨c1, by omega, by omega⟩, Bool.true_and]
  exact Ev.up (EvE.of fun k => by simp only [spec_AgesOk.j0, Bool.false_eq_true, if_false]) (pins_spec a c1 p (by omega) g (by omega))
theorem impl_AgesOk_ev (a : Int) (p : List Int) (g : List S63) : Ev (fun k => impl_AgesOk.f k a p g) (agesOk a p g) := by
  have no : Ev (fun k => impl_AgesOk.j0 k true a p g) false := Ev.up (g := fun _ => some false) (EvE.of fun k => by simp only [impl_AgesOk.j0, if_true]) (Ev.now _)
  by_cases c1 : 0 ≤ a ∧ a ≤ 4294967295
  case neg =>
    rw [agesOk_no (fun h => c1 h.1)]
    refine (evP no).ev fun k e => ?_
    simp only [impl_AgesOk.f, impl_isNum.f, within_ev, Option.bind_some]
    rw [if_neg (by simpa using c1), e]
  have h0 : ∀ k, impl_AgesOk.f k a p g = (if 1 ≤ (p.length : Int) ∧ (p.length : Int) ≤ 8 then (impl_AgesOk.j0 k (decide ((g.length : Int) > 100)) a p g) else (impl_AgesOk.j0 k true a p g)) := fun k => by
    simp only [impl_AgesOk.f, impl_isNum.f, within_ev, Option.bind_some, decide_eq_true_eq]
    rw [if_pos c1]
  refine Ev.congr h0 ?_
  by_cases c2 : 1 ≤ (p.length : Int) ∧ (p.length : Int) ≤ 8
  case neg => rw [agesOk_no (fun h => by omega)]; exact Ev.congr (fun k => by rw [if_neg c2]) no
  by_cases c4 : (g.length : Int) > 100
  · rw [agesOk_no (fun h => by omega)]; exact Ev.congr (fun k => by rw [if_pos c2, decide_eq_true c4]) no
  refine Ev.congr (fun k => by rw [if_pos c2, decide_eq_false c4]) ?_
  unfold agesOk
  rw [decide_eq_true ⟨c1, by omega, by omega⟩, Bool.true_and]
  exact Ev.up (EvE.of fun k => by simp only [impl_AgesOk.j0, Bool.false_eq_true, if_false]) (pins_impl a c1 p (by omega) g (by omega))
def rises (v : List Int) : Bool := allN (v.length - 1) fun i => decide (rd v (i : Int) < rd v ((i + 1 : Nat) : Int))
def allOf (f v : List Int) (g : List S63) : List Int := f ++ v ++ g.map (·.f0)
def placed (l : List Int) : Bool := allN l.length fun i => decide (0 ≤ rd l (i : Int) ∧ rd l (i : Int) < (l.length : Int)) && !hasN (l.take i) (rd l (i : Int))
def sorted (l : List Int) : List Int := l.mergeSort fun x y => decide (x ≤ y)
def inRow (l : List Int) : Bool := allN l.length fun i => decide (rd (sorted l) (i : Int) = (i : Int))
def poolOk (f : List Int) (a : Int) (p : List Int) (g : List S63) (v : List Int) : Bool := agesOk a p g && (decide ((allOf f v g).length ≤ 100) && (rises v && placed (allOf f v g)))
theorem rd_get (l : List Int) (i : Nat) (h : i < l.length) : rd l (i : Int) = l[i] := by rw [rd_nat]; simp [h]
theorem allN_iff (n : Nat) (p : Nat → Bool) : allN n p = true ↔ ∀ i, i < n → p i = true := by unfold allN; simp
theorem hasN_iff (l : List Int) (x : Int) : hasN l x = true ↔ x ∈ l := by
  unfold hasN; rw [List.any_eq_true]
  constructor
  · rintro ⟨y, hy, h⟩; rw [← of_decide_eq_true h]; exact hy
  · intro h; exact ⟨x, h, decide_eq_true rfl⟩
theorem sorted_perm (l : List Int) : (sorted l).Perm l := List.mergeSort_perm l _
theorem sorted_le (l : List Int) : (sorted l).Pairwise fun x y => x ≤ y := by
  have h := List.pairwise_mergeSort (le := fun x y : Int => decide (x ≤ y)) (fun a b c h1 h2 => by simp only [decide_eq_true_eq] at *; omega) (fun a b => by simp only [Bool.or_eq_true, decide_eq_true_eq]; omega) l
  exact h.imp fun h => of_decide_eq_true h
theorem sorted_len (l : List Int) : (sorted l).length = l.length := List.length_mergeSort l
theorem placed_iff (l : List Int) : placed l = true ↔ (∀ x ∈ l, 0 ≤ x ∧ x < (l.length : Int)) ∧ l.Nodup := by
  unfold placed
  rw [allN_iff]
  constructor
  · intro h
    have h1 : ∀ i (hi : i < l.length), (0 ≤ l[i] ∧ l[i] < (l.length : Int)) ∧ l[i] ∉ l.take i := fun i hi => by
      have := h i hi
      rw [Bool.and_eq_true, decide_eq_true_eq, rd_get l i hi] at this
      refine ⟨this.1, fun hm => ?_⟩
      have h2 := this.2
      rw [(hasN_iff _ _).2 hm] at h2
      cases h2
    refine ⟨fun x hx => ?_, ?_⟩
    · obtain ⟨i, hi, rfl⟩ := List.getElem_of_mem hx
      exact (h1 i hi).1
    · refine List.pairwise_iff_getElem.2 fun i j hi hj hij he => (h1 j hj).2 ?_
      rw [← he, List.mem_take_iff_getElem]
      exact ⟨i, by omega, rfl⟩
  · rintro ⟨h1, h2⟩ i hi
    rw [Bool.and_eq_true, decide_eq_true_eq, rd_get l i hi]
    refine ⟨h1 _ (List.getElem_mem hi), ?_⟩
    cases c : hasN (l.take i) l[i] with
    | false => rfl
    | true =>
      obtain ⟨j, hj, e⟩ := List.mem_take_iff_getElem.1 ((hasN_iff _ _).1 c)
      exact absurd e (List.pairwise_iff_getElem.1 h2 j i (by omega) hi (by omega))
theorem inRow_iff (l : List Int) : inRow l = true ↔ (∀ x ∈ l, 0 ≤ x ∧ x < (l.length : Int)) ∧ l.Nodup := by
  have hl := sorted_len l
  unfold inRow
  rw [allN_iff]
  constructor
  · intro h
    have h1 : ∀ i (hi : i < (sorted l).length), (sorted l)[i] = (i : Int) := fun i hi => by
      have := of_decide_eq_true (h i (by omega)); rwa [rd_get _ i hi] at this
    refine ⟨fun x hx => ?_, (sorted_perm l).nodup_iff.1 ?_⟩
    · obtain ⟨i, hi, rfl⟩ := List.getElem_of_mem ((sorted_perm l).mem_iff.2 hx)
      rw [h1 i hi]; omega
    · refine List.pairwise_iff_getElem.2 fun i j hi hj hij => ?_
      rw [h1 i hi, h1 j hj]; omega
  · rintro ⟨h1, h2⟩
    have hn := (sorted_perm l).nodup_iff.2 h2
    have hlt : ∀ i j (hi : i < (sorted l).length) (hj : j < (sorted l).length), i < j → (sorted l)[i] < (sorted l)[j] := fun i j hi hj hij => by
      have a1 := List.pairwise_iff_getElem.1 (sorted_le l) i j hi hj hij
      have a2 := List.pairwise_iff_getElem.1 hn i j hi hj hij
      omega
    have hr : ∀ i (hi : i < (sorted l).length), 0 ≤ (sorted l)[i] ∧ (sorted l)[i] < (l.length : Int) := fun i hi => h1 _ ((sorted_perm l).mem_iff.1 (List.getElem_mem hi))
    have lo : ∀ i (hi : i < (sorted l).length), (i : Int) ≤ (sorted l)[i] := by
      intro i
      induction i with
      | zero => intro hi; exact (hr 0 hi).1
      | succ i ih => intro hi; have a1 := ih (by omega); have a2 := hlt i (i + 1) (by omega) hi (by omega); omega
    have up : ∀ d i (hi : i < (sorted l).length), i + d + 1 = l.length → (sorted l)[i] ≤ (i : Int) := by
      intro d
      induction d with
      | zero => intro i hi he; have := (hr i hi).2; omega
      | succ d ih => intro i hi he; have a1 := ih (i + 1) (by omega) (by omega); have a2 := hlt i (i + 1) hi (by omega) (by omega); omega
    intro i hi
    have a1 := lo i (by omega)
    have a2 := up (l.length - i - 1) i (by omega) (by omega)
    rw [rd_get _ i (by omega)]
    exact decide_eq_true (by omega)
theorem inRow_placed (l : List Int) : inRow l = placed l := by
  rw [Bool.eq_iff_iff, inRow_iff, placed_iff]
theorem sort_ev (l : List Int) (h : l.length ≤ 9223372036854) : Ev (fun k => slices_Sort_int_int.f k l) (sorted l) :=
  ⟨1, fun k hk => by cases k with
    | zero => omega
    | succ k => show (if l.length < 4611686018427387904 then some (sorted l) else none) = _; rw [if_pos (by omega)]⟩
theorem take_rg (g : List S63) (i : Nat) (hi : i < g.length) : g.take (i + 1) = g.take i ++ [rg g i] := by
  have e : rg g i = g[i] := by unfold rg; simp [hi]
  rw [List.take_add_one, List.getElem?_eq_getElem hi, e]; rfl
theorem allOf_len (f v : List Int) (g : List S63) : (allOf f v g).length = f.length + v.length + g.length := by simp [allOf]; omega
theorem spec_all_ev (f : List Int) (a : Int) (p : List Int) (g : List S63) (v : List Int) (h1 : f.length ≤ 1048576) (h3 : g.length ≤ 1048576) (h4 : v.length ≤ 1048576) : Ev (fun k => spec_l09All.f k f a p g v) (allOf f v g) := by
  have key := Ev.scan (fun k (s : List Int) i => spec_l09All.l0 k s g (g.length : Int) i) g.length (fun i s => s = f ++ v ++ (g.take i).map (·.f0)) (fun _ _ => allOf f v g)
    (fun s hs => Ev.some_ fun k => by simp only [spec_l09All.l0]; rw [if_neg (by omega), hs, List.take_length]; rfl)
    (fun i s hi hs => .inr ⟨s ++ [(rg g i).f0], by rw [hs, take_rg g i hi, List.map_append, List.append_assoc, List.append_assoc, List.append_assoc]; rfl, rfl, EvE.of fun k => by
      have hl : s.length ≤ 3145728 := by rw [hs]; simp; omega
      simp only [spec_l09All.l0, rd_rg]
      rw [if_pos (by omega), if_pos (by omega), if_pos (by omega), if_pos (by omega), w64s hi (by omega)]⟩) 0 (f ++ v) (Nat.zero_le _) (by simp)
  refine Ev.congr (fun k => ?_) key
  simp only [spec_l09All.f, Option.bind_some, List.nil_append, List.length_nil]
  rw [if_pos (by omega), if_pos (by omega)]; rfl
theorem spec_placed_ev (l : List Int) (h : l.length ≤ 100) : Ev (fun k => spec_PoolOk.l1 k l l (l.length : Int) 0) (placed l) := by
  have key := Ev.asks2 (fun k i => spec_PoolOk.l1 k l l (l.length : Int) i) l.length (fun i => decide (0 ≤ rd l (i : Int) ∧ rd l (i : Int) < (l.length : Int)) && !hasN (l.take i) (rd l (i : Int))) true (Ev.some_ fun k => by simp only [spec_PoolOk.l1]; rw [if_neg (by omega)]) (fun i hi => by
    refine (evP (spec_l03Has_ev (l.take i) (rd l (i : Int)) (by rw [List.length_take]; omega))).eve fun k e => ?_
    simp only [spec_PoolOk.l1, Int.toNat_natCast, e, Option.bind_some]
    rw [if_pos (by omega), if_pos (by omega), if_pos (by omega), w64s hi (by omega)]
    generalize rd l (i : Int) = x
    by_cases c1 : x < 0
    · rw [if_pos c1, decide_eq_false (by omega)]; rfl
    rw [if_neg c1]
    by_cases c2 : x ≥ (l.length : Int)
    · rw [if_pos c2, decide_eq_false (by omega)]; rfl
    rw [if_neg c2, if_pos (by omega), decide_eq_true ⟨by omega, by omega⟩]
    cases hasN (l.take i) x <;> simp)
  rw [Bool.and_true] at key
  exact key
theorem spec_rises_ev (l f : List Int) (a : Int) (p : List Int) (g : List S63) (v : List Int) (h : l.length ≤ 100) (hv : v.length ≤ 1048576) : Ev (fun k => spec_PoolOk.l0 k l 1 f a p g v) (rises v && placed l) :=
  Ev.asks2 (fun k i => spec_PoolOk.l0 k l (i + 1) f a p g v) (v.length - 1) _ _ ((spec_placed_ev l h).imp fun K hK k hk => by
    show spec_PoolOk.l0 (k + 1) l (((v.length - 1 : Nat) : Int) + 1) f a p g v = _
    simp only [spec_PoolOk.l0]; rw [if_neg (by omega)]; exact hK k hk) (fun i hi => EvE.of fun k => by
    have e1 : wrap64 ((i : Int) + 1 - 1) = (i : Int) := by rw [w64 (by omega) (by omega)]; omega
    have e2 : wrap64 ((i : Int) + 1 + 1) = ((i + 1 : Nat) : Int) + 1 := by rw [w64 (by omega) (by omega)]; omega
    simp only [spec_PoolOk.l0, e1, e2]
    clear e1 e2
    rw [if_pos (by omega), if_pos (by omega), if_pos (by omega), if_pos (by omega), show (i : Int) + 1 = ((i + 1 : Nat) : Int) by omega]
    by_cases c : rd v (i : Int) < rd v ((i + 1 : Nat) : Int)
    · rw [if_neg (by omega), if_pos (decide_eq_true c)]
    · rw [if_pos (by omega), if_neg (by simpa using c)])
theorem spec_PoolOk_ev (f : List Int) (a : Int) (p : List Int) (g : List S63) (v : List Int) (h1 : f.length ≤ 1048576) (h3 : g.length ≤ 1048576) (h4 : v.length ≤ 1048576) : Ev (fun k => spec_PoolOk.f k f a p g v) (poolOk f a p g v) := by
  have no : Ev (fun k => spec_PoolOk.j0 k (allOf f v g) true f a p g v) false := Ev.up (g := fun _ => some false) (EvE.of fun k => by simp only [spec_PoolOk.j0, if_true]) (Ev.now _)
  have hA := spec_all_ev f a p g v h1 h3 h4
  have hG := spec_AgesOk_ev a p g
  unfold poolOk
  cases c : agesOk a p g with
  | false =>
    rw [c] at hG
    refine (evA hA (evA hG (evP no))).ev fun k ⟨e1, e2, e3⟩ => ?_
    simp only [spec_PoolOk.f, e1, e2, Option.bind_some, Bool.false_eq_true, if_false, e3, Bool.false_and]
  | true =>
    rw [c] at hG
    by_cases cl : (allOf f v g).length ≤ 100
    · have hr : Ev (fun k => spec_PoolOk.j0 k (allOf f v g) false f a p g v) (rises v && placed (allOf f v g)) := Ev.up (EvE.of fun k => by simp only [spec_PoolOk.j0, Bool.false_eq_true, if_false]) (spec_rises_ev (allOf f v g) f a p g v cl h4)
      refine (evA hA (evA hG (evP hr))).ev fun k ⟨e1, e2, e3⟩ => ?_
      simp only [spec_PoolOk.f, e1, e2, Option.bind_some, if_true]
      rw [decide_eq_false (by omega), e3, decide_eq_true cl]; rfl
    · refine (evA hA (evA hG (evP no))).ev fun k ⟨e1, e2, e3⟩ => ?_
      simp only [spec_PoolOk.f, e1, e2, Option.bind_some, if_true]
      rw [decide_eq_true (by omega), e3, decide_eq_false cl]; rfl
theorem impl_rises_ev (v : List Int) (hv : v.length ≤ 1048576) : Ev (fun k => impl_rises.f k v) (rises v) := by
  have key := Ev.asks2 (fun k i => impl_rises.l0 k v (i + 1)) (v.length - 1) (fun i => decide (rd v (i : Int) < rd v ((i + 1 : Nat) : Int))) true (Ev.some_ fun k => by
    show impl_rises.l0 (k + 1) v (((v.length - 1 : Nat) : Int) + 1) = _
    simp only [impl_rises.l0]; rw [if_neg (by omega)]) (fun i hi => EvE.of fun k => by
    have e1 : wrap64 ((i : Int) + 1 - 1) = (i : Int) := by rw [w64 (by omega) (by omega)]; omega
    have e2 : wrap64 ((i : Int) + 1 + 1) = ((i + 1 : Nat) : Int) + 1 := by rw [w64 (by omega) (by omega)]; omega
    simp only [impl_rises.l0, e1, e2]
    clear e1 e2
    rw [if_pos (by omega), if_pos (by omega), if_pos (by omega), if_pos (by omega), show (i : Int) + 1 = ((i + 1 : Nat) : Int) by omega]
    by_cases c : rd v (i : Int) < rd v ((i + 1 : Nat) : Int)
    · rw [if_neg (by omega), if_pos (decide_eq_true c)]
    · rw [if_pos (by omega), if_neg (by simpa using c)])
  rw [Bool.and_true] at key
  exact key
theorem impl_PoolOk_ev (f : List Int) (a : Int) (p : List Int) (g : List S63) (v : List Int) (h1 : f.length ≤ 1048576) (h3 : g.length ≤ 1048576) (h4 : v.length ≤ 1048576) : Ev (fun k => impl_PoolOk.f k f a p g v) (poolOk f a p g v) := by
  have hL := allOf_len f v g
  have hlen : (sorted (allOf f v g)).length = (allOf f v g).length := sorted_len _
  have hrow : Ev (fun k => impl_PoolOk.l1 k (sorted (allOf f v g)) (sorted (allOf f v g)) ((allOf f v g).length : Int) 0 f a p g v) (poolOk f a p g v) := by
    have hend : Ev (fun k => impl_PoolOk.l1 (k + 1) (sorted (allOf f v g)) (sorted (allOf f v g)) ((allOf f v g).length : Int) ((allOf f v g).length : Int) f a p g v) (agesOk a p g && (rises v && decide ((allOf f v g).length ≤ 100))) := by
      refine (evA (impl_AgesOk_ev a p g) (evP (impl_rises_ev v h4))).ev fun k ⟨e1, e2⟩ => ?_
      simp only [impl_PoolOk.l1, e1, e2, Option.bind_some, hlen]
      rw [if_neg (by omega), show decide (((allOf f v g).length : Int) ≤ 100) = decide ((allOf f v g).length ≤ 100) from decide_eq_decide.2 (by omega)]
      cases agesOk a p g <;> cases rises v <;> simp
    have key := Ev.asks2 (fun k i => impl_PoolOk.l1 k (sorted (allOf f v g)) (sorted (allOf f v g)) ((allOf f v g).length : Int) i f a p g v) (allOf f v g).length (fun i => decide (rd (sorted (allOf f v g)) (i : Int) = (i : Int))) _ hend (fun i hi => EvE.of fun k => by
      simp only [impl_PoolOk.l1, hlen, decide_eq_true_eq]
      rw [if_pos (by omega), if_pos (by omega), if_pos (by omega), w64s hi (by omega)])
    have e : allN (allOf f v g).length (fun i => decide (rd (sorted (allOf f v g)) (i : Int) = (i : Int))) = placed (allOf f v g) := inRow_placed _
    rw [e] at key
    have e2 : (placed (allOf f v g) && (agesOk a p g && (rises v && decide ((allOf f v g).length ≤ 100)))) = poolOk f a p g v := by
      unfold poolOk
      cases placed (allOf f v g) <;> cases agesOk a p g <;> cases rises v <;> cases decide ((allOf f v g).length ≤ 100) <;> rfl
    rw [e2] at key
    exact key
  have key := Ev.scan (fun k (s : List Int) i => impl_PoolOk.l0 k s g (g.length : Int) i f a p g v) g.length (fun i s => s = f ++ v ++ (g.take i).map (·.f0)) (fun _ _ => poolOk f a p g v)
    (fun s hs => by
      have hs' : s = allOf f v g := by rw [hs, List.take_length]; rfl
      subst hs'
      refine (evA (sort_ev (allOf f v g) (by omega)) (evP hrow)).ev fun k ⟨e1, e2⟩ => ?_
      simp only [impl_PoolOk.l0, e1, Option.bind_some]
      rw [if_neg (by omega), e2])
    (fun i s hi hs => .inr ⟨s ++ [(rg g i).f0], by rw [hs, take_rg g i hi, List.map_append, List.append_assoc, List.append_assoc, List.append_assoc]; rfl, rfl, EvE.of fun k => by
      have hl : s.length ≤ 3145728 := by rw [hs]; simp; omega
      simp only [impl_PoolOk.l0, rd_rg]
      rw [if_pos (by omega), if_pos (by omega), if_pos (by omega), if_pos (by omega), w64s hi (by omega)]⟩) 0 (f ++ v) (Nat.zero_le _) (by simp)
  refine Ev.congr (fun k => ?_) key
  simp only [impl_PoolOk.f, impl_copyInts.f, Option.bind_some, List.nil_append, List.length_nil]
  rw [if_pos (by omega), Option.bind_some, if_pos (by omega)]; rfl
abbrev GT := S63
/-- A limbo's rows, in parts. -/
def LimP (a : Int) (g : List GT) : Prop := (∀ y ∈ g, 0 ≤ y.f1 ∧ y.f1 ≤ a) ∧ (g.map fun y => y.f1).Pairwise (fun x y => x ≤ y) ∧ (g.map fun y => y.f0).Nodup
theorem rg_get (g : List GT) (i : Nat) (h : i < g.length) : rg g i = g[i] := by unfold rg; simp [h]
theorem nodeIn_iff (g : List GT) (x : Int) : nodeIn g x = true ↔ x ∈ g.map fun y => y.f0 := by
  unfold nodeIn; rw [List.any_eq_true, List.mem_map]
  constructor
  · rintro ⟨y, hy, h⟩; exact ⟨y, hy, of_decide_eq_true h⟩
  · rintro ⟨y, hy, h⟩; exact ⟨y, hy, decide_eq_true h⟩
theorem lim_iff (a : Int) (g : List GT) : limOk a g = true ↔ LimP a g := by
  have e : limOk a g = true ↔ ∀ i, (h : i < g.length) → (0 ≤ (g[i]).f1 ∧ (g[i]).f1 ≤ a ∧ (∀ h0 : 0 < i, (g[i - 1]'(by omega)).f1 ≤ (g[i]).f1)) ∧ ¬ (g[i]).f0 ∈ (g.take i).map fun y => y.f0 := by
    unfold limOk
    rw [allN_iff]
    constructor
    · intro h i hi
      have := h i hi
      unfold limAt at this
      rw [rg_get g i hi, Bool.and_eq_true, decide_eq_true_eq, Bool.not_eq_true'] at this
      refine ⟨⟨this.1.1, this.1.2.1, fun h0 => by have q := this.1.2.2 h0; rw [rg_get g (i - 1) (by omega)] at q; exact q⟩, fun hm => ?_⟩
      rw [(nodeIn_iff _ _).2 hm] at this; exact absurd this.2 (by simp)
    · intro h i hi
      have := h i hi
      unfold limAt
      rw [rg_get g i hi, Bool.and_eq_true, decide_eq_true_eq, Bool.not_eq_true']
      refine ⟨⟨this.1.1, this.1.2.1, fun h0 => by rw [rg_get g (i - 1) (by omega)]; exact this.1.2.2 h0⟩, ?_⟩
      cases c : nodeIn (g.take i) (g[i]).f0 with
      | false => rfl
      | true => exact absurd ((nodeIn_iff _ _).1 c) this.2
  rw [e]
  constructor
  · intro h
    refine ⟨fun y hy => ?_, List.pairwise_iff_getElem.2 fun i j hi hj hij => ?_, List.pairwise_iff_getElem.2 fun i j hi hj hij he => ?_⟩
    · obtain ⟨i, hi, rfl⟩ := List.getElem_of_mem hy
      exact ⟨(h i hi).1.1, (h i hi).1.2.1⟩
    · rw [List.length_map] at hi hj
      rw [List.getElem_map, List.getElem_map]
      have key : ∀ n, (hn : i + n < g.length) → (g[i]).f1 ≤ (g[i + n]).f1 := by
        intro n
        induction n with
        | zero => intro _; exact Int.le_refl _
        | succ n ih =>
          intro hn
          have := (h (i + (n + 1)) hn).1.2.2 (by omega)
          exact Int.le_trans (ih (by omega)) this
      have := key (j - i) (by omega)
      have e2 : i + (j - i) = j := by omega
      simp only [e2] at this
      exact this
    · rw [List.length_map] at hi hj
      rw [List.getElem_map, List.getElem_map] at he
      exact (h j hj).2 (List.mem_map.2 ⟨g[i], List.mem_take_iff_getElem.2 ⟨i, by omega, rfl⟩, he⟩)
  · rintro ⟨h1, h2, h3⟩ i hi
    refine ⟨⟨(h1 _ (List.getElem_mem hi)).1, (h1 _ (List.getElem_mem hi)).2, fun h0 => ?_⟩, fun hm => ?_⟩
    · have := List.pairwise_iff_getElem.1 h2 (i - 1) i (by rw [List.length_map]; omega) (by rw [List.length_map]; exact hi) (by omega)
      rw [List.getElem_map, List.getElem_map] at this
      exact this
    · obtain ⟨y, hy, e⟩ := List.mem_map.1 hm
      obtain ⟨j, hj, rfl⟩ := List.mem_take_iff_getElem.1 hy
      exact List.pairwise_iff_getElem.1 h3 j i (by rw [List.length_map]; omega) (by rw [List.length_map]; exact hi) (by omega) (by rw [List.getElem_map, List.getElem_map]; exact e)
theorem rises_iff (v : List Int) : rises v = true ↔ v.Pairwise (fun x y => x < y) := by
  unfold rises
  rw [allN_iff]
  constructor
  · intro h
    refine List.pairwise_iff_getElem.2 fun i j hi hj hij => ?_
    have key : ∀ n, (hn : i + (n + 1) < v.length) → v[i] < v[i + (n + 1)] := by
      intro n
      induction n with
      | zero =>
        intro hn
        have := of_decide_eq_true (h i (by omega))
        rw [rd_get v i hi, rd_get v (i + 1) hn] at this
        exact this
      | succ n ih =>
        intro hn
        have := of_decide_eq_true (h (i + (n + 1)) (by omega))
        rw [rd_get v (i + (n + 1)) (by omega), rd_get v (i + (n + 1) + 1) hn] at this
        exact Int.lt_trans (ih (by omega)) this
    have := key (j - i - 1) (by omega)
    have e2 : i + (j - i - 1 + 1) = j := by omega
    simp only [e2] at this
    exact this
  · intro h i hi
    rw [decide_eq_true_eq, rd_get v i (by omega), rd_get v (i + 1) (by omega)]
    exact List.pairwise_iff_getElem.1 h i (i + 1) (by omega) (by omega) (by omega)
def AgesP (a : Int) (p : List Int) (g : List GT) : Prop := ((0 ≤ a ∧ a ≤ 4294967295) ∧ (1 ≤ p.length ∧ p.length ≤ 8) ∧ g.length ≤ 100) ∧ (∀ x ∈ p, x = -1 ∨ x = a ∨ x = a - 1) ∧ LimP a g
theorem ages_iff (a : Int) (p : List Int) (g : List GT) : agesOk a p g = true ↔ AgesP a p g := by
  unfold agesOk AgesP
  rw [Bool.and_eq_true, Bool.and_eq_true, decide_eq_true_eq, lim_iff, allN_iff]
  have e : (∀ i, i < p.length → pinOk a (rd p (i : Int)) = true) ↔ ∀ x ∈ p, x = -1 ∨ x = a ∨ x = a - 1 := by
    constructor
    · intro h x hx
      obtain ⟨i, hi, rfl⟩ := List.getElem_of_mem hx
      have := h i hi
      rw [rd_get p i hi] at this
      exact of_decide_eq_true this
    · intro h i hi
      rw [rd_get p i hi]
      exact decide_eq_true (h _ (List.getElem_mem hi))
  rw [e]
def PoolP (f : List Int) (a : Int) (p : List Int) (g : List GT) (v : List Int) : Prop := AgesP a p g ∧ (allOf f v g).length ≤ 100 ∧ v.Pairwise (fun x y => x < y) ∧ (∀ x ∈ allOf f v g, 0 ≤ x ∧ x < ((allOf f v g).length : Int)) ∧ (allOf f v g).Nodup
theorem pool_iff (f : List Int) (a : Int) (p : List Int) (g : List GT) (v : List Int) : poolOk f a p g v = true ↔ PoolP f a p g v := by
  unfold poolOk PoolP
  rw [Bool.and_eq_true, Bool.and_eq_true, Bool.and_eq_true, decide_eq_true_eq, ages_iff, rises_iff, placed_iff]
/-- The places lie elsewhere: the pool stays right. -/
theorem pool_perm {f f' : List Int} {a a' : Int} {p p' : List Int} {g g' : List GT} {v v' : List Int} (h : PoolP f a p g v) (hp : (allOf f' v' g').Perm (allOf f v g)) (hA : AgesP a' p' g') (hv : v'.Pairwise (fun x y => x < y)) : PoolP f' a' p' g' v' := by
  obtain ⟨_, h2, _, h4, h5⟩ := h
  have hl := hp.length_eq
  exact ⟨hA, by omega, hv, fun x hx => by rw [hl]; exact h4 x (hp.mem_iff.1 hx), hp.nodup_iff.2 h5⟩
/-- A row in order whose numbers are all others rises. -/
theorem sorted_lt {l : List Int} (h : l.Nodup) : (sorted l).Pairwise fun x y => x < y := by
  have h1 := sorted_le l
  have h2 : (sorted l).Nodup := (sorted_perm l).nodup_iff.2 h
  refine List.pairwise_iff_getElem.2 fun i j hi hj hij => ?_
  have a := List.pairwise_iff_getElem.1 h1 i j hi hj hij
  have b := List.pairwise_iff_getElem.1 h2 i j hi hj hij
  omega
/-- A place is taken. -/
theorem alloc_keep {x : Int} {f : List Int} {a : Int} {p : List Int} {g : List GT} {v : List Int} (h : PoolP (x :: f) a p g v) : PoolP f a p g (sorted (v ++ [x])) := by
  have hp : (allOf f (sorted (v ++ [x])) g).Perm (allOf (x :: f) v g) := by
    unfold allOf
    refine List.Perm.append_right _ ?_
    refine ((sorted_perm (v ++ [x])).append_left f).trans ?_
    rw [List.cons_append, ← List.append_assoc]
    exact List.perm_append_singleton x (f ++ v)
  have hn : (v ++ [x]).Nodup := by
    have := h.2.2.2.2
    unfold allOf at this
    have := (List.nodup_append.1 this).1
    rw [List.cons_append] at this
    have h2 := List.nodup_cons.1 this
    have hv := (List.nodup_append.1 h2.2).2.1
    exact List.nodup_append.2 ⟨hv, by simp, fun y hy z hz e => h2.1 (List.mem_append_right _ (by rw [List.mem_singleton.1 hz] at e; exact e ▸ hy))⟩
  exact pool_perm h hp h.1 (sorted_lt hn)
/-- A place is given up. -/
theorem give_keep {x : Int} {f : List Int} {a : Int} {p : List Int} {g : List GT} {v : List Int} (h : PoolP f a p g v) (hx : x ∈ v) (hl : g.length < 100) : PoolP f a p (g ++ [⟨x, a⟩]) (v.filter fun y => !decide (y = x)) := by
  obtain ⟨hA, h2, h3, h4, h5⟩ := h
  have h5' := h5
  unfold allOf at h5'
  have hnd := List.nodup_append.1 h5'
  have hvn := (List.nodup_append.1 hnd.1).2.1
  have hxg : ¬ x ∈ g.map fun y => y.f0 := fun hm => hnd.2.2 x (List.mem_append_right _ hx) x hm rfl
  -- v is x and the others
  have hv : v.Perm (x :: v.filter fun y => !decide (y = x)) := by
    refine (List.perm_ext_iff_of_nodup hvn (List.nodup_cons.2 ⟨fun hm => by have := (List.mem_filter.1 hm).2; simp at this, List.Pairwise.sublist List.filter_sublist hvn⟩)).2 fun y => ?_
    rw [List.mem_cons, List.mem_filter]
    by_cases c : y = x
    · subst c; simp [hx]
    · simp [c]
  have hp : (allOf f (v.filter fun y => !decide (y = x)) (g ++ [(⟨x, a⟩ : GT)])).Perm (allOf f v g) := by
    unfold allOf
    rw [List.map_append, List.map_singleton]
    have e1 : (f ++ v ++ g.map fun y => y.f0).Perm (f ++ (x :: v.filter fun y => !decide (y = x)) ++ g.map fun y => y.f0) := List.Perm.append_right _ (hv.append_left f)
    refine List.Perm.trans ?_ e1.symm
    have e2 : (f ++ (x :: v.filter fun y => !decide (y = x))).Perm (x :: (f ++ v.filter fun y => !decide (y = x))) := List.perm_middle
    refine List.Perm.trans ?_ (e2.append_right _).symm
    rw [← List.append_assoc]
    exact List.perm_append_singleton x _
  obtain ⟨⟨ha, hpl, hg⟩, hpin, l1, l2, l3⟩ := hA
  refine pool_perm ⟨⟨⟨ha, hpl, hg⟩, hpin, l1, l2, l3⟩, h2, h3, h4, h5⟩ hp ⟨⟨ha, hpl, by rw [List.length_append, List.length_singleton]; omega⟩, hpin, fun y hy => ?_, ?_, ?_⟩ (List.Pairwise.sublist List.filter_sublist h3)
  · rcases List.mem_append.1 hy with hy | hy
    · exact l1 y hy
    · rw [List.mem_singleton.1 hy]; exact ⟨ha.1, Int.le_refl _⟩
  · rw [List.map_append, List.map_singleton]
    refine List.pairwise_append.2 ⟨l2, by simp, fun y hy z hz => ?_⟩
    obtain ⟨w, hw, rfl⟩ := List.mem_map.1 hy
    rw [List.mem_singleton.1 hz]; exact (l1 w hw).2
  · rw [List.map_append, List.map_singleton]
    exact List.nodup_append.2 ⟨l3, by simp, fun y hy z hz e => hxg (by rw [List.mem_singleton.1 hz] at e; have e2 : y = x := e; rw [← e2]; exact hy)⟩
/-- What is out of limbo is free. -/
theorem reclaim_keep {f : List Int} {a : Int} {p : List Int} {g : List GT} {v : List Int} (h : PoolP f a p g v) (q : GT → Bool) : PoolP ((g.filter fun y => !q y).map (fun y => y.f0) ++ f) a p (g.filter q) v := by
  obtain ⟨hA, h2, h3, h4, h5⟩ := h
  have hs : (g.filter q ++ g.filter fun y => !q y).Perm g := List.filter_append_perm q g
  have hp : (allOf ((g.filter fun y => !q y).map (fun y => y.f0) ++ f) v (g.filter q)).Perm (allOf f v g) := by
    unfold allOf
    have e := (hs.map fun y => y.f0)
    rw [List.map_append] at e
    have e1 : ((g.filter fun y => !q y).map (fun y => y.f0) ++ (f ++ v) ++ (g.filter q).map fun y => y.f0).Perm (f ++ v ++ g.map fun y => y.f0) := by
      refine List.Perm.trans ?_ (e.append_left (f ++ v))
      rw [List.append_assoc]
      refine List.Perm.trans List.perm_append_comm ?_
      rw [List.append_assoc]
    rw [List.append_assoc ((g.filter fun y => !q y).map fun y => y.f0) f v]
    exact e1
  obtain ⟨⟨ha, hpl, hg⟩, hpin, l1, l2, l3⟩ := hA
  refine pool_perm ⟨⟨⟨ha, hpl, hg⟩, hpin, l1, l2, l3⟩, h2, h3, h4, h5⟩ hp ⟨⟨ha, hpl, Nat.le_trans (List.length_filter_le _ _) hg⟩, hpin, fun y hy => l1 y (List.mem_filter.1 hy).1, List.Pairwise.sublist (List.Sublist.map _ List.filter_sublist) l2, List.Pairwise.sublist (List.Sublist.map _ List.filter_sublist) l3⟩ h3
/-- A handle is told anew. -/
theorem pin_keep {f : List Int} {a : Int} {p : List Int} {g : List GT} {v : List Int} (h : PoolP f a p g v) (i : Nat) (x : Int) (hx : x = -1 ∨ x = a) : PoolP f a (p.set i x) g v := by
  obtain ⟨⟨⟨ha, hpl, hg⟩, hpin, hl⟩, h2, h3, h4, h5⟩ := h
  refine ⟨⟨⟨ha, by rw [List.length_set]; exact hpl, hg⟩, fun y hy => ?_, hl⟩, h2, h3, h4, h5⟩
  rcases List.mem_or_eq_of_mem_set hy with hy | rfl
  · exact hpin y hy
  · rcases hx with hx | hx
    · exact .inl hx
    · exact .inr (.inl hx)
/-- The epochs go on. -/
theorem turn_keep {f : List Int} {a : Int} {p : List Int} {g : List GT} {v : List Int} (h : PoolP f a p g v) (hp : ∀ x ∈ p, x = -1 ∨ x = a) (hm : a < 4294967295) : PoolP f (a + 1) p g v := by
  obtain ⟨⟨⟨ha, hpl, hg⟩, hpin, l1, l2, l3⟩, h2, h3, h4, h5⟩ := h
  refine ⟨⟨⟨by omega, hpl, hg⟩, fun y hy => ?_, fun y hy => ⟨(l1 y hy).1, by have := (l1 y hy).2; omega⟩, l2, l3⟩, h2, h3, h4, h5⟩
  rcases hp y hy with q | q
  · exact .inl q
  · exact .inr (.inr (by omega))
abbrev AgesT := Int × List Int × List S63 × Bool
def noAges : AgesT := (0, [], [], false)
abbrev PoolT := List Int × Int × List Int × List S63 × List Int × Bool
def noPool : PoolT := ([], 0, [], [], [], false)
theorem spec_l06Copy_ev (a : Int) (p : List Int) (g : List S63) (hp : p.length ≤ 1048576) (hg : g.length ≤ 1048576) : spec_l06Copy.f a p g = some (a, p, g) := by
  simp only [spec_l06Copy.f, Option.bind_some, List.length_nil, List.nil_append]
  rw [if_pos (by omega), if_pos (by omega)]
theorem impl_copyInts_ev (p : List Int) (hp : p.length ≤ 1048576) : impl_copyInts.f p = some p := by
  simp only [impl_copyInts.f, Option.bind_some, List.length_nil, List.nil_append]
  rw [if_pos (by omega)]
theorem impl_copyAges_ev (a : Int) (p : List Int) (g : List S63) (hp : p.length ≤ 1048576) (hg : g.length ≤ 1048576) : impl_copyAges.f a p g = some (a, p, g) := by
  simp only [impl_copyAges.f, impl_copyInts_ev p hp, Option.bind_some, List.length_nil, List.nil_append]
  rw [if_pos (by omega)]
theorem impl_copyPool_ev (f : List Int) (a : Int) (p : List Int) (g : List S63) (v : List Int) (hf : f.length ≤ 1048576) (hp : p.length ≤ 1048576) (hg : g.length ≤ 1048576) (hv : v.length ≤ 1048576) : impl_copyPool.f f a p g v = some (f, a, p, g, v) := by
  simp only [impl_copyPool.f, impl_copyInts_ev f hf, impl_copyInts_ev v hv, impl_copyAges_ev a p g hp hg, Option.bind_some]
theorem spec_l09Copy_ev (f : List Int) (a : Int) (p : List Int) (g : List S63) (v : List Int) (hf : f.length ≤ 1048576) (hp : p.length ≤ 1048576) (hg : g.length ≤ 1048576) (hv : v.length ≤ 1048576) : spec_l09Copy.f f a p g v = some (f, a, p, g, v) := by
  simp only [spec_l09Copy.f, spec_l06Copy_ev a p g hp hg, Option.bind_some, List.length_nil, List.nil_append]
  rw [if_pos (by omega), if_pos (by omega)]
abbrev AllocT := List Int × Int × List Int × List S63 × List Int × Int × Bool
def ins (n : Int) : List Int → List Int
  | [] => [n]
  | x :: t => if n < x then n :: x :: t else x :: ins n t
theorem ins_perm (n : Int) : ∀ v : List Int, (ins n v).Perm (v ++ [n])
  | [] => List.Perm.refl _
  | x :: t => by
    unfold ins
    split
    · exact (List.perm_append_singleton n (x :: t)).symm
    · exact (ins_perm n t).cons x
theorem ins_sorted (n : Int) : ∀ v : List Int, v.Pairwise (fun x y => x ≤ y) → (ins n v).Pairwise (fun x y => x ≤ y)
  | [], _ => List.pairwise_singleton _ _
  | x :: t, h => by
    have h' := List.pairwise_cons.1 h
    unfold ins
    split
    case isTrue c =>
      refine List.pairwise_cons.2 ⟨fun y hy => ?_, h⟩
      rcases List.mem_cons.1 hy with rfl | hy
      · omega
      · have := h'.1 y hy; omega
    case isFalse c =>
      refine List.pairwise_cons.2 ⟨fun y hy => ?_, ins_sorted n t h'.2⟩
      rcases List.mem_append.1 ((ins_perm n t).subset hy) with hm | hm
      · exact h'.1 y hm
      · have := List.mem_singleton.1 hm; omega
theorem rises_le (v : List Int) (h : rises v = true) : v.Pairwise (fun x y => x ≤ y) := by
  have h1 := (allN_iff _ _).1 h
  have key : ∀ d i, i + d < v.length → rd v (i : Int) ≤ rd v ((i + d : Nat) : Int) := by
    intro d
    induction d with
    | zero => intro i _; exact Int.le_refl _
    | succ d ih =>
      intro i hi
      have e1 := ih i (by omega)
      have e2 := of_decide_eq_true (h1 (i + d) (by omega))
      rw [show i + (d + 1) = i + d + 1 by omega]
      omega
  rw [List.pairwise_iff_getElem]
  intro i j hi hj hij
  have := key (j - i) i (by omega)
  rw [show i + (j - i) = j by omega, rd_get v i hi, rd_get v j hj] at this
  exact this
theorem ins_sort (n : Int) (v : List Int) (h : rises v = true) : ins n v = sorted (v ++ [n]) :=
  List.Perm.eq_of_pairwise (le := fun x y : Int => x ≤ y) (fun a b _ _ h1 h2 => by omega) (ins_sorted n v (rises_le v h)) (sorted_le _) ((ins_perm n v).trans (sorted_perm _).symm)
theorem spec_ins_ev (v : List Int) (n : Int) (hv : v.length ≤ 1048576) : Ev (fun k => spec_l08With.f k v n) (ins n v) := by
  have key := Ev.scan (fun k (s : List Int × Bool) i => spec_l08With.l0 k n s.1 s.2 v (v.length : Int) i) v.length (fun i s => (s.2 = true → s.1.length ≤ i + 1) ∧ (s.2 = false → s.1.length ≤ i)) (fun i s => if s.2 = true then s.1 ++ v.drop i else s.1 ++ ins n (v.drop i))
    (fun s hs => Ev.some_ fun k => by
      have hb : s.1.length < 17592186044416 := by cases hc : s.2 with
        | true => have := hs.1 hc; omega
        | false => have := hs.2 hc; omega
      simp only [spec_l08With.l0]; rw [if_neg (by omega), List.drop_eq_nil_of_le (Nat.le_refl _), if_pos hb]
      split
      · simp
      · simp [ins])
    (fun i s hi hs => by
      obtain ⟨s, b⟩ := s
      have hb0 : s.length ≤ i + 1 := by cases b with
        | true => exact hs.1 rfl
        | false => have := hs.2 rfl; simp only at this; omega
      have hb : s.length < 17592186044416 := by omega
      have hb2 : (s ++ [n]).length < 17592186044416 := by simp; omega
      have hd : v.drop i = rd v (i : Int) :: v.drop (i + 1) := drop_rd v i hi
      have h0 : ∀ k, spec_l08With.l0 (k + 1) n s b v (v.length : Int) (i : Int) = if b = true then spec_l08With.l0 k n (s ++ [rd v (i : Int)]) b v (v.length : Int) ((i + 1 : Nat) : Int) else if n < rd v (i : Int) then spec_l08With.l0 k n ((s ++ [n]) ++ [rd v (i : Int)]) true v (v.length : Int) ((i + 1 : Nat) : Int) else spec_l08With.l0 k n (s ++ [rd v (i : Int)]) b v (v.length : Int) ((i + 1 : Nat) : Int) := fun k => by
        simp only [spec_l08With.l0, Option.bind_some]; rw [if_pos (by omega), if_pos (by omega), if_pos (by omega), w64s hi (by omega), if_pos hb, if_pos hb, if_pos hb2]
      cases b with
      | true =>
        refine .inr ⟨(s ++ [rd v (i : Int)], true), ⟨fun _ => by simp; omega, fun h => by cases h⟩, ?_, EvE.of fun k => by simp only [h0, if_true]⟩
        simp only [if_true]; rw [hd]; simp
      | false =>
        by_cases c : n < rd v (i : Int)
        · refine .inr ⟨((s ++ [n]) ++ [rd v (i : Int)], true), ?_, ?_, EvE.of fun k => by simp only [h0]; rw [if_neg (by simp), if_pos c]⟩
          · refine ⟨fun _ => ?_, fun h => by cases h⟩
            have := hs.2 rfl; simp only [List.length_append, List.length_singleton] at *; omega
          · simp only [if_true, Bool.false_eq_true, if_false]; rw [hd]; unfold ins; rw [if_pos c]; simp
        · refine .inr ⟨(s ++ [rd v (i : Int)], false), ⟨fun h => by simp only [Bool.false_eq_true] at h, fun _ => by have := hs.2 rfl; simp only [List.length_append, List.length_singleton] at *; omega⟩, ?_, EvE.of fun k => by simp only [h0]; rw [if_neg (by simp), if_neg c]⟩
          simp only [Bool.false_eq_true, if_false]; rw [hd]; conv => rhs; unfold ins
          rw [if_neg c]; simp) 0 ([], false) (Nat.zero_le _) (And.intro (fun h => by simp at h) (fun _ => Nat.le_refl _))
  simpa [spec_l08With.f] using key
def allocV (f : List Int) (a : Int) (p : List Int) (g : List S63) (v : List Int) : AllocT := if poolOk f a p g v = true then (if (f.length : Int) = 0 then (f, a, p, g, v, 0, false) else (f.drop (1 : Int).toNat, a, p, g, sorted (v ++ [rd f 0]), rd f 0, true)) else ([], 0, [], [], [], 0, false)
theorem poolOk_rises {f : List Int} {a : Int} {p : List Int} {g : List S63} {v : List Int} (h : poolOk f a p g v = true) : rises v = true := by
  unfold poolOk at h
  simp only [Bool.and_eq_true] at h
  exact h.2.2.1
theorem spec_Alloc_ev (f : List Int) (a : Int) (p : List Int) (g : List S63) (v : List Int) (hf : f.length ≤ 1048576) (hp : p.length ≤ 1048576) (hg : g.length ≤ 1048576) (hv : v.length ≤ 1048576) : Ev (fun k => spec_Alloc.f k f a p g v) (allocV f a p g v) := by
  refine (evA (spec_PoolOk_ev f a p g v hf hg hv) (evP (spec_ins_ev v (rd f 0) hv))).ev fun k ⟨e1, e2⟩ => ?_
  simp only [spec_Alloc.f, e1, e2, Option.bind_some, spec_l09Copy_ev f a p g v hf hp hg hv]
  unfold allocV
  by_cases c : poolOk f a p g v = true
  case neg => rw [if_neg c, if_neg c]
  rw [if_pos c, if_pos c]
  by_cases d : (f.length : Int) = 0
  · rw [if_pos d, if_pos d]
  · rw [if_neg d, if_neg d, if_pos (by omega), if_pos (by omega), ins_sort _ _ (poolOk_rises c)]
theorem impl_Alloc_ev (f : List Int) (a : Int) (p : List Int) (g : List S63) (v : List Int) (hf : f.length ≤ 1048576) (hp : p.length ≤ 1048576) (hg : g.length ≤ 1048576) (hv : v.length ≤ 1048576) : Ev (fun k => impl_Alloc.f k f a p g v) (allocV f a p g v) := by
  refine (evA (impl_PoolOk_ev f a p g v hf hg hv) (evP (sort_ev (v ++ [rd f 0]) (by simp; omega)))).ev fun k ⟨e1, e2⟩ => ?_
  have hb : v.length < 17592186044416 := by omega
  simp only [impl_Alloc.f, e1, e2, Option.bind_some, impl_copyPool_ev f a p g v hf hp hg hv]
  unfold allocV
  by_cases c : poolOk f a p g v = true
  case neg => rw [if_neg c, if_neg c]
  rw [if_pos c, if_pos c]
  by_cases d : (f.length : Int) = 0
  · rw [if_pos d, if_pos d]
  · rw [if_neg d, if_neg d, if_pos (by omega), if_pos (by omega), if_pos hb]
theorem impl_aged_ev (f : List Int) (a : Int) (p : List Int) (g : List S63) (v : List Int) (A : Int) (P : List Int) (G : List S63) (hf : f.length ≤ 1048576) (hp : p.length ≤ 1048576) (hg : g.length ≤ 1048576) (hv : v.length ≤ 1048576) : impl_aged.f f a p g v A P G = some (f, A, P, G, v) := by
  simp only [impl_aged.f, impl_copyPool_ev f a p g v hf hp hg hv, Option.bind_some]
def withA (f : List Int) (a : Int) (p : List Int) (g : List S63) (v : List Int) (A : AgesT) : PoolT := if poolOk f a p g v = true ∧ A.2.2.2 = true then (f, A.1, A.2.1, A.2.2.1, v, true) else noPool
theorem spec_l09With_ev (f : List Int) (a : Int) (p : List Int) (g : List S63) (v : List Int) (A : AgesT) (hf : f.length ≤ 1048576) (hp : p.length ≤ 1048576) (hg : g.length ≤ 1048576) (hv : v.length ≤ 1048576) : Ev (fun k => spec_l09With.f k f a p g v A.1 A.2.1 A.2.2.1 A.2.2.2) (withA f a p g v A) := by
  refine (evP (spec_PoolOk_ev f a p g v hf hg hv)).ev fun k e => ?_
  simp only [spec_l09With.f, e, Option.bind_some, spec_l09Copy_ev f a p g v hf hp hg hv]
  unfold withA
  by_cases c : poolOk f a p g v = true
  · rw [if_pos c]
    by_cases d : A.2.2.2 = true
    · rw [if_pos d, if_pos ⟨c, d⟩]
    · rw [if_neg d, if_neg (fun h => d h.2)]; rfl
  · rw [if_neg c, if_neg (fun h => c h.1)]; rfl
abbrev hasH (p : List Int) (h : Int) : Prop := 0 ≤ h ∧ h < (p.length : Int)
def setA (a : Int) (p : List Int) (g : List S63) (h : Int) (on : Bool) (x : Int) : AgesT := if agesOk a p g = true ∧ hasH p h ∧ (rd p h != -1) = on then (a, p.set h.toNat x, g, true) else noAges
theorem spec_l06Set_ev (a : Int) (p : List Int) (g : List S63) (h : Int) (on : Bool) (x : Int) (hp : p.length ≤ 1048576) (hg : g.length ≤ 1048576) : Ev (fun k => spec_l06Set.f k a p g h on x) (setA a p g h on x) := by
  refine (evP (spec_AgesOk_ev a p g)).ev fun k e => ?_
  simp only [spec_l06Set.f, e, Option.bind_some, spec_l06Copy_ev a p g hp hg]
  unfold setA
  by_cases c : agesOk a p g = true
  case neg => rw [if_neg c, if_neg (fun q => c q.1)]; rfl
  rw [if_pos c]
  by_cases c1 : h < 0
  · rw [if_pos c1, if_neg (fun q => by have := q.2.1.1; omega)]; rfl
  by_cases c2 : h ≥ (p.length : Int)
  · rw [if_neg c1, if_pos c2, if_neg (fun q => by have := q.2.1.2; omega)]; rfl
  rw [if_neg c1, if_neg c2, if_pos (by omega), if_pos (by omega)]
  have hh : hasH p h := ⟨by omega, by omega⟩
  by_cases d : (rd p h != -1) = on
  · rw [d, if_neg (by simp), if_pos (by omega), if_pos ⟨c, hh, rfl⟩]
  · rw [if_pos (bne_iff_ne.2 d), if_neg (fun q => d q.2.2)]; rfl
theorem pinned_eq2 (a : Int) (p : List Int) (g : List S63) (h : Int) (hp : p.length ≤ 1048576) : impl_Ages_isPinned.f a p g h = some (decide (hasH p h) && (rd p h != -1), decide (hasH p h)) := by
  simp only [impl_Ages_isPinned.f, within_ev, Option.bind_some]
  rw [w64 (by omega) (by omega)]
  by_cases c : hasH p h
  · rw [decide_eq_true c, if_pos (decide_eq_true ⟨c.1, by have := c.2; omega⟩), if_pos c.1, if_pos c.2, Bool.true_and]
  · rw [decide_eq_false c, if_neg (by simp only [decide_eq_true_eq]; exact fun q => c ⟨q.1, by omega⟩), Bool.false_and]
theorem spec_Enter_ev (f : List Int) (a : Int) (p : List Int) (g : List S63) (v : List Int) (h : Int) (hf : f.length ≤ 1048576) (hp : p.length ≤ 1048576) (hg : g.length ≤ 1048576) (hv : v.length ≤ 1048576) : Ev (fun k => spec_Enter.f k f a p g v h) (withA f a p g v (setA a p g h false a)) := by
  refine (evA (spec_l06Set_ev a p g h false a hp hg) (evP (spec_l09With_ev f a p g v (setA a p g h false a) hf hp hg hv))).ev fun k ⟨e1, e2⟩ => ?_
  simp only [spec_Enter.f, spec_Pin.f, e1, Option.bind_some, e2]
theorem impl_Pin_ev (a : Int) (p : List Int) (g : List S63) (h : Int) (hp : p.length ≤ 1048576) (hg : g.length ≤ 1048576) : Ev (fun k => impl_Pin.f k a p g h) (setA a p g h false a) := by
  refine (evP (impl_AgesOk_ev a p g)).ev fun k e => ?_
  simp only [impl_Pin.f, pinned_eq2 a p g h hp, e, Option.bind_some, impl_copyAges_ev a p g hp hg, decide_eq_true_eq]
  unfold setA
  by_cases c : agesOk a p g = true
  case neg => rw [if_neg c, if_neg (fun q => c q.1)]; rfl
  rw [if_pos c]
  by_cases d : hasH p h
  case neg => rw [if_neg d, if_neg (fun q => d q.2.1)]; rfl
  rw [if_pos d, decide_eq_true d, Bool.true_and]
  cases e : (rd p h != -1) with
  | true => rw [if_pos rfl, if_neg (fun q => by simp at q)]; rfl
  | false => rw [if_neg (by simp), if_pos d.1, if_pos d.2, if_pos ⟨c, d, rfl⟩]
theorem impl_Enter_ev (f : List Int) (a : Int) (p : List Int) (g : List S63) (v : List Int) (h : Int) (hf : f.length ≤ 1048576) (hp : p.length ≤ 1048576) (hg : g.length ≤ 1048576) (hv : v.length ≤ 1048576) : Ev (fun k => impl_Enter.f k f a p g v h) (withA f a p g v (setA a p g h false a)) := by
  refine (evA (impl_Pin_ev a p g h hp hg) (evP (impl_PoolOk_ev f a p g v hf hg hv))).ev fun k ⟨e1, e2⟩ => ?_
  simp only [impl_Enter.f, e1, e2, Option.bind_some, impl_aged_ev f a p g v _ _ _ hf hp hg hv]
  unfold withA
  by_cases c : poolOk f a p g v = true
  · rw [if_pos c]
    by_cases d : (setA a p g h false a).2.2.2 = true
    · rw [if_pos d, if_pos ⟨c, d⟩]
    · rw [if_neg d, if_neg (fun h => d h.2)]; rfl
  · rw [if_neg c, if_neg (fun h => c h.1)]; rfl
theorem spec_Leave_ev (f : List Int) (a : Int) (p : List Int) (g : List S63) (v : List Int) (h : Int) (hf : f.length ≤ 1048576) (hp : p.length ≤ 1048576) (hg : g.length ≤ 1048576) (hv : v.length ≤ 1048576) : Ev (fun k => spec_Leave.f k f a p g v h) (withA f a p g v (setA a p g h true (-1))) := by
  refine (evA (spec_l06Set_ev a p g h true (-1) hp hg) (evP (spec_l09With_ev f a p g v (setA a p g h true (-1)) hf hp hg hv))).ev fun k ⟨e1, e2⟩ => ?_
  simp only [spec_Leave.f, spec_Unpin.f, e1, Option.bind_some, e2]
theorem impl_Unpin_ev (a : Int) (p : List Int) (g : List S63) (h : Int) (hp : p.length ≤ 1048576) (hg : g.length ≤ 1048576) : Ev (fun k => impl_Unpin.f k a p g h) (setA a p g h true (-1)) := by
  refine (evP (impl_AgesOk_ev a p g)).ev fun k e => ?_
  simp only [impl_Unpin.f, pinned_eq2 a p g h hp, e, Option.bind_some, impl_copyAges_ev a p g hp hg]
  unfold setA
  by_cases c : agesOk a p g = true
  case neg => rw [if_neg c, if_neg (fun q => c q.1)]; rfl
  rw [if_pos c]
  by_cases d : hasH p h
  case neg => rw [decide_eq_false d, Bool.false_and, if_neg (by simp), if_neg (fun q => d q.2.1)]; rfl
  rw [decide_eq_true d, Bool.true_and]
  cases e : (rd p h != -1) with
  | true => rw [if_pos rfl, if_pos d.1, if_pos d.2, if_pos ⟨c, d, rfl⟩]
  | false => rw [if_neg (by simp), if_neg (fun q => by simp at q)]; rfl
theorem impl_Leave_ev (f : List Int) (a : Int) (p : List Int) (g : List S63) (v : List Int) (h : Int) (hf : f.length ≤ 1048576) (hp : p.length ≤ 1048576) (hg : g.length ≤ 1048576) (hv : v.length ≤ 1048576) : Ev (fun k => impl_Leave.f k f a p g v h) (withA f a p g v (setA a p g h true (-1))) := by
  refine (evA (impl_Unpin_ev a p g h hp hg) (evP (impl_PoolOk_ev f a p g v hf hg hv))).ev fun k ⟨e1, e2⟩ => ?_
  simp only [impl_Leave.f, e1, e2, Option.bind_some, impl_aged_ev f a p g v _ _ _ hf hp hg hv]
  unfold withA
  by_cases c : poolOk f a p g v = true
  · rw [if_pos c]
    by_cases d : (setA a p g h true (-1)).2.2.2 = true
    · rw [if_pos d, if_pos ⟨c, d⟩]
    · rw [if_neg d, if_neg (fun h => d h.2)]; rfl
  · rw [if_neg c, if_neg (fun h => c h.1)]; rfl
def stepA (a : Int) (p : List Int) (g : List S63) : AgesT := if a = 4294967295 then (a, p, g, false) else (wrap64 (a + 1), p, g, true)
def goes (a : Int) (l : List Int) : Bool := l.all fun x => decide (x = -1 ∨ x = a)
def advA (a : Int) (p : List Int) (g : List S63) : AgesT := if agesOk a p g = true then (if goes a p = true then stepA a p g else (a, p, g, false)) else noAges
theorem spec_adv_loop (a : Int) (p : List Int) (g : List S63) (hp : p.length ≤ 1048576) : Ev (fun k => spec_Advance.l0 k p (p.length : Int) 0 a p g a p g) (if goes a p = true then stepA a p g else (a, p, g, false)) := by
  have key := Ev.scan (fun k (_ : Unit) i => spec_Advance.l0 k p (p.length : Int) i a p g a p g) p.length (fun _ _ => True) (fun i _ => if goes a (p.drop i) = true then stepA a p g else (a, p, g, false))
    (fun _ _ => Ev.some_ fun k => by
      simp only [spec_Advance.l0]; rw [if_neg (by omega), List.drop_eq_nil_of_le (Nat.le_refl _), show goes a [] = true from rfl, if_pos rfl]
      unfold stepA
      by_cases c : a = 4294967295
      · rw [if_pos c, if_pos c]
      · rw [if_neg c, if_neg c])
    (fun i _ hi _ => by
      have hd : p.drop i = rd p (i : Int) :: p.drop (i + 1) := by rw [rd_nat]; exact drop_cons (0 : Int) p i hi
      have hg : goes a (rd p (i : Int) :: p.drop (i + 1)) = (decide (rd p (i : Int) = -1 ∨ rd p (i : Int) = a) && goes a (p.drop (i + 1))) := rfl
      rw [hd, hg]
      have hs : ∀ k, spec_Advance.l0 (k + 1) p (p.length : Int) (i : Int) a p g a p g = if (rd p (i : Int) = -1 ∨ rd p (i : Int) = a) then spec_Advance.l0 k p (p.length : Int) ((i + 1 : Nat) : Int) a p g a p g else some (a, p, g, false) := fun k => by
        simp only [spec_Advance.l0]; rw [if_pos (by omega), if_pos (by omega), if_pos (by omega), w64s hi (by omega)]
        by_cases c1 : rd p (i : Int) = -1
        · rw [if_pos c1, if_pos (.inl c1)]
        · rw [if_neg c1]
          by_cases c2 : rd p (i : Int) = a
          · rw [if_pos c2, if_pos (.inr c2)]
          · rw [if_neg c2, if_neg (fun h => h.elim c1 c2)]
      by_cases c : rd p (i : Int) = -1 ∨ rd p (i : Int) = a
      · exact .inr ⟨(), trivial, by rw [decide_eq_true c, Bool.true_and], EvE.of fun k => by simp only [hs]; rw [if_pos c]⟩
      · exact .inl (Ev.some_ fun k => by simp only [hs]; rw [if_neg c, decide_eq_false c, Bool.false_and, if_neg (by simp)])) 0 () (Nat.zero_le _) trivial
  exact key
theorem impl_adv_loop (a : Int) (p : List Int) (g : List S63) (hp : p.length ≤ 1048576) : Ev (fun k => impl_Advance.l0 k p (p.length : Int) 0 a p g a p g) (if goes a p = true then stepA a p g else (a, p, g, false)) := by
  have key := Ev.scan (fun k (_ : Unit) i => impl_Advance.l0 k p (p.length : Int) i a p g a p g) p.length (fun _ _ => True) (fun i _ => if goes a (p.drop i) = true then stepA a p g else (a, p, g, false))
    (fun _ _ => Ev.some_ fun k => by
      simp only [impl_Advance.l0]; rw [if_neg (by omega), List.drop_eq_nil_of_le (Nat.le_refl _), show goes a [] = true from rfl, if_pos rfl]
      unfold stepA
      by_cases c : a = 4294967295
      · rw [if_pos c, if_pos c]
      · rw [if_neg c, if_neg c])
    (fun i _ hi _ => by
      have hd : p.drop i = rd p (i : Int) :: p.drop (i + 1) := by rw [rd_nat]; exact drop_cons (0 : Int) p i hi
      have hg : goes a (rd p (i : Int) :: p.drop (i + 1)) = (decide (rd p (i : Int) = -1 ∨ rd p (i : Int) = a) && goes a (p.drop (i + 1))) := rfl
      rw [hd, hg]
      have hs : ∀ k, impl_Advance.l0 (k + 1) p (p.length : Int) (i : Int) a p g a p g = if (rd p (i : Int) = -1 ∨ rd p (i : Int) = a) then impl_Advance.l0 k p (p.length : Int) ((i + 1 : Nat) : Int) a p g a p g else some (a, p, g, false) := fun k => by
        simp only [impl_Advance.l0]; rw [if_pos (by omega), if_pos (by omega), if_pos (by omega), w64s hi (by omega)]
        by_cases c1 : rd p (i : Int) = -1
        · rw [if_pos c1, if_pos (.inl c1)]
        · rw [if_neg c1]
          by_cases c2 : rd p (i : Int) = a
          · rw [if_pos c2, if_pos (.inr c2)]
          · rw [if_neg c2, if_neg (fun h => h.elim c1 c2)]
      by_cases c : rd p (i : Int) = -1 ∨ rd p (i : Int) = a
      · exact .inr ⟨(), trivial, by rw [decide_eq_true c, Bool.true_and], EvE.of fun k => by simp only [hs]; rw [if_pos c]⟩
      · exact .inl (Ev.some_ fun k => by simp only [hs]; rw [if_neg c, decide_eq_false c, Bool.false_and, if_neg (by simp)])) 0 () (Nat.zero_le _) trivial
  exact key
theorem spec_Advance_ev (a : Int) (p : List Int) (g : List S63) (hp : p.length ≤ 1048576) (hg : g.length ≤ 1048576) : Ev (fun k => spec_Advance.f k a p g) (advA a p g) := by
  refine (evA (spec_AgesOk_ev a p g) (evP (spec_adv_loop a p g hp))).ev fun k ⟨e1, e2⟩ => ?_
  simp only [spec_Advance.f, e1, Option.bind_some, spec_l06Copy_ev a p g hp hg, e2]
  unfold advA
  by_cases c : agesOk a p g = true
  · rw [if_pos c, if_pos c]
  · rw [if_neg c, if_neg c]; rfl
theorem impl_Advance_ev (a : Int) (p : List Int) (g : List S63) (hp : p.length ≤ 1048576) (hg : g.length ≤ 1048576) : Ev (fun k => impl_Advance.f k a p g) (advA a p g) := by
  refine (evA (impl_AgesOk_ev a p g) (evP (impl_adv_loop a p g hp))).ev fun k ⟨e1, e2⟩ => ?_
  simp only [impl_Advance.f, e1, Option.bind_some, impl_copyAges_ev a p g hp hg, e2]
  unfold advA
  by_cases c : agesOk a p g = true
  · rw [if_pos c, if_pos c]
  · rw [if_neg c, if_neg c]; rfl
def turnV (f : List Int) (a : Int) (p : List Int) (g : List S63) (v : List Int) : PoolT := if poolOk f a p g v = true then (f, (advA a p g).1, (advA a p g).2.1, (advA a p g).2.2.1, v, (advA a p g).2.2.2) else noPool
theorem ok_ages (f : List Int) (a : Int) (p : List Int) (g : List S63) (v : List Int) (h : poolOk f a p g v = true) : agesOk a p g = true := by
  unfold poolOk at h; simp only [Bool.and_eq_true] at h; exact h.1
theorem adv_stays (a : Int) (p : List Int) (g : List S63) (h : agesOk a p g = true) (h2 : (advA a p g).2.2.2 = false) : advA a p g = (a, p, g, false) := by
  unfold advA at h2 ⊢
  rw [if_pos h] at h2 ⊢
  by_cases c : goes a p = true
  · rw [if_pos c] at h2 ⊢
    unfold stepA at h2 ⊢
    by_cases d : a = 4294967295
    · rw [if_pos d]
    · rw [if_neg d] at h2; exact absurd h2 (by simp)
  · rw [if_neg c]
theorem impl_Turn_ev (f : List Int) (a : Int) (p : List Int) (g : List S63) (v : List Int) (hf : f.length ≤ 1048576) (hp : p.length ≤ 1048576) (hg : g.length ≤ 1048576) (hv : v.length ≤ 1048576) : Ev (fun k => impl_Turn.f k f a p g v) (turnV f a p g v) := by
  refine (evA (impl_PoolOk_ev f a p g v hf hg hv) (evP (impl_Advance_ev a p g hp hg))).ev fun k ⟨e1, e2⟩ => ?_
  simp only [impl_Turn.f, e1, e2, Option.bind_some, impl_aged_ev f a p g v _ _ _ hf hp hg hv]
  unfold turnV
  by_cases c : poolOk f a p g v = true
  · rw [if_pos c, if_pos c]
  · rw [if_neg c, if_neg c]; rfl
theorem spec_Turn_ev (f : List Int) (a : Int) (p : List Int) (g : List S63) (v : List Int) (hf : f.length ≤ 1048576) (hp : p.length ≤ 1048576) (hg : g.length ≤ 1048576) (hv : v.length ≤ 1048576) : Ev (fun k => spec_Turn.f k f a p g v) (turnV f a p g v) := by
  have hw := spec_l09With_ev f a p g v (advA a p g) hf hp hg hv
  have hP := spec_PoolOk_ev f a p g v hf hg hv
  have hA := spec_Advance_ev a p g hp hg
  have hj : poolOk f a p g v = true → (advA a p g).2.2.2 = false → Ev (fun k => spec_Turn.j0 k (advA a p g).2.2.2 true f a p g v (advA a p g).1 (advA a p g).2.1 (advA a p g).2.2.1) (turnV f a p g v) := fun c d =>
    Ev.up (g := fun _ => some (turnV f a p g v)) (EvE.of fun k => by
      simp only [spec_Turn.j0, if_true, spec_l09Copy_ev f a p g v hf hp hg hv, Option.bind_some]
      unfold turnV
      rw [if_pos c, adv_stays a p g (ok_ages f a p g v c) d]) (Ev.now _)
  have hn : withA f a p g v (advA a p g) = turnV f a p g v → Ev (fun k => spec_Turn.j0 k (advA a p g).2.2.2 false f a p g v (advA a p g).1 (advA a p g).2.1 (advA a p g).2.2.1) (turnV f a p g v) := fun c =>
    Ev.up (g := fun _ => some (turnV f a p g v)) ((evP hw).eve fun k e => by
      simp only [spec_Turn.j0, Bool.false_eq_true, if_false, e, Option.bind_some]
      rw [← c]) (Ev.now _)
  by_cases c : poolOk f a p g v = true
  · cases d : (advA a p g).2.2.2 with
    | false =>
      refine (evA hA (evA hP (evP (hj c d)))).ev fun k ⟨e1, e2, e3⟩ => ?_
      simp only [spec_Turn.f, e1, e2, Option.bind_some]
      rw [if_pos c, d, Bool.not_false]
      rw [d] at e3
      exact e3
    | true =>
      have hq : withA f a p g v (advA a p g) = turnV f a p g v := by
        unfold withA turnV; rw [if_pos ⟨c, d⟩, if_pos c, d]
      refine (evA hA (evA hP (evP (hn hq)))).ev fun k ⟨e1, e2, e3⟩ => ?_
      simp only [spec_Turn.f, e1, e2, Option.bind_some]
      rw [if_pos c, d, Bool.not_true]
      rw [d] at e3
      exact e3
  · have hq : withA f a p g v (advA a p g) = turnV f a p g v := by
      unfold withA turnV; rw [if_neg (fun q => c q.1), if_neg c]
    refine (evA hA (evA hP (evP (hn hq)))).ev fun k ⟨e1, e2, e3⟩ => ?_
    simp only [spec_Turn.f, e1, e2, Option.bind_some]
    rw [if_neg c]
    exact e3
def leaves (a : Int) (y : S63) : Bool := decide (y.f1 ≤ wrap64 (a - 2))
def stays (a : Int) (y : S63) : Bool := !decide (y.f1 ≤ wrap64 (a - 2))
abbrev ColT := Int × List Int × List S63 × List Int
def noCol : ColT := (0, [], [], [])
def colA (a : Int) (p : List Int) (g : List S63) : ColT := if agesOk a p g = true then (a, p, g.filter (stays a), (g.filter (leaves a)).map (·.f0)) else noCol
theorem spec_col_loop (a : Int) (p : List Int) (g : List S63) (hg : g.length ≤ 1048576) : Ev (fun k => spec_Collect.l0 k [] g (g.length : Int) 0 a p g a p []) (a, p, g.filter (stays a), (g.filter (leaves a)).map (·.f0)) := by
  have key := Ev.scan (fun k (s : List Int × List S63) i => spec_Collect.l0 k s.1 g (g.length : Int) i a p g a p s.2) g.length (fun i s => s.1.length ≤ i ∧ s.2.length ≤ i) (fun i s => (a, p, s.2 ++ (g.drop i).filter (stays a), s.1 ++ ((g.drop i).filter (leaves a)).map (·.f0)))
    (fun s _ => Ev.some_ fun k => by
      simp only [spec_Collect.l0]; rw [if_neg (by omega), List.drop_eq_nil_of_le (Nat.le_refl _)]; simp)
    (fun i s hi hs => by
      have hd : g.drop i = rg g i :: g.drop (i + 1) := drop_cons z63 g i hi
      have h0 : ∀ k, spec_Collect.l0 (k + 1) s.1 g (g.length : Int) (i : Int) a p g a p s.2 = if (rg g i).f1 ≤ wrap64 (a - 2) then spec_Collect.l0 k (s.1 ++ [(rg g i).f0]) g (g.length : Int) ((i + 1 : Nat) : Int) a p g a p s.2 else spec_Collect.l0 k s.1 g (g.length : Int) ((i + 1 : Nat) : Int) a p g a p (s.2 ++ [rg g i]) := fun k => by
        simp only [spec_Collect.l0, rd_rg]; rw [if_pos (by omega), if_pos (by omega), if_pos (by omega), w64s hi (by omega)]
        by_cases c : (rg g i).f1 ≤ wrap64 (a - 2)
        · rw [if_pos c, if_pos c, if_pos (show s.1.length < 17592186044416 by omega)]
        · rw [if_neg c, if_neg c, if_pos (show s.2.length < 8796093022208 by omega)]
      by_cases c : (rg g i).f1 ≤ wrap64 (a - 2)
      · refine .inr ⟨(s.1 ++ [(rg g i).f0], s.2), ⟨by simp; omega, by simp only; omega⟩, ?_, EvE.of fun k => by simp only [h0]; rw [if_pos c]⟩
        rw [hd, List.filter_cons_of_neg (by unfold stays; simpa using c), List.filter_cons_of_pos (by unfold leaves; simpa using c)]
        simp
      · refine .inr ⟨(s.1, s.2 ++ [rg g i]), ⟨by simp only; omega, by simp; omega⟩, ?_, EvE.of fun k => by simp only [h0]; rw [if_neg c]⟩
        rw [hd, List.filter_cons_of_pos (by unfold stays; simpa using c), List.filter_cons_of_neg (by unfold leaves; simpa using c)]
        simp) 0 ([], []) (Nat.zero_le _) ⟨Nat.le_refl _, Nat.le_refl _⟩
  simpa using key
theorem impl_col_loop (a : Int) (p : List Int) (g : List S63) (hg : g.length ≤ 1048576) : Ev (fun k => impl_Collect.l0 k [] g (g.length : Int) 0 a p g a p []) (a, p, g.filter (stays a), (g.filter (leaves a)).map (·.f0)) := by
  have key := Ev.scan (fun k (s : List Int × List S63) i => impl_Collect.l0 k s.1 g (g.length : Int) i a p g a p s.2) g.length (fun i s => s.1.length ≤ i ∧ s.2.length ≤ i) (fun i s => (a, p, s.2 ++ (g.drop i).filter (stays a), s.1 ++ ((g.drop i).filter (leaves a)).map (·.f0)))
    (fun s _ => Ev.some_ fun k => by
      simp only [impl_Collect.l0]; rw [if_neg (by omega), List.drop_eq_nil_of_le (Nat.le_refl _)]; simp)
    (fun i s hi hs => by
      have hd : g.drop i = rg g i :: g.drop (i + 1) := drop_cons z63 g i hi
      have h0 : ∀ k, impl_Collect.l0 (k + 1) s.1 g (g.length : Int) (i : Int) a p g a p s.2 = if (rg g i).f1 ≤ wrap64 (a - 2) then impl_Collect.l0 k (s.1 ++ [(rg g i).f0]) g (g.length : Int) ((i + 1 : Nat) : Int) a p g a p s.2 else impl_Collect.l0 k s.1 g (g.length : Int) ((i + 1 : Nat) : Int) a p g a p (s.2 ++ [rg g i]) := fun k => by
        simp only [impl_Collect.l0, rd_rg]; rw [if_pos (by omega), if_pos (by omega), if_pos (by omega), w64s hi (by omega)]
        by_cases c : (rg g i).f1 ≤ wrap64 (a - 2)
        · rw [if_pos c, if_pos c, if_pos (show s.1.length < 17592186044416 by omega)]
        · rw [if_neg c, if_neg c, if_pos (show s.2.length < 8796093022208 by omega)]
      by_cases c : (rg g i).f1 ≤ wrap64 (a - 2)
      · refine .inr ⟨(s.1 ++ [(rg g i).f0], s.2), ⟨by simp; omega, by simp only; omega⟩, ?_, EvE.of fun k => by simp only [h0]; rw [if_pos c]⟩
        rw [hd, List.filter_cons_of_neg (by unfold stays; simpa using c), List.filter_cons_of_pos (by unfold leaves; simpa using c)]
        simp
      · refine .inr ⟨(s.1, s.2 ++ [rg g i]), ⟨by simp only; omega, by simp; omega⟩, ?_, EvE.of fun k => by simp only [h0]; rw [if_neg c]⟩
        rw [hd, List.filter_cons_of_pos (by unfold stays; simpa using c), List.filter_cons_of_neg (by unfold leaves; simpa using c)]
        simp) 0 ([], []) (Nat.zero_le _) ⟨Nat.le_refl _, Nat.le_refl _⟩
  simpa using key
theorem spec_Collect_ev (a : Int) (p : List Int) (g : List S63) (hp : p.length ≤ 1048576) (hg : g.length ≤ 1048576) : Ev (fun k => spec_Collect.f k a p g) (colA a p g) := by
  refine (evA (spec_AgesOk_ev a p g) (evP (spec_col_loop a p g hg))).ev fun k ⟨e1, e2⟩ => ?_
  simp only [spec_Collect.f, e1, Option.bind_some, List.nil_append, List.length_nil, e2]
  unfold colA
  by_cases c : agesOk a p g = true
  · rw [if_pos c, if_pos c, if_pos (by omega)]
  · rw [if_neg c, if_neg c]; rfl
theorem impl_Collect_ev (a : Int) (p : List Int) (g : List S63) (hp : p.length ≤ 1048576) (hg : g.length ≤ 1048576) : Ev (fun k => impl_Collect.f k a p g) (colA a p g) := by
  refine (evA (impl_AgesOk_ev a p g) (evP (impl_col_loop a p g hg))).ev fun k ⟨e1, e2⟩ => ?_
  simp only [impl_Collect.f, e1, Option.bind_some, impl_copyAges_ev a p g hp hg, e2]
  unfold colA
  by_cases c : agesOk a p g = true
  · rw [if_pos c, if_pos c]
  · rw [if_neg c, if_neg c]; rfl
theorem colA_len (a : Int) (p : List Int) (g : List S63) (hp : p.length ≤ 1048576) (hg : g.length ≤ 1048576) : (colA a p g).2.1.length ≤ 1048576 ∧ (colA a p g).2.2.1.length ≤ 1048576 ∧ (colA a p g).2.2.2.length ≤ 1048576 := by
  unfold colA
  split
  · have h1 := List.length_filter_le (stays a) g
    have h2 := List.length_filter_le (leaves a) g
    simp only [List.length_map]; omega
  · simp only [noCol, List.length_nil]; omega
abbrev RecT := List Int × Int × List Int × List S63 × List Int × List Int
def noRec : RecT := ([], 0, [], [], [], [])
def recV (f : List Int) (a : Int) (p : List Int) (g : List S63) (v : List Int) : RecT := if poolOk f a p g v = true then ((colA a p g).2.2.2 ++ f, (colA a p g).1, (colA a p g).2.1, (colA a p g).2.2.1, v, (colA a p g).2.2.2) else noRec
theorem spec_Reclaim_ev (f : List Int) (a : Int) (p : List Int) (g : List S63) (v : List Int) (hf : f.length ≤ 1048576) (hp : p.length ≤ 1048576) (hg : g.length ≤ 1048576) (hv : v.length ≤ 1048576) : Ev (fun k => spec_Reclaim.f k f a p g v) (recV f a p g v) := by
  refine (evA (spec_PoolOk_ev f a p g v hf hg hv) (evP (spec_Collect_ev a p g hp hg))).ev fun k ⟨e1, e2⟩ => ?_
  have hl := colA_len a p g hp hg
  simp only [spec_Reclaim.f, e1, e2, Option.bind_some, spec_l09Copy_ev f a p g v hf hp hg hv, List.nil_append, List.length_nil]
  unfold recV
  by_cases c : poolOk f a p g v = true
  · rw [if_pos c, if_pos c, if_pos (by omega), if_pos (by omega)]
  · rw [if_neg c, if_neg c]; rfl
theorem impl_Reclaim_ev (f : List Int) (a : Int) (p : List Int) (g : List S63) (v : List Int) (hf : f.length ≤ 1048576) (hp : p.length ≤ 1048576) (hg : g.length ≤ 1048576) (hv : v.length ≤ 1048576) : Ev (fun k => impl_Reclaim.f k f a p g v) (recV f a p g v) := by
  refine (evA (impl_PoolOk_ev f a p g v hf hg hv) (evP (impl_Collect_ev a p g hp hg))).ev fun k ⟨e1, e2⟩ => ?_
  have hl := colA_len a p g hp hg
  simp only [impl_Reclaim.f, e1, e2, Option.bind_some, impl_copyPool_ev f a p g v hf hp hg hv, impl_copyInts_ev _ hl.2.2]
  unfold recV
  by_cases c : poolOk f a p g v = true
  · rw [if_pos c, if_pos c, if_pos (by omega)]
  · rw [if_neg c, if_neg c]; rfl
theorem slices_ContainsI_ev (l : List Int) (x : Int) (hl : l.length ≤ 1048576) : Ev (fun k => slices_Contains_int_int.f k l x) (hasN l x) := by
  have key : ∃ r, Ev (fun k => slices_Index_int_int.f k l x) r ∧ decide (r ≥ 0) = hasN l x := by
    have key := Ev.scan (fun k (_ : Unit) i => slices_Index_int_int.l0 k l x (l.length : Int) i) l.length (fun _ _ => True) (fun i _ => if hasN (l.drop i) x then (((l.drop i).findIdx (fun y => decide (y = x)) + i : Nat) : Int) else -1)
      (fun _ _ => Ev.some_ fun k => by simp only [slices_Index_int_int.l0]; rw [if_neg (by omega), List.drop_eq_nil_of_le (Nat.le_refl _)]; rfl)
      (fun i _ hi _ => by
        have hd := drop_rd l i hi
        have hs : ∀ k, slices_Index_int_int.l0 (k + 1) l x (l.length : Int) (i : Int) = if rd l (i : Int) = x then some (i : Int) else slices_Index_int_int.l0 k l x (l.length : Int) ((i + 1 : Nat) : Int) := fun k => by
          simp only [slices_Index_int_int.l0]; rw [if_pos (by omega), if_pos (by omega), if_pos (by omega), w64s hi (by omega)]
          simp only [eq_comm]
        rw [hd, hasN_cons, List.findIdx_cons]
        by_cases c : rd l (i : Int) = x
        · exact .inl (Ev.some_ fun k => by simp only [hs]; rw [if_pos c, decide_eq_true c]; simp)
        · exact .inr ⟨(), trivial, by
            rw [decide_eq_false c]; simp only [Bool.false_or, cond_false]
            split <;> omega, EvE.of fun k => by simp only [hs]; rw [if_neg c]⟩) 0 () (Nat.zero_le _) trivial
    refine ⟨_, (by simpa [slices_Index_int_int.f] using key), ?_⟩
    cases hasN l x with
    | true => simp only [if_true]; exact decide_eq_true (by omega)
    | false => rfl
  obtain ⟨r, hr, e⟩ := key
  rw [← e]
  exact (evP hr).ev fun k e1 => by simp only [slices_Contains_int_int.f, e1, Option.bind_some]
/-- Where a node lies in the limbo. -/
def LimAt (g : List S63) (x t : Int) : Prop := (t = -1 ∧ ∀ j, j < g.length → (rg g j).f0 ≠ x) ∨ ∃ n : Nat, t = (n : Int) ∧ n < g.length ∧ (rg g n).f0 = x ∧ ∀ j, j < n → (rg g j).f0 ≠ x
theorem lim_ex (a : Int) (p : List Int) (g : List S63) (hg : g.length ≤ 1048576) (x : Int) : ∃ t, LimAt g x t ∧ Ev (fun k => impl_Ages_inLimbo.f k a p g x) t :=
  Ev.scanX (fun k (_ : Unit) i => impl_Ages_inLimbo.l0 k x g (g.length : Int) i) g.length (fun i _ => ∀ j, j < i → (rg g j).f0 ≠ x) (LimAt g x)
    (fun _ h => ⟨-1, .inl ⟨rfl, h⟩, Ev.some_ fun k => by simp only [impl_Ages_inLimbo.l0]; rw [if_neg (by omega)]⟩)
    (fun i _ hi h => by
      have hs : ∀ k, impl_Ages_inLimbo.l0 (k + 1) x g (g.length : Int) (i : Int) = if (rg g i).f0 = x then some (i : Int) else impl_Ages_inLimbo.l0 k x g (g.length : Int) ((i + 1 : Nat) : Int) := fun k => by
        simp only [impl_Ages_inLimbo.l0, rd_rg]; rw [if_pos (by omega), if_pos (by omega), if_pos (by omega), w64s hi (by omega)]
      by_cases c : (rg g i).f0 = x
      · exact .inl ⟨i, .inr ⟨i, rfl, hi, c, h⟩, Ev.some_ fun k => by simp only [hs]; rw [if_pos c]⟩
      · refine .inr ⟨(), fun j hj => ?_, EvE.of fun k => by simp only [hs]; rw [if_neg c]⟩
        by_cases e : j = i
        · rw [e]; exact c
        · exact h j (by omega)) 0 () (Nat.zero_le _) (fun j hj => absurd hj (by omega))
def retA (a : Int) (p : List Int) (g : List S63) (x : Int) : AgesT := if agesOk a p g = true ∧ nodeIn g x = false ∧ (g.length : Int) ≠ 100 then (a, p, g ++ [(⟨x, a⟩ : S63)], true) else noAges
theorem spec_Retire_ev (a : Int) (p : List Int) (g : List S63) (x : Int) (hp : p.length ≤ 1048576) (hg : g.length ≤ 1048576) : Ev (fun k => spec_Retire.f k a p g x) (retA a p g x) := by
  refine (evA (spec_AgesOk_ev a p g) (evP (spec_l06Node_ev g x hg))).ev fun k ⟨e1, e2⟩ => ?_
  simp only [spec_Retire.f, e1, e2, Option.bind_some, spec_l06Copy_ev a p g hp hg]
  unfold retA
  by_cases c : agesOk a p g = true
  case neg => rw [if_neg c, if_neg (fun q => c q.1)]; rfl
  rw [if_pos c]
  cases d : nodeIn g x with
  | true => rw [if_pos rfl, if_neg (fun q => by simp at q)]; rfl
  | false =>
    rw [if_neg (by simp)]
    by_cases e : (g.length : Int) = 100
    · rw [if_pos e, if_neg (fun q => q.2.2 e)]; rfl
    · rw [if_neg e, if_pos (by omega), if_pos ⟨c, rfl, e⟩]
theorem node_lim (g : List S63) (x t : Int) (h : LimAt g x t) : nodeIn g x = decide (t ≥ 0) := by
  unfold nodeIn
  rcases h with ⟨rfl, hn⟩ | ⟨n, rfl, hl, hx, _⟩
  · rw [decide_eq_false (by omega), List.any_eq_false]
    intro y hy
    obtain ⟨m, hm, rfl⟩ := List.getElem_of_mem hy
    have e : rg g m = g[m] := by unfold rg; simp [hm]
    have := hn m hm
    rw [e] at this
    simpa using this
  · rw [decide_eq_true (by omega), List.any_eq_true]
    have e : rg g n = g[n] := by unfold rg; simp [hl]
    exact ⟨g[n], List.getElem_mem hl, by rw [← e]; simpa using hx⟩
theorem impl_Retire_ev (a : Int) (p : List Int) (g : List S63) (x : Int) (hp : p.length ≤ 1048576) (hg : g.length ≤ 1048576) : Ev (fun k => impl_Retire.f k a p g x) (retA a p g x) := by
  obtain ⟨t, ht, hi⟩ := lim_ex a p g hg x
  refine (evA (impl_AgesOk_ev a p g) (evP hi)).ev fun k ⟨e1, e2⟩ => ?_
  simp only [impl_Retire.f, e1, e2, Option.bind_some, impl_copyAges_ev a p g hp hg]
  unfold retA
  rw [node_lim g x t ht]
  by_cases c : agesOk a p g = true
  case neg => rw [if_neg c, if_neg (fun q => c q.1)]; rfl
  rw [if_pos c]
  by_cases d : t ≥ 0
  · rw [if_pos d, if_neg (fun q => by have := q.2.1; simp only [decide_eq_false_iff_not] at this; exact this d)]; rfl
  · rw [if_neg d]
    by_cases e : (g.length : Int) = 100
    · rw [if_pos e, if_neg (fun q => q.2.2 e)]; rfl
    · rw [if_neg e, if_pos (by omega), if_pos ⟨c, decide_eq_false d, e⟩]
def but (v : List Int) (x : Int) : List Int := v.filter fun y => !decide (y = x)
theorem spec_but_ev (v : List Int) (x : Int) (hv : v.length ≤ 1048576) : Ev (fun k => spec_l08But.f k v x) (but v x) := by
  have key := Ev.scan (fun k (s : List Int) i => spec_l08But.l0 k x s v (v.length : Int) i) v.length (fun i s => s.length ≤ i) (fun i s => s ++ but (v.drop i) x)
    (fun s _ => Ev.some_ fun k => by
      simp only [spec_l08But.l0]; rw [if_neg (by omega), List.drop_eq_nil_of_le (Nat.le_refl _)]; simp [but])
    (fun i s hi hs => by
      have hd : v.drop i = rd v (i : Int) :: v.drop (i + 1) := drop_rd v i hi
      have h0 : ∀ k, spec_l08But.l0 (k + 1) x s v (v.length : Int) (i : Int) = if rd v (i : Int) = x then spec_l08But.l0 k x s v (v.length : Int) ((i + 1 : Nat) : Int) else spec_l08But.l0 k x (s ++ [rd v (i : Int)]) v (v.length : Int) ((i + 1 : Nat) : Int) := fun k => by
        simp only [spec_l08But.l0]; have hb : s.length < 17592186044416 := by omega
        rw [if_pos (by omega), if_pos (by omega), if_pos (by omega), w64s hi (by omega), if_pos hb]
      by_cases c : rd v (i : Int) = x
      · refine .inr ⟨s, by omega, ?_, EvE.of fun k => by simp only [h0]; rw [if_pos c]⟩
        rw [hd]; unfold but; rw [List.filter_cons_of_neg (by simpa using c)]
      · refine .inr ⟨s ++ [rd v (i : Int)], by simp; omega, ?_, EvE.of fun k => by simp only [h0]; rw [if_neg c]⟩
        rw [hd]; unfold but; rw [List.filter_cons_of_pos (by simpa using c)]; simp) 0 [] (Nat.zero_le _) (Nat.le_refl _)
  simpa [spec_l08But.f] using key
def giveV (f : List Int) (a : Int) (p : List Int) (g : List S63) (v : List Int) (x : Int) : PoolT := if poolOk f a p g v = true ∧ hasN v x = true ∧ (retA a p g x).2.2.2 = true then (f, (retA a p g x).1, (retA a p g x).2.1, (retA a p g x).2.2.1, but v x, true) else noPool
theorem spec_GiveUp_ev (f : List Int) (a : Int) (p : List Int) (g : List S63) (v : List Int) (x : Int) (hf : f.length ≤ 1048576) (hp : p.length ≤ 1048576) (hg : g.length ≤ 1048576) (hv : v.length ≤ 1048576) : Ev (fun k => spec_GiveUp.f k f a p g v x) (giveV f a p g v x) := by
  have hP := spec_PoolOk_ev f a p g v hf hg hv
  have hH := spec_l03Has_ev v x hv
  have no : Ev (fun k => spec_GiveUp.j0 k x true f a p g v) noPool := Ev.up (g := fun _ => some noPool) (EvE.of fun k => by simp only [spec_GiveUp.j0, if_true]; rfl) (Ev.now _)
  unfold giveV
  by_cases c : poolOk f a p g v = true
  case neg =>
    rw [if_neg (fun q => c q.1)]
    refine (evA hP (evP no)).ev fun k ⟨e1, e2⟩ => ?_
    simp only [spec_GiveUp.f, e1, Option.bind_some]; rw [if_neg c, e2]
  cases d : hasN v x with
  | false =>
    rw [if_neg (fun q => by simp at q)]
    rw [d] at hH
    refine (evA hP (evA hH (evP no))).ev fun k ⟨e1, e2, e3⟩ => ?_
    simp only [spec_GiveUp.f, e1, e2, Option.bind_some, Bool.not_false]; rw [if_pos c, e3]
  | true =>
    rw [d] at hH
    have hj : Ev (fun k => spec_GiveUp.j0 k x false f a p g v) (if (retA a p g x).2.2.2 = true then (f, (retA a p g x).1, (retA a p g x).2.1, (retA a p g x).2.2.1, but v x, true) else noPool) := by
      refine Ev.up (g := fun _ => some (if (retA a p g x).2.2.2 = true then (f, (retA a p g x).1, (retA a p g x).2.1, (retA a p g x).2.2.1, but v x, true) else noPool)) ((evA (spec_Retire_ev a p g x hp hg) (evP (spec_but_ev v x hv))).eve fun k ⟨e1, e2⟩ => ?_) (Ev.now _)
      simp only [spec_GiveUp.j0, Bool.false_eq_true, if_false, spec_l09Copy_ev f a p g v hf hp hg hv, e1, e2, Option.bind_some]
      by_cases e : (retA a p g x).2.2.2 = true
      · rw [if_pos e, if_pos e]
      · rw [if_neg e, if_neg e]; rfl
    refine (evA hP (evA hH (evP hj))).ev fun k ⟨e1, e2, e3⟩ => ?_
    simp only [spec_GiveUp.f, e1, e2, Option.bind_some, Bool.not_true]
    rw [if_pos c, e3]
    by_cases e : (retA a p g x).2.2.2 = true
    · rw [if_pos e, if_pos ⟨c, by trivial, e⟩]
    · rw [if_neg e, if_neg (fun q => e q.2.2)]
theorem impl_GiveUp_ev (f : List Int) (a : Int) (p : List Int) (g : List S63) (v : List Int) (x : Int) (hf : f.length ≤ 1048576) (hp : p.length ≤ 1048576) (hg : g.length ≤ 1048576) (hv : v.length ≤ 1048576) : Ev (fun k => impl_GiveUp.f k f a p g v x) (giveV f a p g v x) := by
  have hP := impl_PoolOk_ev f a p g v hf hg hv
  have hH := slices_ContainsI_ev v x hv
  have no : Ev (fun k => impl_GiveUp.j0 k x true f a p g v) noPool := Ev.up (g := fun _ => some noPool) (EvE.of fun k => by simp only [impl_GiveUp.j0, if_true]; rfl) (Ev.now _)
  unfold giveV
  by_cases c : poolOk f a p g v = true
  case neg =>
    rw [if_neg (fun q => c q.1)]
    refine (evA hP (evP no)).ev fun k ⟨e1, e2⟩ => ?_
    simp only [impl_GiveUp.f, e1, Option.bind_some]; rw [if_neg c, e2]
  cases d : hasN v x with
  | false =>
    rw [if_neg (fun q => by simp at q)]
    rw [d] at hH
    refine (evA hP (evA hH (evP no))).ev fun k ⟨e1, e2, e3⟩ => ?_
    simp only [impl_GiveUp.f, e1, e2, Option.bind_some, Bool.not_false]; rw [if_pos c, e3]
  | true =>
    rw [d] at hH
    have hl : 0 < v.length := List.length_pos_of_mem ((hasN_iff v x).1 d)
    have hd : slices_DeleteFunc_int_int.f v x = some (but v x) := by unfold slices_DeleteFunc_int_int.f; rw [if_pos hl]; rfl
    have hj : Ev (fun k => impl_GiveUp.j0 k x false f a p g v) (if (retA a p g x).2.2.2 = true then (f, (retA a p g x).1, (retA a p g x).2.1, (retA a p g x).2.2.1, but v x, true) else noPool) := by
      refine Ev.up (g := fun _ => some (if (retA a p g x).2.2.2 = true then (f, (retA a p g x).1, (retA a p g x).2.1, (retA a p g x).2.2.1, but v x, true) else noPool)) ((evP (impl_Retire_ev a p g x hp hg)).eve fun k e1 => ?_) (Ev.now _)
      simp only [impl_GiveUp.j0, Bool.false_eq_true, if_false, impl_copyPool_ev f a p g v hf hp hg hv, e1, hd, Option.bind_some]
      by_cases e : (retA a p g x).2.2.2 = true
      · rw [if_pos e, if_pos e]
      · rw [if_neg e, if_neg e]; rfl
    refine (evA hP (evA hH (evP hj))).ev fun k ⟨e1, e2, e3⟩ => ?_
    simp only [impl_GiveUp.f, e1, e2, Option.bind_some, Bool.not_true]
    rw [if_pos c, e3]
    by_cases e : (retA a p g x).2.2.2 = true
    · rw [if_pos e, if_pos ⟨c, by trivial, e⟩]
    · rw [if_neg e, if_neg (fun q => e q.2.2)]
def ints (n : Nat) : List Int := (List.range n).map fun i : Nat => (i : Int)
theorem ints_succ (n : Nat) : ints (n + 1) = ints n ++ [(n : Int)] := by simp [ints, List.range_succ]
theorem ages_spec (h : Nat) (hh : h ≤ 8) : Ev (fun k => spec_AgesNew.l0 k (h : Int) 0 0 []) (0, List.replicate h (-1), [], true) := by
  have key := Ev.scan (fun k (a : List Int) i => spec_AgesNew.l0 k (h : Int) i 0 a) h (fun i a => a = List.replicate i (-1)) (fun i a => (0, List.replicate h (-1), [], true))
    (fun a ha => Ev.some_ fun k => by simp only [spec_AgesNew.l0]; rw [if_neg (by omega), ha])
    (fun i a hi ha => .inr ⟨a ++ [-1], by rw [ha, List.replicate_succ'], rfl, EvE.of fun k => by
      have : a.length = i := by rw [ha, List.length_replicate]
      simp only [spec_AgesNew.l0]; rw [if_pos (by omega), if_pos (by omega), w64s hi (by omega)]⟩) 0 [] (Nat.zero_le _) rfl
  exact key
theorem pool_spec (n : Nat) (hn : n ≤ 100) (a : Int) (p : List Int) (g : List S63) : Ev (fun k => spec_PoolNew.l0 k (n : Int) 0 [] a p g) (ints n, a, p, g, [], true) := by
  have key := Ev.scan (fun k (s : List Int) i => spec_PoolNew.l0 k (n : Int) i s a p g) n (fun i s => s = ints i) (fun _ _ => (ints n, a, p, g, [], true))
    (fun s hs => Ev.some_ fun k => by simp only [spec_PoolNew.l0]; rw [if_neg (by omega), hs])
    (fun i s hi hs => .inr ⟨s ++ [(i : Int)], by rw [hs, ints_succ], rfl, EvE.of fun k => by
      have : s.length = i := by rw [hs]; simp [ints]
      simp only [spec_PoolNew.l0]; rw [if_pos (by omega), if_pos (by omega), w64s hi (by omega)]⟩) 0 [] (Nat.zero_le _) rfl
  exact key
def agesNew (h : Int) : Int × List Int × List S63 × Bool := if 1 ≤ h ∧ h ≤ 8 then (0, List.replicate h.toNat (-1), [], true) else (0, [], [], false)
theorem spec_AgesNew_ev (h : Int) : Ev (fun k => spec_AgesNew.f k h) (agesNew h) := by
  unfold agesNew
  by_cases c1 : h < 1
  · rw [if_neg (by omega)]
    refine Ev.ofE (g := fun k => spec_AgesNew.j0 k h true) (EvE.of fun k => by simp only [spec_AgesNew.f]; rw [if_pos c1]) (Ev.up (g := fun _ => some _) (EvE.of fun k => by simp only [spec_AgesNew.j0, if_true]) (Ev.now _))
  · by_cases c2 : h > 8
    · rw [if_neg (by omega)]
      refine Ev.ofE (g := fun k => spec_AgesNew.j0 k h true) (EvE.of fun k => by simp only [spec_AgesNew.f]; rw [if_neg c1, decide_eq_true c2]) (Ev.up (g := fun _ => some _) (EvE.of fun k => by simp only [spec_AgesNew.j0, if_true]) (Ev.now _))
    · rw [if_pos (by omega)]
      have := ages_spec h.toNat (by omega)
      rw [Int.toNat_of_nonneg (by omega)] at this
      refine Ev.ofE (g := fun k => spec_AgesNew.j0 k h false) (EvE.of fun k => by simp only [spec_AgesNew.f]; rw [if_neg c1, decide_eq_false c2]) (Ev.up (EvE.of fun k => by simp only [spec_AgesNew.j0, Bool.false_eq_true, if_false]) this)
def poolNew (n h : Int) : PoolT := if (1 ≤ n ∧ n ≤ 100) ∧ (1 ≤ h ∧ h ≤ 8) then (ints n.toNat, 0, List.replicate h.toNat (-1), [], [], true) else noPool
theorem spec_PoolNew_ev (n h : Int) : Ev (fun k => spec_PoolNew.f k n h) (poolNew n h) := by
  have ha := spec_AgesNew_ev h
  unfold agesNew at ha
  unfold poolNew
  by_cases ch : 1 ≤ h ∧ h ≤ 8
  · rw [if_pos ch] at ha
    by_cases c1 : n < 1
    · rw [if_neg (by omega)]
      refine Ev.ofE (g := fun k => spec_PoolNew.j0 k n true 0 (List.replicate h.toNat (-1)) []) ((evP ha).eve fun k e => by simp only [spec_PoolNew.f, e, Option.bind_some, if_true]; rw [if_pos c1]) (Ev.up (g := fun _ => some _) (EvE.of fun k => by simp only [spec_PoolNew.j0, if_true]; rfl) (Ev.now _))
    · by_cases c2 : n > 100
      · rw [if_neg (by omega)]
        refine Ev.ofE (g := fun k => spec_PoolNew.j0 k n true 0 (List.replicate h.toNat (-1)) []) ((evP ha).eve fun k e => by simp only [spec_PoolNew.f, e, Option.bind_some, if_true]; rw [if_neg c1, decide_eq_true c2]) (Ev.up (g := fun _ => some _) (EvE.of fun k => by simp only [spec_PoolNew.j0, if_true]; rfl) (Ev.now _))
      · rw [if_pos (by omega)]
        have := pool_spec n.toNat (by omega) 0 (List.replicate h.toNat (-1)) []
        rw [Int.toNat_of_nonneg (by omega)] at this
        refine Ev.ofE (g := fun k => spec_PoolNew.j0 k n false 0 (List.replicate h.toNat (-1)) []) ((evP ha).eve fun k e => by simp only [spec_PoolNew.f, e, Option.bind_some, if_true]; rw [if_neg c1, decide_eq_false c2]) (Ev.up (EvE.of fun k => by simp only [spec_PoolNew.j0, Bool.false_eq_true, if_false]) this)
  · rw [if_neg ch] at ha
    rw [if_neg (fun h => ch h.2)]
    refine Ev.ofE (g := fun k => spec_PoolNew.j0 k n true 0 [] []) ((evP ha).eve fun k e => by simp only [spec_PoolNew.f, e, Option.bind_some, Bool.false_eq_true, if_false]) (Ev.up (g := fun _ => some _) (EvE.of fun k => by simp only [spec_PoolNew.j0, if_true]; rfl) (Ev.now _))
/-- A right pool of one place or more. -/
def Good (f : List Int) (a : Int) (p : List Int) (g : List GT) (v : List Int) : Prop := PoolP f a p g v ∧ 1 ≤ f.length + v.length + g.length
theorem Good.small {f : List Int} {a : Int} {p : List Int} {g : List GT} {v : List Int} (h : Good f a p g v) : f.length ≤ 100 ∧ p.length ≤ 8 ∧ g.length ≤ 100 ∧ v.length ≤ 100 ∧ f.length + v.length + g.length ≤ 100 := by
  have h1 := h.1.2.1
  have h2 := h.1.1.1
  rw [allOf_len] at h1
  omega
theorem Good.ok {f : List Int} {a : Int} {p : List Int} {g : List GT} {v : List Int} (h : Good f a p g v) : poolOk f a p g v = true := (pool_iff _ _ _ _ _).2 h.1
theorem Good.ages {f : List Int} {a : Int} {p : List Int} {g : List GT} {v : List Int} (h : Good f a p g v) : agesOk a p g = true := (ages_iff _ _ _).2 h.1.1
theorem alloc_none {a : Int} {p : List Int} {g : List GT} {v : List Int} (h : Good [] a p g v) : allocV [] a p g v = ([], a, p, g, v, 0, false) := by
  unfold allocV; rw [if_pos h.ok, if_pos (by simp)]
theorem alloc_one {x : Int} {f : List Int} {a : Int} {p : List Int} {g : List GT} {v : List Int} (h : Good (x :: f) a p g v) : allocV (x :: f) a p g v = (f, a, p, g, sorted (v ++ [x]), x, true) ∧ Good f a p g (sorted (v ++ [x])) := by
  refine ⟨?_, alloc_keep h.1, ?_⟩
  · unfold allocV; rw [if_pos h.ok, if_neg (by simp only [List.length_cons]; omega)]; rfl
  · rw [sorted_len]; simp only [List.length_append, List.length_singleton]; omega
theorem apart3 {f : List Int} {a : Int} {p : List Int} {g : List GT} {v : List Int} (h : Good f a p g v) : (∀ x ∈ f, ¬ x ∈ v) ∧ (∀ x ∈ f, ¬ x ∈ g.map fun y => y.f0) ∧ (∀ x ∈ v, ¬ x ∈ g.map fun y => y.f0) := by
  have hn := h.1.2.2.2.2
  unfold allOf at hn
  have h1 := List.nodup_append.1 hn
  have h2 := List.nodup_append.1 h1.1
  exact ⟨fun x hx hy => h2.2.2 x hx x hy rfl, fun x hx hy => h1.2.2 x (List.mem_append_left _ hx) x hy rfl, fun x hx hy => h1.2.2 x (List.mem_append_right _ hx) x hy rfl⟩
theorem not_node {g : List GT} {x : Int} (h : ¬ x ∈ g.map fun y => y.f0) : nodeIn g x = false := by
  cases c : nodeIn g x with
  | false => rfl
  | true => exact absurd ((nodeIn_iff g x).1 c) h
theorem give_one {x : Int} {f : List Int} {a : Int} {p : List Int} {g : List GT} {v : List Int} (h : Good f a p g v) (hx : x ∈ v) : giveV f a p g v x = (f, a, p, g ++ [⟨x, a⟩], but v x, true) ∧ Good f a p (g ++ [⟨x, a⟩]) (but v x) := by
  have hl := h.small.2.2.2.2
  have hv : 0 < v.length := List.length_pos_of_mem hx
  have hr : retA a p g x = (a, p, g ++ [⟨x, a⟩], true) := by
    unfold retA; rw [if_pos ⟨h.ages, not_node ((apart3 h).2.2 x hx), by omega⟩]
  refine ⟨?_, give_keep h.1 hx (by omega), ?_⟩
  · unfold giveV
    rw [hr, if_pos ⟨h.ok, (hasN_iff v x).2 hx, rfl⟩]
  · simp only [List.length_append, List.length_singleton]; omega
theorem stays_not (a : Int) (g : List GT) : (g.filter fun y => !stays a y) = g.filter (leaves a) := by
  congr 1; funext y; unfold stays leaves; rw [Bool.not_not]
theorem rec_one {f : List Int} {a : Int} {p : List Int} {g : List GT} {v : List Int} (h : Good f a p g v) : recV f a p g v = ((g.filter (leaves a)).map (fun y => y.f0) ++ f, a, p, g.filter (stays a), v, (g.filter (leaves a)).map fun y => y.f0) ∧ Good ((g.filter (leaves a)).map (fun y => y.f0) ++ f) a p (g.filter (stays a)) v ∧ (g.filter (leaves a)).length + (g.filter (stays a)).length = g.length := by
  have hl : (g.filter (leaves a)).length + (g.filter (stays a)).length = g.length := by
    have := (List.filter_append_perm (stays a) g).length_eq
    rw [List.length_append, stays_not] at this
    omega
  have hk := reclaim_keep h.1 (stays a)
  rw [stays_not] at hk
  have h1 := h.2
  refine ⟨?_, ⟨hk, ?_⟩, hl⟩
  · unfold recV colA; rw [if_pos h.ok, if_pos h.ages]
  · rw [List.length_append, List.length_map]; omega
theorem enter_one {f : List Int} {a : Int} {p : List Int} {g : List GT} {v : List Int} (h : Good f a p g v) (i : Int) (hi : hasH p i) (hp : rd p i = -1) : withA f a p g v (setA a p g i false a) = (f, a, p.set i.toNat a, g, v, true) ∧ Good f a (p.set i.toNat a) g v := by
  refine ⟨?_, pin_keep h.1 _ _ (.inr rfl), h.2⟩
  have e : setA a p g i false a = (a, p.set i.toNat a, g, true) := by
    unfold setA; rw [if_pos ⟨h.ages, hi, by rw [hp]; rfl⟩]
  unfold withA; rw [e, if_pos ⟨h.ok, rfl⟩]
theorem enter_not {f : List Int} {a : Int} {p : List Int} {g : List GT} {v : List Int} (i : Int) (hp : ¬ (hasH p i ∧ rd p i = -1)) : withA f a p g v (setA a p g i false a) = noPool := by
  have e : setA a p g i false a = noAges := by
    unfold setA; rw [if_neg (fun q => hp ⟨q.2.1, by have := q.2.2; simpa using this⟩)]
  unfold withA; rw [e, if_neg (fun q => absurd q.2 (by simp [noAges]))]
theorem leave_one {f : List Int} {a : Int} {p : List Int} {g : List GT} {v : List Int} (h : Good f a p g v) (i : Int) (hi : hasH p i) (hp : ¬ rd p i = -1) : withA f a p g v (setA a p g i true (-1)) = (f, a, p.set i.toNat (-1), g, v, true) ∧ Good f a (p.set i.toNat (-1)) g v := by
  refine ⟨?_, pin_keep h.1 _ _ (.inl rfl), h.2⟩
  have e : setA a p g i true (-1) = (a, p.set i.toNat (-1), g, true) := by
    unfold setA; rw [if_pos ⟨h.ages, hi, bne_iff_ne.2 hp⟩]
  unfold withA; rw [e, if_pos ⟨h.ok, rfl⟩]
theorem leave_not {f : List Int} {a : Int} {p : List Int} {g : List GT} {v : List Int} (i : Int) (hp : ¬ (hasH p i ∧ ¬ rd p i = -1)) : withA f a p g v (setA a p g i true (-1)) = noPool := by
  have e : setA a p g i true (-1) = noAges := by
    unfold setA; rw [if_neg (fun q => hp ⟨q.2.1, bne_iff_ne.1 q.2.2⟩)]
  unfold withA; rw [e, if_neg (fun q => absurd q.2 (by simp [noAges]))]
theorem goes_iff (a : Int) (p : List Int) : goes a p = true ↔ ∀ x ∈ p, x = -1 ∨ x = a := by
  unfold goes; simp only [List.all_eq_true, decide_eq_true_eq]
/-- A turn goes on by one, or leaves all as it is. -/
theorem turn_one {f : List Int} {a : Int} {p : List Int} {g : List GT} {v : List Int} (h : Good f a p g v) : (turnV f a p g v = (f, a + 1, p, g, v, true) ∧ Good f (a + 1) p g v ∧ (∀ x ∈ p, x = -1 ∨ x = a)) ∨ turnV f a p g v = (f, a, p, g, v, false) := by
  have ha := h.1.1.1.1
  unfold turnV advA
  rw [if_pos h.ok, if_pos h.ages]
  by_cases c : goes a p = true
  · rw [if_pos c]
    unfold stepA
    by_cases d : a = 4294967295
    · rw [if_pos d]; exact .inr rfl
    · rw [if_neg d, w64 (by omega) (by omega)]
      exact .inl ⟨rfl, ⟨turn_keep h.1 ((goes_iff a p).1 c) (by omega), h.2⟩, (goes_iff a p).1 c⟩
  · rw [if_neg c]; exact .inr rfl
theorem rd_mem {p : List Int} {i : Int} (h : hasH p i) : rd p i ∈ p := by
  obtain ⟨m, rfl⟩ : ∃ m : Nat, i = (m : Int) := ⟨i.toNat, by have := h.1; omega⟩
  have hm : m < p.length := by have := h.2; omega
  rw [rd_get p m hm]; exact List.getElem_mem hm
theorem rd_set {p : List Int} {i : Int} (h : hasH p i) (x : Int) : rd (p.set i.toNat x) i = x := by
  obtain ⟨m, rfl⟩ : ∃ m : Nat, i = (m : Int) := ⟨i.toNat, by have := h.1; omega⟩
  have hm : m < p.length := by have := h.2; omega
  rw [Int.toNat_natCast, rd_get _ m (by rw [List.length_set]; exact hm), List.getElem_set_self]
theorem and255 (x : Int) : 0 ≤ Go.bits .and .i64 x 255 ∧ Go.bits .and .i64 x 255 ≤ 255 := by
  unfold Go.bits
  rw [Go.IntKind.wrap_i64]
  have h : ((BitVec.ofInt Go.IntKind.i64.bits x &&& BitVec.ofInt Go.IntKind.i64.bits 255).toNat) ≤ 255 := by
    rw [BitVec.toNat_and]; exact Nat.le_trans Nat.and_le_right (by decide)
  simp only
  omega
/-- A place in a code. -/
def At (c : List Int) (i : Int) : Prop := 0 ≤ i ∧ i ≤ (c.length : Int) ∧ c.length ≤ 1048576
theorem byte_some (c : List Int) (i h : Int) (hi : At c i) : ∃ b i' h', spec_l01Byte.f c i h = some (b, i', h') ∧ 0 ≤ b ∧ b ≤ 255 ∧ At c i' := by
  obtain ⟨h0, h1, h2⟩ := hi
  simp only [spec_l01Byte.f]
  by_cases c1 : i < (c.length : Int)
  · rw [if_pos c1, if_pos h0]
    refine ⟨_, _, _, rfl, (and255 _).1, (and255 _).2, ?_⟩
    rw [w64 (by omega) (by omega)]
    exact ⟨by omega, by omega, h2⟩
  · rw [if_neg c1]
    exact ⟨_, _, _, rfl, (and255 _).1, (and255 _).2, h0, h1, h2⟩
theorem below_some (c : List Int) (i h n : Int) (hi : At c i) (h1 : 1 ≤ n) (h2 : n ≤ 256) : ∃ b i' h', spec_l01Below.f c i h n = some (b, i', h') ∧ 0 ≤ b ∧ b < n ∧ At c i' := by
  obtain ⟨b, i', h', e, b0, b1, ha⟩ := byte_some c i h hi
  refine ⟨b.tmod n, i', h', ?_, ?_, ?_, ha⟩
  · simp only [spec_l01Below.f, e, Option.bind_some]
    rw [if_neg (by omega), if_pos h2, if_neg (by omega)]
  · rw [Int.tmod_eq_emod_of_nonneg b0]; exact Int.emod_nonneg _ (by omega)
  · rw [Int.tmod_eq_emod_of_nonneg b0]; exact Int.emod_lt_of_pos _ (by omega)
theorem new_some (c : List Int) (hc : c.length ≤ 1048576) : ∃ h, Ev (fun k => spec_l01New.f k c) (c, 0, h) := by
  obtain ⟨r, ⟨h, rfl⟩, hr⟩ := Ev.scanX (fun k (s : Int) i => spec_l01New.l0 k c s i) c.length (fun _ _ => True) (fun r => ∃ h, r = (c, 0, h))
    (fun s _ => ⟨(c, 0, s), ⟨s, rfl⟩, Ev.some_ fun k => by simp only [spec_l01New.l0]; rw [if_neg (by omega)]⟩)
    (fun i s hi _ => by
      by_cases c1 : (i : Int) < 4000
      · exact .inr ⟨_, trivial, EvE.of fun k => by simp only [spec_l01New.l0]; rw [if_pos (by omega), if_pos c1, if_pos (by omega), w64s hi (by omega)]⟩
      · exact .inl ⟨(c, 0, s), ⟨s, rfl⟩, Ev.some_ fun k => by simp only [spec_l01New.l0]; rw [if_pos (by omega), if_neg c1]⟩) 0 (wrap64 (774119 + (c.length : Int))) (Nat.zero_le _) trivial
  exact ⟨h, by simpa [spec_l01New.f] using hr⟩
abbrev SomeT := List Int × Int × List Int × List GT × List Int × Int × Int
/-- What one step may leave. -/
def Left (c : List Int) (F : Nat → Option SomeT) : Prop := ∃ f a p g v i h, Ev F (f, a, p, g, v, i, h) ∧ Good f a p g v ∧ At c i
theorem Left.up {c : List Int} {F G : Nat → Option SomeT} (h : Left c G) (e : EvE (fun k => F (k + 1)) G) : Left c F := by
  obtain ⟨f, a, p, g, v, i, h, hE, hG, hA⟩ := h
  exact ⟨f, a, p, g, v, i, h, Ev.up e hE, hG, hA⟩
theorem Left.now {c : List Int} {F : Nat → Option SomeT} {f : List Int} {a : Int} {p : List Int} {g : List GT} {v : List Int} {i h : Int} (e : EvE (fun k => F (k + 1)) (fun _ => some (f, a, p, g, v, i, h))) (hG : Good f a p g v) (hA : At c i) : Left c F :=
  ⟨f, a, p, g, v, i, h, Ev.up e (Ev.now _), hG, hA⟩
theorem enter_left {c : List Int} {x i h : Int} (hi : At c i) {f : List Int} {a : Int} {p : List Int} {g : List GT} {v : List Int} (H : Good f a p g v) (b : Int) : Left c (fun k => spec_l09Some.j1 k x b true c i h f a p g v) := by
  have hs := H.small
  have hE := spec_Enter_ev f a p g v x (by omega) (by omega) (by omega) (by omega)
  by_cases q : hasH p x ∧ rd p x = -1
  · obtain ⟨e, hG⟩ := enter_one H x q.1 q.2
    rw [e] at hE
    exact Left.now (h := h) ((evP hE).eve fun k e1 => by simp only [spec_l09Some.j1, e1, Option.bind_some, if_true]) hG hi
  · rw [enter_not x q] at hE
    exact Left.now (h := h) ((evP hE).eve fun k e1 => by simp only [spec_l09Some.j1, e1, Option.bind_some, if_true, noPool, Bool.false_eq_true, if_false]) H hi
theorem other_left {c : List Int} {x i h : Int} (hi : At c i) {f : List Int} {a : Int} {p : List Int} {g : List GT} {v : List Int} (H : Good f a p g v) (b : Int) : Left c (fun k => spec_l09Some.j1 k x b false c i h f a p g v) := by
  have hs := H.small
  by_cases c6 : b = 6
  · have hE := spec_Leave_ev f a p g v x (by omega) (by omega) (by omega) (by omega)
    by_cases q : hasH p x ∧ ¬ rd p x = -1
    · obtain ⟨e, hG⟩ := leave_one H x q.1 q.2
      rw [e] at hE
      exact Left.now (h := h) ((evP hE).eve fun k e1 => by simp only [spec_l09Some.j1, e1, Option.bind_some, if_true, Bool.false_eq_true, if_false, if_pos c6]) hG hi
    · rw [leave_not x q] at hE
      exact Left.now (h := h) ((evP hE).eve fun k e1 => by simp only [spec_l09Some.j1, e1, Option.bind_some, noPool, Bool.false_eq_true, if_false, if_pos c6]) H hi
  · have hE := spec_Turn_ev f a p g v (by omega) (by omega) (by omega) (by omega)
    rcases turn_one H with ⟨e, hG, _⟩ | e
    · rw [e] at hE
      exact Left.now (h := h) ((evP hE).eve fun k e1 => by simp only [spec_l09Some.j1, e1, Option.bind_some, if_true, Bool.false_eq_true, if_false, if_neg c6]) hG hi
    · rw [e] at hE
      exact Left.now (h := h) ((evP hE).eve fun k e1 => by simp only [spec_l09Some.j1, e1, Option.bind_some, Bool.false_eq_true, if_false, if_neg c6]) H hi
theorem first_left {c : List Int} {x i h b : Int} (hi : At c i) {f : List Int} {a : Int} {p : List Int} {g : List GT} {v : List Int} (H : Good f a p g v) (t : Bool) : Left c (fun k => spec_l09Some.j0 k true x b t c i h f a p g v f a p g v) := by
  have hs := H.small
  cases t with
  | true =>
    have hE := spec_Alloc_ev f a p g v (by omega) (by omega) (by omega) (by omega)
    cases f with
    | nil =>
      rw [alloc_none H] at hE
      exact Left.now (h := h) ((evP hE).eve fun k e1 => by simp only [spec_l09Some.j0, e1, Option.bind_some, if_true, Bool.false_eq_true, if_false]) H hi
    | cons y f =>
      obtain ⟨e, hG⟩ := alloc_one H
      rw [e] at hE
      exact Left.now (h := h) ((evP hE).eve fun k e1 => by simp only [spec_l09Some.j0, e1, Option.bind_some, if_true]) hG hi
  | false =>
    by_cases c2 : b = 2
    · by_cases d : (v.length : Int) > 0
      · obtain ⟨y, i1, h1, eb, y0, y1, ha1⟩ := below_some c i h (v.length : Int) hi (by omega) (by omega)
        have hx : rd v y ∈ v := rd_mem (p := v) ⟨y0, y1⟩
        have hE := spec_GiveUp_ev f a p g v (rd v y) (by omega) (by omega) (by omega) (by omega)
        obtain ⟨e, hG⟩ := give_one H hx
        rw [e] at hE
        exact Left.now (h := h1) ((evP hE).eve fun k e1 => by simp only [spec_l09Some.j0, eb, e1, Option.bind_some, if_true, Bool.false_eq_true, if_false, if_pos c2, if_pos d, if_pos y0, if_pos y1]) hG ha1
      · exact Left.now (h := h) (EvE.of fun k => by simp only [spec_l09Some.j0, if_true, Bool.false_eq_true, if_false, if_pos c2, if_neg d]) H hi
    · by_cases c3 : b = 3
      · have hE := spec_Reclaim_ev f a p g v (by omega) (by omega) (by omega) (by omega)
        obtain ⟨e, hG, _⟩ := rec_one H
        rw [e] at hE
        exact Left.now (h := h) ((evP hE).eve fun k e1 => by simp only [spec_l09Some.j0, e1, Option.bind_some, if_true, Bool.false_eq_true, if_false, if_neg c2, if_pos c3]) hG hi
      · by_cases c4 : b = 4
        · refine (enter_left (x := x) (h := h) hi H b).up (EvE.of fun k => ?_)
          have c5 : (b == 4) = true := beq_iff_eq.2 c4
          simp only [spec_l09Some.j0, Bool.false_eq_true, if_false, if_neg c2, if_neg c3, if_pos c4, c5]
        · have hj : ∀ d : Bool, Left c (fun k => spec_l09Some.j1 k x b d c i h f a p g v) := fun d => by
            cases d with
            | true => exact enter_left hi H b
            | false => exact other_left hi H b
          refine (hj (b == 5)).up (EvE.of fun k => ?_)
          simp only [spec_l09Some.j0, Bool.false_eq_true, if_false, if_neg c2, if_neg c3, if_neg c4]
theorem psome_left (c : List Int) (i h : Int) (hi : At c i) {f : List Int} {a : Int} {p : List Int} {g : List GT} {v : List Int} (H : Good f a p g v) : Left c (fun k => spec_l09Some.f k c i h f a p g v) := by
  have hs := H.small
  have hp := H.1.1.1.2.1.1
  obtain ⟨x, i1, h1, e1, x0, x1, ha1⟩ := below_some c i h (p.length : Int) hi (by omega) (by omega)
  obtain ⟨b, i2, h2, e2, b0, b1, ha2⟩ := below_some c i1 h1 8 ha1 (by omega) (by omega)
  have key : ∀ t : Bool, (if b = 0 then (b == 0) else (b == 1)) = t → Left c (fun k => spec_l09Some.f k c i h f a p g v) := fun t ht => by
    obtain ⟨f', a', p', g', v', i', h', hE, hG, hA⟩ := first_left (x := x) (h := h2) (b := b) ha2 H t
    refine ⟨f', a', p', g', v', i', h', (evP hE).ev fun k e => ?_, hG, hA⟩
    simp only [spec_l09Some.f, e1, e2, Option.bind_some]
    by_cases c0 : b = 0
    · rw [if_pos c0] at ht ⊢; rw [ht]; exact e
    · rw [if_neg c0] at ht ⊢; rw [ht]; exact e
  exact key _ rfl
theorem pdraw_loop (c : List Int) : ∀ (n : Nat) (i h : Int), n ≤ 256 → At c i → ∀ {f : List Int} {a : Int} {p : List Int} {g : List GT} {v : List Int}, Good f a p g v → Left c (fun k => spec_l09Draw.l0 k (n : Int) c i h f a p g v)
  | 0, i, h, _, hi, f, a, p, g, v, H => Left.now (h := h) (EvE.of fun k => by simp only [spec_l09Draw.l0]; rw [if_neg (by omega)]) H hi
  | n + 1, i, h, hn, hi, f, a, p, g, v, H => by
    obtain ⟨f1, a1, p1, g1, v1, i1, h1, hE, H1, hi1⟩ := psome_left c i h hi H
    refine (pdraw_loop c n i1 h1 (by omega) hi1 H1).up ((evP hE).eve fun k e => ?_)
    simp only [spec_l09Draw.l0, e, Option.bind_some]
    rw [if_pos (by omega), w64 (by omega) (by omega)]
    congr 1; omega
theorem new_good (n h : Int) (hn : 1 ≤ n ∧ n ≤ 100) (hh : 1 ≤ h ∧ h ≤ 8) : Good (ints n.toNat) 0 (List.replicate h.toNat (-1)) [] [] := by
  have hl : (ints n.toNat).length = n.toNat := by simp [ints]
  refine ⟨⟨⟨⟨by omega, by rw [List.length_replicate]; omega, by simp⟩, fun x hx => .inl (List.eq_of_mem_replicate hx), by simp, by simp, by simp⟩, ?_, by simp, ?_, ?_⟩, by rw [hl]; simp; omega⟩
  · rw [allOf_len, hl]; simp; omega
  · intro x hx
    rw [allOf_len, hl]
    simp only [allOf, List.map_nil, List.append_nil] at hx
    obtain ⟨m, hm, rfl⟩ := List.mem_map.1 hx
    have := List.mem_range.1 hm
    simp; omega
  · simp only [allOf, List.map_nil, List.append_nil]
    unfold ints
    refine List.pairwise_map.2 (List.Pairwise.imp ?_ List.nodup_range)
    intro x y hxy e; exact hxy (by omega)
theorem makePool_some (c : List Int) (hc : c.length ≤ 1048576) : ∃ f a p g v, Good f a p g v ∧ Ev (fun k => spec_MakePool.f k c) (f, a, p, g, v) := by
  obtain ⟨h, hnew⟩ := new_some c hc
  obtain ⟨x, i1, h1, e1, x0, x1, ha1⟩ := below_some c 0 (wrap64 (h + 5)) 5 ⟨Int.le_refl _, by omega, hc⟩ (by omega) (by omega)
  obtain ⟨y, i2, h2, e2, y0, y1, ha2⟩ := below_some c i1 h1 3 ha1 (by omega) (by omega)
  obtain ⟨n, i3, h3, e3, n0, n1, ha3⟩ := below_some c i2 h2 16 ha2 (by omega) (by omega)
  have hG := new_good (1 + x) (1 + y) (by omega) (by omega)
  have hN := spec_PoolNew_ev (1 + x) (1 + y)
  have eN : poolNew (1 + x) (1 + y) = (ints (1 + x).toNat, 0, List.replicate (1 + y).toNat (-1), [], [], true) := by unfold poolNew; rw [if_pos ⟨by omega, by omega⟩]
  rw [eN] at hN
  obtain ⟨f, a, p, g, v, i4, h4, hL, H, _⟩ := pdraw_loop c n.toNat i3 h3 (by omega) ha3 hG
  rw [Int.toNat_of_nonneg n0] at hL
  have hw : wrap64 (1 + x) = 1 + x := w64 (by omega) (by omega)
  have hw2 : wrap64 (1 + y) = 1 + y := w64 (by omega) (by omega)
  refine ⟨f, a, p, g, v, H, (evA hnew (evA hN (evP hL))).ev fun k ⟨q1, q2, q3⟩ => ?_⟩
  simp only [spec_MakePool.f, spec_l09Draw.f, q1, e1, e2, e3, hw, hw2, q2, q3, Option.bind_some]
def mayL (p : List Int) (g : List S63) (v : List Int) (h x t : Int) : Bool := if t = -1 then hasN v x else decide ((rg g t.toNat).f1 ≥ rd p h)
def mayV (f : List Int) (a : Int) (p : List Int) (g : List S63) (v : List Int) (h x t : Int) : Bool := poolOk f a p g v && (decide ((0 ≤ h ∧ h < (p.length : Int)) ∧ rd p h ≠ -1) && mayL p g v h x t)
theorem pinned_eq (a : Int) (p : List Int) (g : List S63) (h : Int) (hp : p.length ≤ 1048576) : ∃ b, impl_Ages_isPinned.f a p g h = some (decide ((0 ≤ h ∧ h < (p.length : Int)) ∧ rd p h ≠ -1), b) := by
  simp only [impl_Ages_isPinned.f, within_ev, Option.bind_some]
  rw [w64 (by omega) (by omega)]
  by_cases c : 0 ≤ h ∧ h < (p.length : Int)
  · refine ⟨true, ?_⟩
    rw [if_pos (decide_eq_true (by omega)), if_pos c.1, if_pos c.2]
    by_cases c2 : rd p h = -1
    · rw [decide_eq_false (fun q => q.2 c2), c2]; rfl
    · rw [decide_eq_true ⟨c, c2⟩, bne_iff_ne.2 c2]
  · refine ⟨false, ?_⟩
    rw [if_neg (by simp only [decide_eq_true_eq]; omega), decide_eq_false (fun q => c q.1)]
theorem apart (f : List Int) (a : Int) (p : List Int) (g : List S63) (v : List Int) (h : poolOk f a p g v = true) (x : Int) (hx : hasN v x = true) (j : Nat) (hj : j < g.length) : (rg g j).f0 ≠ x := by
  unfold poolOk at h
  simp only [Bool.and_eq_true] at h
  have hn := ((placed_iff _).1 h.2.2.2).2
  unfold allOf at hn
  have hd := (List.nodup_append.1 hn).2.2
  refine fun e => hd x (List.mem_append.2 (.inr ((hasN_iff v x).1 hx))) (rg g j).f0 (List.mem_map.2 ⟨rg g j, ?_, rfl⟩) e.symm
  have e2 : rg g j = g[j] := by unfold rg; simp [hj]
  rw [e2]; exact List.getElem_mem hj
theorem impl_May_ev (f : List Int) (a : Int) (p : List Int) (g : List S63) (v : List Int) (h x t : Int) (hf : f.length ≤ 1048576) (hp : p.length ≤ 1048576) (hg : g.length ≤ 1048576) (hv : v.length ≤ 1048576) (ht : LimAt g x t) (hi : Ev (fun k => impl_Ages_inLimbo.f k a p g x) t) : Ev (fun k => impl_May.f k f a p g v h x) (mayV f a p g v h x t) := by
  have no : Ev (fun k => impl_May.j0 k h x true f a p g v) false := Ev.up (g := fun _ => some false) (EvE.of fun k => by simp only [impl_May.j0, if_true]) (Ev.now _)
  have hP := impl_PoolOk_ev f a p g v hf hg hv
  obtain ⟨b, hpin⟩ := pinned_eq a p g h hp
  unfold mayV
  cases c : poolOk f a p g v with
  | false =>
    rw [c] at hP
    refine (evA hP (evP no)).ev fun k ⟨e1, e2⟩ => ?_
    simp only [impl_May.f, hpin, e1, Option.bind_some, Bool.false_eq_true, if_false, e2, Bool.false_and]
  | true =>
    rw [c] at hP
    by_cases c1 : (0 ≤ h ∧ h < (p.length : Int)) ∧ rd p h ≠ -1
    · rw [decide_eq_true c1] at hpin ⊢
      have hj : Ev (fun k => impl_May.j0 k h x false f a p g v) (mayL p g v h x t) := by
        refine Ev.up (g := fun _ => some (mayL p g v h x t)) ((evA hi (evP (slices_ContainsI_ev v x hv))).eve fun k ⟨e1, e2⟩ => ?_) (Ev.now _)
        simp only [impl_May.j0, e1, e2, Option.bind_some, Bool.false_eq_true, if_false]
        unfold mayL
        cases d : hasN v x with
        | true =>
          rw [if_pos rfl]
          rcases ht with ⟨e, _⟩ | ⟨n, _, hn, hc, _⟩
          · rw [if_pos e]
          · exact absurd hc (apart f a p g v c x d n hn)
        | false =>
          rw [if_neg (by simp)]
          rcases ht with ⟨e, _⟩ | ⟨n, e, hn, hc, _⟩
          · rw [if_pos e, if_neg (by omega)]
          · subst e
            rw [if_pos (show (n : Int) ≥ 0 by omega), if_pos (show (0 : Int) ≤ n by omega), if_pos (show (n : Int) < g.length by omega), if_pos c1.1.1, if_pos c1.1.2, if_neg (show ¬ (n : Int) = -1 by omega), rd_rg, Int.toNat_natCast]
      refine (evA hP (evP hj)).ev fun k ⟨e1, e2⟩ => ?_
      simp only [impl_May.f, hpin, e1, Option.bind_some, if_true, Bool.not_true, e2, Bool.true_and]
    · rw [decide_eq_false c1] at hpin ⊢
      refine (evA hP (evP no)).ev fun k ⟨e1, e2⟩ => ?_
      simp only [impl_May.f, hpin, e1, Option.bind_some, if_true, Bool.not_false, e2]; rfl
theorem rg_mem {g : List GT} {i : Nat} (h : i < g.length) : rg g i ∈ g := by rw [rg_get g i h]; exact List.getElem_mem h
/-- A node lies in limbo once. -/
theorem node_one {g : List GT} (h : (g.map fun y => y.f0).Nodup) {x y : GT} (hx : x ∈ g) (hy : y ∈ g) (e : x.f0 = y.f0) : x = y := by
  obtain ⟨i, hi, rfl⟩ := List.getElem_of_mem hx
  obtain ⟨j, hj, rfl⟩ := List.getElem_of_mem hy
  have h1 := List.pairwise_iff_getElem.1 h
  rcases Nat.lt_trichotomy i j with c | c | c
  · have := h1 i j (by rw [List.length_map]; exact hi) (by rw [List.length_map]; exact hj) c
    rw [List.getElem_map, List.getElem_map] at this
    exact absurd e this
  · subst c; rfl
  · have := h1 j i (by rw [List.length_map]; exact hj) (by rw [List.length_map]; exact hi) c
    rw [List.getElem_map, List.getElem_map] at this
    exact absurd e.symm this
theorem lim_of {g : List GT} (h : (g.map fun y => y.f0).Nodup) {y : GT} (hy : y ∈ g) {t : Int} (ht : LimAt g y.f0 t) : ∃ n : Nat, t = (n : Int) ∧ n < g.length ∧ rg g n = y := by
  rcases ht with ⟨_, hn⟩ | ⟨n, e, hn, hc, _⟩
  · obtain ⟨i, hi, rfl⟩ := List.getElem_of_mem hy
    exact absurd (by rw [rg_get g i hi]) (hn i hi)
  · exact ⟨n, e, hn, node_one h (rg_mem hn) hy hc⟩
/-- A handle that isn't pinned may look at nothing. -/
theorem may_off {f : List Int} {a : Int} {p : List Int} {g : List GT} {v : List Int} (i x t : Int) (h : rd p i = -1) : mayV f a p g v i x t = false := by
  unfold mayV
  rw [decide_eq_false (fun q => q.2 h), Bool.false_and, Bool.and_false]
/-- A pinned handle may look at what was given up in its epoch. -/
theorem may_on {f : List Int} {a : Int} {p : List Int} {g : List GT} {v : List Int} (h : Good f a p g v) {i x A t : Int} (hi : hasH p i) (hp : rd p i = A) (hA : A ≠ -1) (hy : (⟨x, A⟩ : GT) ∈ g) (ht : LimAt g x t) : mayV f a p g v i x t = true := by
  obtain ⟨n, rfl, hn, e⟩ := lim_of (y := (⟨x, A⟩ : GT)) h.1.1.2.2.2.2 hy ht
  unfold mayV
  rw [h.ok, Bool.true_and, decide_eq_true ⟨hi, by rw [hp]; exact hA⟩, Bool.true_and]
  unfold mayL
  rw [if_neg (by omega), Int.toNat_natCast, e, hp]
  exact decide_eq_true (Int.le_refl _)
theorem laws_has_ev (l : List Int) (x : Int) (hl : l.length ≤ 1048576) : Ev (fun k => laws_has.f k l x) (hasN l x) := by
  have key := Ev.scan (fun k (_ : Unit) i => laws_has.l0 k x l (l.length : Int) i) l.length (fun _ _ => True) (fun i _ => hasN (l.drop i) x)
    (fun _ _ => Ev.some_ fun k => by simp only [laws_has.l0]; rw [if_neg (by omega), List.drop_eq_nil_of_le (Nat.le_refl _)]; rfl)
    (fun i _ hi _ => by
      have hd := drop_rd l i hi
      have hs : ∀ k, laws_has.l0 (k + 1) x l (l.length : Int) (i : Int) = if rd l (i : Int) = x then some true else laws_has.l0 k x l (l.length : Int) ((i + 1 : Nat) : Int) := fun k => by
        simp only [laws_has.l0]; rw [if_pos (by omega), if_pos (by omega), if_pos (by omega), w64s hi (by omega)]
      rw [hd, hasN_cons]
      by_cases c : rd l (i : Int) = x
      · exact .inl (Ev.some_ fun k => by simp only [hs]; rw [if_pos c, decide_eq_true c]; rfl)
      · exact .inr ⟨(), trivial, by rw [decide_eq_false c]; rfl, EvE.of fun k => by simp only [hs]; rw [if_neg c]⟩) 0 () (Nat.zero_le _) trivial
  simpa [laws_has.f] using key
theorem set_has {p : List Int} (x : Int) (h : hasH p 0) : hasH (p.set (0 : Int).toNat x) 0 := ⟨h.1, by rw [List.length_set]; exact h.2⟩
/-- What is asked of the handle that leaves. -/
theorem j4_ev {F P V : List Int} {A a0 n : Int} {G : List GT} (H : Good F A P G V) (ha : 0 ≤ a0) (h0 : hasH P 0) (hp : rd P 0 = a0) : Ev (fun k => laws_FnAges.j4 k 0 n false F A P G V) true := by
  have hs := H.small
  obtain ⟨e1, H1⟩ := leave_one H 0 h0 (by omega)
  have hs1 := H1.small
  have hr : rd (P.set (0 : Int).toNat (-1)) 0 = -1 := rd_set h0 _
  have hL := impl_Leave_ev F A P G V 0 (by omega) (by omega) (by omega) (by omega)
  rw [e1] at hL
  have hT := impl_Leave_ev F A (P.set (0 : Int).toNat (-1)) G V 0 (by omega) (by omega) (by omega) (by omega)
  rw [leave_not 0 (fun q => q.2 hr)] at hT
  obtain ⟨t, ht, hi⟩ := lim_ex A (P.set (0 : Int).toNat (-1)) G (by omega) n
  have hM := impl_May_ev F A (P.set (0 : Int).toNat (-1)) G V 0 n t (by omega) (by omega) (by omega) (by omega) ht hi
  rw [may_off 0 n t hr] at hM
  have hO := impl_PoolOk_ev F A (P.set (0 : Int).toNat (-1)) G V (by omega) (by omega) (by omega)
  rw [H1.ok] at hO
  refine Ev.up (g := fun _ => some true) ((evA hL (evA hT (evA hM (evP hO)))).eve fun k ⟨q1, q2, q3, q4⟩ => ?_) (Ev.now _)
  simp only [laws_FnAges.j4, q1, q2, q3, q4, Option.bind_some, noPool, if_true, Bool.false_eq_true, if_false]
/-- The epochs go on once at most, and what was given up is kept. -/
theorem turns_ev (x9 : Bool) (n a0 : Int) (ha : 0 ≤ a0) : ∀ (d j : Nat), j + d = 4 → ∀ (t : Int) {F : List Int} {A : Int} {P : List Int} {G : List GT} {V : List Int}, Good F A P G V → (0 ≤ t ∧ t ≤ 1) → A = a0 + t → hasH P 0 → rd P 0 = a0 → (x9 = true → (⟨n, a0⟩ : GT) ∈ G) → Ev (fun k => laws_FnAges.l0 k 0 n x9 t (j : Int) F A P G V) true
  | 0, j, hj, t, F, A, P, G, V, H, ht, hA, h0, hp, hx => by
    have hs := H.small
    have hend := j4_ev (n := n) H ha h0 hp
    cases x9 with
    | false =>
      refine Ev.up (EvE.of fun k => ?_) hend
      simp only [laws_FnAges.l0, Bool.false_eq_true, if_false]
      rw [if_neg (by omega), if_neg (by omega)]
    | true =>
      have hy := hx rfl
      obtain ⟨u, hu, hi⟩ := lim_ex A P G (by omega) n
      have hM := impl_May_ev F A P G V 0 n u (by omega) (by omega) (by omega) (by omega) hu hi
      rw [may_on H h0 hp (by omega) hy hu] at hM
      have hH := laws_has_ev F n (by omega)
      have hF : hasN F n = false := by
        cases c : hasN F n with
        | false => rfl
        | true => exact absurd (List.mem_map.2 ⟨_, hy, rfl⟩) ((apart3 H).2.1 n ((hasN_iff F n).1 c))
      rw [hF] at hH
      refine Ev.up ((evA hM (evP hH)).eve fun k ⟨q1, q2⟩ => ?_) hend
      simp only [laws_FnAges.l0, q1, q2, Option.bind_some, if_true]
      rw [if_neg (by omega), if_neg (by omega)]
  | d + 1, j, hj, t, F, A, P, G, V, H, ht, hA, h0, hp, hx => by
    have hs := H.small
    have hT := impl_Turn_ev F A P G V (by omega) (by omega) (by omega) (by omega)
    -- what the turn leaves
    have step : ∀ (t' A' : Int) (w : Bool), turnV F A P G V = (F, A', P, G, V, w) → laws_less.f w = some (t' - t) → Good F A' P G V → (0 ≤ t' ∧ t' ≤ 1) → A' = a0 + t' → Ev (fun k => laws_FnAges.l0 k 0 n x9 t (j : Int) F A P G V) true := fun t' A' w eT el H' ht' hA' => by
      rw [eT] at hT
      have hR := impl_Reclaim_ev F A' P G V (by omega) (by omega) (by omega) (by omega)
      obtain ⟨eR, H2, _⟩ := rec_one H'
      rw [eR] at hR
      have ha' := H'.1.1.1.1
      have hx' : x9 = true → (⟨n, a0⟩ : GT) ∈ G.filter (stays A') := fun h => List.mem_filter.2 ⟨hx h, by
        unfold stays
        rw [w64 (by omega) (by omega), decide_eq_false (by simp only; omega)]; rfl⟩
      have ih := turns_ev x9 n a0 ha d (j + 1) (by omega) t' H2 ht' hA' h0 hp hx'
      have b1 : t + (t' - t) = t' := by omega
      have b2 : -9223372036854775808 ≤ t' ∧ t' ≤ 9223372036854775807 := by omega
      have b3 : -9223372036854775808 ≤ (j : Int) + 1 ∧ (j : Int) + 1 ≤ 9223372036854775807 := by omega
      have b4 : (j : Int) < 4 := by omega
      have w1 : wrap64 (t + (t' - t)) = t' := by rw [b1]; exact w64 b2.1 b2.2
      have w2 : wrap64 ((j : Int) + 1) = ((j + 1 : Nat) : Int) := w64 b3.1 b3.2
      refine Ev.up ((evA hT (evP hR)).eve fun k ⟨q1, q2⟩ => ?_) ih
      simp only [laws_FnAges.l0, q1, q2, el, Option.bind_some, if_pos b4, w1, w2]
    rcases turn_one H with ⟨eT, H', hall⟩ | eT
    · have ht0 : t = 0 := by
        have := hall _ (rd_mem h0)
        omega
      exact step 1 (A + 1) true eT (by rw [ht0]; rfl) H' (by omega) (by omega)
    · exact step t A false eT (by rw [Int.sub_self]; rfl) H ht hA
theorem j2_ev (x9 : Bool) (n : Int) {F : List Int} {A : Int} {P : List Int} {G : List GT} {V : List Int} (H : Good F A P G V) (h0 : hasH P 0) (hp : rd P 0 = A) (hx : x9 = true → (⟨n, A⟩ : GT) ∈ G) : Ev (fun k => laws_FnAges.j2 k 0 n x9 F A P G V) true :=
  Ev.up (EvE.of fun k => by simp only [laws_FnAges.j2]; rfl) (turns_ev x9 n A H.1.1.1.1.1 4 0 rfl 0 H (by omega) (by omega) h0 hp hx)
theorem j0_ev {f : List Int} {a : Int} {p : List Int} {g : List GT} {v : List Int} (H : Good f a p g v) (h0 : hasH p 0) (hp : rd p 0 = -1) : Ev (fun k => laws_FnAges.j0 k 0 f a p g v) true := by
  have hs := H.small
  obtain ⟨eE, H1⟩ := enter_one H 0 h0 hp
  have hE := impl_Enter_ev f a p g v 0 (by omega) (by omega) (by omega) (by omega)
  rw [eE] at hE
  have hs1 := H1.small
  have h1 := set_has a h0
  have hr : rd (p.set (0 : Int).toNat a) 0 = a := rd_set h0 a
  have hA := impl_Alloc_ev f a (p.set (0 : Int).toNat a) g v (by omega) (by omega) (by omega) (by omega)
  have hO := impl_PoolOk_ev f a (p.set (0 : Int).toNat a) g v (by omega) (by omega) (by omega)
  rw [H1.ok] at hO
  cases f with
  | nil =>
    rw [alloc_none H1] at hA
    have hj := j2_ev false 0 H1 h1 hr (fun h => by cases h)
    have hj1 : Ev (fun k => laws_FnAges.j1 k 0 0 false false [] a (p.set (0 : Int).toNat a) g v) true := Ev.up (EvE.of fun k => by simp only [laws_FnAges.j1, Bool.false_eq_true, if_false]) hj
    refine Ev.up ((evA hE (evA hA (evP hO))).eve fun k ⟨q1, q2, q3⟩ => ?_) hj1
    simp only [laws_FnAges.j0, q1, q2, q3, Option.bind_some, if_true, Bool.not_true]
  | cons x f =>
    obtain ⟨eA, H2⟩ := alloc_one H1
    rw [eA] at hA
    have hs2 := H2.small
    have hxm : x ∈ sorted (v ++ [x]) := (sorted_perm _).mem_iff.2 (by simp)
    obtain ⟨eG, H3⟩ := give_one H2 hxm
    have hG := impl_GiveUp_ev f a (p.set (0 : Int).toNat a) g (sorted (v ++ [x])) x (by omega) (by omega) (by omega) (by omega)
    rw [eG] at hG
    have hj := j2_ev true x H3 h1 hr (fun _ => by simp)
    have hj1 : Ev (fun k => laws_FnAges.j1 k 0 x true false f a (p.set (0 : Int).toNat a) g (sorted (v ++ [x]))) true := Ev.up ((evP hG).eve fun k q => by simp only [laws_FnAges.j1, q, Option.bind_some, if_true, Bool.false_eq_true, if_false]) hj
    refine Ev.up ((evA hE (evA hA (evP hO))).eve fun k ⟨q1, q2, q3⟩ => ?_) hj1
    simp only [laws_FnAges.j0, q1, q2, q3, Option.bind_some, if_true, Bool.not_true]
theorem law (code : List Int) : Ev (fun k => laws_FnAges.f k code) true := by
  by_cases c : (code.length : Int) > 1048576
  · exact Ev.some_ fun k => by simp only [laws_FnAges.f]; rw [if_pos c]
  obtain ⟨f, a, p, g, v, H, hM⟩ := makePool_some code (by omega)
  have hs := H.small
  have hl := H.1.1.1.2.1.1
  have h0 : hasH p 0 := ⟨Int.le_refl _, by omega⟩
  have hO := impl_PoolOk_ev f a p g v (by omega) (by omega) (by omega)
  rw [H.ok] at hO
  have hlp : 0 < (p.length : Int) := h0.2
  by_cases d : rd p 0 = -1
  · refine (evA hM (evA hO (evP (j0_ev H h0 d)))).ev fun k ⟨q1, q2, q3⟩ => ?_
    simp only [laws_FnAges.f, q1, q2, Option.bind_some, if_true, if_neg c, if_pos hlp, if_pos d, q3]
  · obtain ⟨eL, H1⟩ := leave_one H 0 h0 d
    have hL := impl_Leave_ev f a p g v 0 (by omega) (by omega) (by omega) (by omega)
    rw [eL] at hL
    refine (evA hM (evA hO (evA hL (evP (j0_ev H1 (set_has _ h0) (rd_set h0 _)))))).ev fun k ⟨q1, q2, q4, q3⟩ => ?_
    simp only [laws_FnAges.f, q1, q2, q4, Option.bind_some, if_true, if_neg c, if_pos hlp, if_neg d, q3]
theorem FnAges : DFnAges.Pure := by
  intro code ⟨_, _⟩
  obtain ⟨k, e⟩ := (evP (law code)).ex
  exact ⟨k, e⟩
end Go.Proofs.Ytgkliacflbenfaa.Pure
