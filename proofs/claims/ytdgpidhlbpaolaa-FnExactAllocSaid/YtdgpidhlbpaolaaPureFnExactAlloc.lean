/- The program's Alloc and the reference's tell the same, for all pools. No condition. -/
import Derived.Test.YtdgpidhlbpaolaaDFnExactAlloc
import Derived.Test.YtdgpidhlbpaolaaLm
namespace Go.Proofs.Ytdgpidhlbpaolaa.Pure
open Go.RowKit Go.Proofs.Ytdgpidhlbpaolaa.QFnExactAlloc Go.Proofs.YtdgpidhlbpaolaaW.PrintWords Go.Proofs.YtdgpidhlbpaolaaW.PrintLast Go.Proofs.YtdgpidhlbpaolaaW.PrintMore Go.Proofs.Ytdgpidhlbpaolaa.Lm
set_option linter.unusedSimpArgs false
set_option linter.unusedVariables false
def hasN (l : List Int) (x : Int) : Bool := l.any fun y => decide (y = x)
theorem hasN_cons (y : Int) (l : List Int) (x : Int) : hasN (y :: l) x = (decide (y = x) || hasN l x) := rfl
theorem spec_l03Has_ev (l : List Int) (x : Int) (hl : l.length ≤ 1048576) : Ev (fun k => spec_l03Has.f k l x) (hasN l x) := by
  have key := Ev.scan (fun k (_ : Unit) i => spec_l03Has.l0 k x l (l.length : Int) i) l.length (fun _ _ => True) (fun i _ => hasN (l.drop i) x)
    (fun _ _ => Ev.some_ fun k => by simp only [spec_l03Has.l0]; rw [if_neg (by omega), List.drop_eq_nil_of_le (Nat.le_refl _)]; rfl)
    (fun i _ hi _ => by
      have hd := drop_rd l i hi
      have hs : ∀ k, spec_l03Has.l0 (k + 1) x l (l.length : Int) (i : Int) = if rd l (i : Int) = x then some true else spec_l03Has.l0 k x l (l.length : Int) ((i + 1 : Nat) : Int) := fun k => by
        simp only [spec_l03Has.l0]; rw [if_pos (by omega), if_pos (by omega), if_pos (by omega), w64s hi (by omega)]
      rw [hd, hasN_cons]
      by_cases c : rd l (i : Int) = x
      · exact .inl (Ev.some_ fun k => by simp only [hs]; rw [if_pos c, decide_eq_true c]; rfl)
      · exact .inr ⟨(), trivial, by rw [decide_eq_false c]; rfl, EvE.of fun k => by simp only [hs]; rw [if_neg c]⟩) 0 () (Nat.zero_le _) trivial
  simpa [spec_l03Has.f] using key
def rg (g : List S70) (i : Nat) : S70 := g.getD i z70
theorem rd_rg (g : List S70) (i : Nat) : rd_T70 g (i : Int) = rg g i := by unfold rd_T70 rg; rw [Int.toNat_natCast]
theorem Ev.asks2 (l : Nat → Int → Option Bool) (n : Nat) (p : Nat → Bool) (b : Bool)
    (hend : Ev (fun k => l (k + 1) (n : Int)) b)
    (hs : ∀ i : Nat, i < n → EvE (fun k => l (k + 1) (i : Int)) (fun k => if p i = true then l k ((i + 1 : Nat) : Int) else some false)) : Ev (fun k => l k 0) (allN n p && b) := by
  refine Ev.asks l n p b hend (fun i hi h => ?_) (fun i hi h => ?_)
  · exact Ev.ofE (hs i hi) (Ev.some_ fun k => by rw [h]; rfl)
  · obtain ⟨K, hK⟩ := hs i hi
    exact ⟨K, fun k hk => (hK k hk).trans (by show (if p i = true then l k ((i + 1 : Nat) : Int) else some false) = _; rw [if_pos h])⟩
def nodeIn (g : List S70) (x : Int) : Bool := g.any fun y => decide (y.f0 = x)
def pinOk (a x : Int) : Bool := decide (x = -1 ∨ x = a ∨ x = a - 1)
def limAt (a : Int) (g : List S70) (i : Nat) : Bool := decide (0 ≤ (rg g i).f1 ∧ (rg g i).f1 ≤ a ∧ (0 < i → (rg g (i - 1)).f1 ≤ (rg g i).f1)) && !nodeIn (g.take i) (rg g i).f0
def limOk (a : Int) (g : List S70) : Bool := allN g.length (limAt a g)
def agesOk (a : Int) (p : List Int) (g : List S70) : Bool := decide ((0 ≤ a ∧ a ≤ 4294967295) ∧ (1 ≤ p.length ∧ p.length ≤ 8) ∧ g.length ≤ 100) && (allN p.length (fun i => pinOk a (rd p (i : Int))) && limOk a g)
theorem spec_l06Node_ev (l : List S70) (x : Int) (hl : l.length ≤ 1048576) : Ev (fun k => spec_l06Node.f k l x) (nodeIn l x) := by
  have key := Ev.scan (fun k (_ : Unit) i => spec_l06Node.l0 k x l (l.length : Int) i) l.length (fun _ _ => True) (fun i _ => nodeIn (l.drop i) x)
    (fun _ _ => Ev.some_ fun k => by simp only [spec_l06Node.l0]; rw [if_neg (by omega), List.drop_eq_nil_of_le (Nat.le_refl _)]; rfl)
    (fun i _ hi _ => by
      have hd : l.drop i = rg l i :: l.drop (i + 1) := drop_cons z70 l i hi
      have hs : ∀ k, spec_l06Node.l0 (k + 1) x l (l.length : Int) (i : Int) = if (rg l i).f0 = x then some true else spec_l06Node.l0 k x l (l.length : Int) ((i + 1 : Nat) : Int) := fun k => by
        simp only [spec_l06Node.l0, rd_rg]; rw [if_pos (by omega), if_pos (by omega), if_pos (by omega), w64s hi (by omega)]
      have hc : nodeIn (rg l i :: l.drop (i + 1)) x = (decide ((rg l i).f0 = x) || nodeIn (l.drop (i + 1)) x) := rfl
      rw [hd, hc]
      by_cases c : (rg l i).f0 = x
      · exact .inl (Ev.some_ fun k => by simp only [hs]; rw [if_pos c, decide_eq_true c]; rfl)
      · exact .inr ⟨(), trivial, by rw [decide_eq_false c]; rfl, EvE.of fun k => by simp only [hs]; rw [if_neg c]⟩) 0 () (Nat.zero_le _) trivial
  simpa [spec_l06Node.f] using key
theorem limAt_0 (a : Int) (g : List S70) : limAt a g 0 = decide (0 ≤ (rg g 0).f1 ∧ (rg g 0).f1 ≤ a) := by
  unfold limAt; simp [nodeIn]
theorem spec_lim_ev (a : Int) (p : List Int) (g : List S70) (hg : g.length ≤ 100) : Ev (fun k => spec_AgesOk.l1 k g (g.length : Int) 0 a p g) (limOk a g) := by
  have key := Ev.asks2 (fun k i => spec_AgesOk.l1 k g (g.length : Int) i a p g) g.length (limAt a g) true (Ev.some_ fun k => by simp only [spec_AgesOk.l1]; rw [if_neg (by omega)]) (fun i hi => by
    refine (evP (spec_l06Node_ev (g.take i) (rg g i).f0 (by rw [List.length_take]; omega))).eve fun k e => ?_
    simp only [spec_AgesOk.l1, rd_rg, Int.toNat_natCast, e, Option.bind_some]
    rw [if_pos (by omega), if_pos (by omega), if_pos (by omega), w64s hi (by omega)]
    unfold limAt
    by_cases c1 : (rg g i).f1 < 0
    · rw [if_pos c1, decide_eq_false (by omega)]; rfl
    rw [if_neg c1]
    by_cases c2 : (rg g i).f1 > a
    · rw [if_pos c2, decide_eq_false (by omega)]; rfl
    rw [if_neg c2]
    by_cases c3 : i = 0
    · rw [if_neg (by omega), if_pos (by omega), decide_eq_true ⟨by omega, by omega, fun h => absurd h (by omega)⟩]
      cases nodeIn (g.take i) (rg g i).f0 <;> simp
    · have e1 : wrap64 ((i : Int) - 1) = ((i - 1 : Nat) : Int) := by rw [w64 (by omega) (by omega)]; omega
      simp only [e1, rd_rg]
      rw [if_pos (by omega), if_pos (by omega), if_pos (by omega)]
      by_cases c4 : (rg g (i - 1)).f1 > (rg g i).f1
      · rw [if_pos c4, decide_eq_false (fun h => by have := h.2.2 (by omega); omega)]; rfl
      · rw [if_neg c4, if_pos (by omega), decide_eq_true ⟨by omega, by omega, fun _ => by omega⟩]
        cases nodeIn (g.take i) (rg g i).f0 <;> simp)
  rw [Bool.and_true] at key
  exact key
theorem impl_inLimbo_ev (a : Int) (p : List Int) (g : List S70) (hg : g.length ≤ 1048576) (i0 : Nat) (h0 : i0 < g.length) : ∃ t, Ev (fun k => impl_Ages_inLimbo.f k a p g (rg g i0).f0) t ∧ (t = (i0 : Int) ↔ nodeIn (g.take i0) (rg g i0).f0 = false) := by
  obtain ⟨t, ht, he⟩ := Ev.scanX (fun k (_ : Unit) i => impl_Ages_inLimbo.l0 k (rg g i0).f0 g (g.length : Int) i) g.length (fun i _ => ∀ j, j < i → (rg g j).f0 ≠ (rg g i0).f0) (fun t => ∃ n : Nat, t = (n : Int) ∧ n < g.length ∧ (rg g n).f0 = (rg g i0).f0 ∧ ∀ j, j < n → (rg g j).f0 ≠ (rg g i0).f0)
    (fun _ h => absurd rfl (h i0 h0))
    (fun i _ hi h => by
      have hs : ∀ k, impl_Ages_inLimbo.l0 (k + 1) (rg g i0).f0 g (g.length : Int) (i : Int) = if (rg g i).f0 = (rg g i0).f0 then some (i : Int) else impl_Ages_inLimbo.l0 k (rg g i0).f0 g (g.length : Int) ((i + 1 : Nat) : Int) := fun k => by
        simp only [impl_Ages_inLimbo.l0, rd_rg]; rw [if_pos (by omega), if_pos (by omega), if_pos (by omega), w64s hi (by omega)]
      by_cases c : (rg g i).f0 = (rg g i0).f0
      · exact .inl ⟨i, ⟨i, rfl, hi, c, h⟩, Ev.some_ fun k => by simp only [hs]; rw [if_pos c]⟩
      · refine .inr ⟨(), fun j hj => ?_, EvE.of fun k => by simp only [hs]; rw [if_neg c]⟩
        by_cases e : j = i
        · rw [e]; exact c
        · exact h j (by omega)) 0 () (Nat.zero_le _) (fun j hj => absurd hj (by omega))
  obtain ⟨n, rfl, hn, hc, hj⟩ := ht
  refine ⟨_, he, ?_⟩
  unfold nodeIn
  rw [List.any_eq_false]
  constructor
  · intro h x hx
    obtain ⟨m, hm, rfl⟩ := List.getElem_of_mem hx
    rw [List.length_take] at hm
    have := hj m (by omega)
    rw [List.getElem_take]
    have e : rg g m = g[m] := by unfold rg; simp [show m < g.length by omega]
    rw [e] at this
    simpa using this
  · intro h
    have h1 : ¬ n < i0 := fun h2 => by
      have := h (rg g n) (by
        have e : rg g n = (g.take i0)[n]'(by rw [List.length_take]; omega) := by rw [List.getElem_take]; unfold rg; simp [hn]
        rw [e]; exact List.getElem_mem _)
      simp [hc] at this
    have h2 : ¬ i0 < n := fun h2 => hj i0 h2 rfl
    omega
theorem within_ev (a b c : Int) : impl_within.f a b c = some (decide (b ≤ a ∧ a ≤ c)) := by
  simp only [impl_within.f]
  by_cases h : a ≥ b
  · rw [if_pos h]; congr 1; exact decide_eq_decide.2 ⟨fun h2 => ⟨h, h2⟩, fun h2 => h2.2⟩
  · rw [if_neg h, decide_eq_false (fun h2 => h h2.1)]
theorem impl_lim_ev (a : Int) (p : List Int) (g : List S70) (hg : g.length ≤ 100) : Ev (fun k => impl_AgesOk.l1 k g (g.length : Int) 0 a p g) (limOk a g) := by
  have key := Ev.asks2 (fun k i => impl_AgesOk.l1 k g (g.length : Int) i a p g) g.length (limAt a g) true (Ev.some_ fun k => by simp only [impl_AgesOk.l1]; rw [if_neg (by omega)]) (fun i hi => by
    obtain ⟨t, ht, hit⟩ := impl_inLimbo_ev a p g (by omega) i hi
    refine (evP ht).eve fun k e => ?_
    simp only [impl_AgesOk.l1, rd_rg, within_ev, e, Option.bind_some]
    rw [if_pos (by omega), if_pos (by omega), if_pos (by omega), w64s hi (by omega)]
    unfold limAt
    by_cases c1 : 0 ≤ (rg g i).f1 ∧ (rg g i).f1 ≤ a
    case neg => rw [if_neg (by simpa using c1), decide_eq_false (fun h => c1 ⟨h.1, h.2.1⟩)]; rfl
    rw [if_pos (by simpa using c1)]
    have last : ∀ q : Prop, [Decidable q] → q → (if t = (i : Int) then impl_AgesOk.l1 k g (g.length : Int) ((i + 1 : Nat) : Int) a p g else some false) = if (decide q && !nodeIn (g.take i) (rg g i).f0) = true then impl_AgesOk.l1 k g (g.length : Int) ((i + 1 : Nat) : Int) a p g else some false := by
      intro q _ hq
      rw [decide_eq_true hq, Bool.true_and]
      by_cases c : t = (i : Int)
      · rw [if_pos c, hit.1 c]; rfl
      · rw [if_neg c]
        cases d : nodeIn (g.take i) (rg g i).f0 with
        | true => rfl
        | false => exact absurd (hit.2 d) c
    by_cases c3 : i = 0
    · rw [if_neg (by omega)]
      exact last _ ⟨c1.1, c1.2, fun h => absurd h (by omega)⟩
    · have e1 : wrap64 ((i : Int) - 1) = ((i - 1 : Nat) : Int) := by rw [w64 (by omega) (by omega)]; omega
      simp only [e1, rd_rg]
      rw [if_pos (by omega), if_pos (by omega), if_pos (by omega)]
      by_cases c4 : (rg g (i - 1)).f1 > (rg g i).f1
      · rw [if_pos c4, decide_eq_false (fun h => by have := h.2.2 (by omega); omega)]; rfl
      · rw [if_neg c4]
        exact last _ ⟨c1.1, c1.2, fun _ => by omega⟩)
  rw [Bool.and_true] at key
  exact key
theorem pins_spec (a : Int) (ha : 0 ≤ a ∧ a ≤ 4294967295) (p : List Int) (hp : p.length ≤ 8) (g : List S70) (hg : g.length ≤ 100) : Ev (fun k => spec_AgesOk.l0 k p (p.length : Int) 0 a p g) (allN p.length (fun i => pinOk a (rd p (i : Int))) && limOk a g) :=
  Ev.asks2 (fun k i => spec_AgesOk.l0 k p (p.length : Int) i a p g) p.length _ _ ((spec_lim_ev a p g hg).imp fun K h k hk => by simp only [spec_AgesOk.l0]; rw [if_neg (by omega)]; exact h k hk) (fun i hi => EvE.of fun k => by
    simp only [spec_AgesOk.l0]
    rw [if_pos (by omega), if_pos (by omega), if_pos (by omega), w64s hi (by omega), w64 (x := a - 1) (by omega) (by omega)]
    unfold pinOk
    generalize rd p (i : Int) = x
    by_cases c1 : x = -1
    · rw [if_pos c1, if_pos (by simp [c1])]
    rw [if_neg c1]
    by_cases c2 : x = a
    · rw [if_pos c2, if_pos (by simp [c2])]
    rw [if_neg c2]
    by_cases c3 : x = a - 1
    · rw [if_neg (by omega), if_pos c3, if_pos (by simp [c3])]
    · rw [if_neg c3, ite_self, if_neg (by simp only [decide_eq_true_eq]; omega)])
theorem pins_impl (a : Int) (ha : 0 ≤ a ∧ a ≤ 4294967295) (p : List Int) (hp : p.length ≤ 8) (g : List S70) (hg : g.length ≤ 100) : Ev (fun k => impl_AgesOk.l0 k p (p.length : Int) 0 a p g) (allN p.length (fun i => pinOk a (rd p (i : Int))) && limOk a g) :=
  Ev.asks2 (fun k i => impl_AgesOk.l0 k p (p.length : Int) i a p g) p.length _ _ ((impl_lim_ev a p g hg).imp fun K h k hk => by simp only [impl_AgesOk.l0]; rw [if_neg (by omega)]; exact h k hk) (fun i hi => EvE.of fun k => by
    simp only [impl_AgesOk.l0]
    rw [if_pos (by omega), if_pos (by omega), if_pos (by omega), w64s hi (by omega), w64 (x := a - 1) (by omega) (by omega)]
    unfold pinOk
    generalize rd p (i : Int) = x
    by_cases c0 : x < -1
    · rw [if_pos c0, if_neg (by simp only [decide_eq_true_eq]; omega)]
    rw [if_neg c0]
    by_cases c1 : x = -1
    · rw [if_pos c1, if_pos (by simp [c1])]
    rw [if_neg c1]
    by_cases c2 : x = a
    · rw [if_pos c2, if_pos (by simp [c2])]
    rw [if_neg c2]
    by_cases c3 : x = a - 1
    · rw [if_pos c3, if_pos (by simp [c3])]
    · rw [if_neg c3, if_neg (by simp only [decide_eq_true_eq]; omega)])
theorem agesOk_no {a : Int} {p : List Int} {g : List S70} (h : ¬ ((0 ≤ a ∧ a ≤ 4294967295) ∧ (1 ≤ p.length ∧ p.length ≤ 8) ∧ g.length ≤ 100)) : agesOk a p g = false := by
  unfold agesOk; rw [decide_eq_false h]; rfl
theorem spec_AgesOk_ev (a : Int) (p : List Int) (g : List S70) : Ev (fun k => spec_AgesOk.f k a p g) (agesOk a p g) := by
  have no : Ev (fun k => spec_AgesOk.j0 k true a p g) false := Ev.up (g := fun _ => some false) (EvE.of fun k => by simp only [spec_AgesOk.j0, if_true]) (Ev.now _)
  by_cases c1 : 0 ≤ a ∧ a ≤ 4294967295
  case neg =>
    rw [agesOk_no (fun h => c1 h.1)]
    refine (evP no).ev fun k e => ?_
    simp only [spec_AgesOk.f, spec_l01Num.f]
    by_cases h : a ≥ 0
    · rw [if_pos h, Option.bind_some, if_neg (by simp only [decide_eq_true_eq]; omega), e]
    · rw [if_neg h, Option.bind_some, if_neg (by simp), e]
  have h0 : ∀ k, spec_AgesOk.f k a p g = (if (p.length : Int) < 1 then (spec_AgesOk.j0 k true a p g) else (if (p.length : Int) > 8 then (spec_AgesOk.j0 k true a p g) else (spec_AgesOk.j0 k (decide ((g.length : Int) > 100)) a p g))) := fun k => by
    simp only [spec_AgesOk.f, spec_l01Num.f]
    rw [if_pos c1.1, Option.bind_some, if_pos (by simpa using c1.2)]
  refine Ev.congr h0 ?_
  by_cases c2 : (p.length : Int) < 1
  · rw [agesOk_no (fun h => by omega)]; exact Ev.congr (fun k => by rw [if_pos c2]) no
  by_cases c3 : (p.length : Int) > 8
  · rw [agesOk_no (fun h => by omega)]; exact Ev.congr (fun k => by rw [if_neg c2, if_pos c3]) no
  by_cases c4 : (g.length : Int) > 100
  · rw [agesOk_no (fun h => by omega)]; exact Ev.congr (fun k => by rw [if_neg c2, if_neg c3, decide_eq_true c4]) no
  refine Ev.congr (fun k => by rw [if_neg c2, if_neg c3, decide_eq_false c4]) ?_
  unfold agesOk
  rw [decide_eq_true ⟨c1, by omega, by omega⟩, Bool.true_and]
  exact Ev.up (EvE.of fun k => by simp only [spec_AgesOk.j0, Bool.false_eq_true, if_false]) (pins_spec a c1 p (by omega) g (by omega))
theorem impl_AgesOk_ev (a : Int) (p : List Int) (g : List S70) : Ev (fun k => impl_AgesOk.f k a p g) (agesOk a p g) := by
  have no : Ev (fun k => impl_AgesOk.j0 k true a p g) false := Ev.up (g := fun _ => some false) (EvE.of fun k => by simp only [impl_AgesOk.j0, if_true]) (Ev.now _)
  by_cases c1 : 0 ≤ a ∧ a ≤ 4294967295
  case neg =>
    rw [agesOk_no (fun h => c1 h.1)]
    refine (evP no).ev fun k e => ?_
    simp only [impl_AgesOk.f, impl_isNum.f, within_ev, Option.bind_some]
    rw [if_neg (by simpa using c1), e]
  have h0 : ∀ k, impl_AgesOk.f k a p g = (if 1 ≤ (p.length : Int) ∧ (p.length : Int) ≤ 8 then (impl_AgesOk.j0 k (decide ((g.length : Int) > 100)) a p g) else (impl_AgesOk.j0 k true a p g)) := fun k => by
    simp only [impl_AgesOk.f, impl_isNum.f, within_ev, Option.bind_some, decide_eq_true_eq]
    rw [if_pos c1]
  refine Ev.congr h0 ?_
  by_cases c2 : 1 ≤ (p.length : Int) ∧ (p.length : Int) ≤ 8
  case neg => rw [agesOk_no (fun h => by omega)]; exact Ev.congr (fun k => by rw [if_neg c2]) no
  by_cases c4 : (g.length : Int) > 100
  · rw [agesOk_no (fun h => by omega)]; exact Ev.congr (fun k => by rw [if_pos c2, decide_eq_true c4]) no
  refine Ev.congr (fun k => by rw [if_pos c2, decide_eq_false c4]) ?_
  unfold agesOk
  rw [decide_eq_true ⟨c1, by omega, by omega⟩, Bool.true_and]
  exact Ev.up (EvE.of fun k => by simp only [impl_AgesOk.j0, Bool.false_eq_true, if_false]) (pins_impl a c1 p (by omega) g (by omega))
def rises (v : List Int) : Bool := allN (v.length - 1) fun i => decide (rd v (i : Int) < rd v ((i + 1 : Nat) : Int))
def allOf (f v : List Int) (g : List S70) : List Int := f ++ v ++ g.map (·.f0)
def placed (l : List Int) : Bool := allN l.length fun i => decide (0 ≤ rd l (i : Int) ∧ rd l (i : Int) < (l.length : Int)) && !hasN (l.take i) (rd l (i : Int))
def sorted (l : List Int) : List Int := l.mergeSort fun x y => decide (x ≤ y)
def inRow (l : List Int) : Bool := allN l.length fun i => decide (rd (sorted l) (i : Int) = (i : Int))
def poolOk (f : List Int) (a : Int) (p : List Int) (g : List S70) (v : List Int) : Bool := agesOk a p g && (decide ((allOf f v g).length ≤ 100) && (rises v && placed (allOf f v g)))
theorem rd_get (l : List Int) (i : Nat) (h : i < l.length) : rd l (i : Int) = l[i] := by rw [rd_nat]; simp [h]
theorem allN_iff (n : Nat) (p : Nat → Bool) : allN n p = true ↔ ∀ i, i < n → p i = true := by unfold allN; simp
theorem hasN_iff (l : List Int) (x : Int) : hasN l x = true ↔ x ∈ l := by
  unfold hasN; rw [List.any_eq_true]
  constructor
  · rintro ⟨y, hy, h⟩; rw [← of_decide_eq_true h]; exact hy
  · intro h; exact ⟨x, h, decide_eq_true rfl⟩
theorem sorted_perm (l : List Int) : (sorted l).Perm l := List.mergeSort_perm l _
theorem sorted_le (l : List Int) : (sorted l).Pairwise fun x y => x ≤ y := by
  have h := List.pairwise_mergeSort (le := fun x y : Int => decide (x ≤ y)) (fun a b c h1 h2 => by simp only [decide_eq_true_eq] at *; omega) (fun a b => by simp only [Bool.or_eq_true, decide_eq_true_eq]; omega) l
  exact h.imp fun h => of_decide_eq_true h
theorem sorted_len (l : List Int) : (sorted l).length = l.length := List.length_mergeSort l
theorem placed_iff (l : List Int) : placed l = true ↔ (∀ x ∈ l, 0 ≤ x ∧ x < (l.length : Int)) ∧ l.Nodup := by
  unfold placed
  rw [allN_iff]
  constructor
  · intro h
    have h1 : ∀ i (hi : i < l.length), (0 ≤ l[i] ∧ l[i] < (l.length : Int)) ∧ l[i] ∉ l.take i := fun i hi => by
      have := h i hi
      rw [Bool.and_eq_true, decide_eq_true_eq, rd_get l i hi] at this
      refine ⟨this.1, fun hm => ?_⟩
      have h2 := this.2
      rw [(hasN_iff _ _).2 hm] at h2
      cases h2
    refine ⟨fun x hx => ?_, ?_⟩
    · obtain ⟨i, hi, rfl⟩ := List.getElem_of_mem hx
      exact (h1 i hi).1
    · refine List.pairwise_iff_getElem.2 fun i j hi hj hij he => (h1 j hj).2 ?_
      rw [← he, List.mem_take_iff_getElem]
      exact ⟨i, by omega, rfl⟩
  · rintro ⟨h1, h2⟩ i hi
    rw [Bool.and_eq_true, decide_eq_true_eq, rd_get l i hi]
    refine ⟨h1 _ (List.getElem_mem hi), ?_⟩
    cases c : hasN (l.take i) l[i] with
    | false => rfl
    | true =>
      obtain ⟨j, hj, e⟩ := List.mem_take_iff_getElem.1 ((hasN_iff _ _).1 c)
      exact absurd e (List.pairwise_iff_getElem.1 h2 j i (by omega) hi (by omega))
theorem inRow_iff (l : List Int) : inRow l = true ↔ (∀ x ∈ l, 0 ≤ x ∧ x < (l.length : Int)) ∧ l.Nodup := by
  have hl := sorted_len l
  unfold inRow
  rw [allN_iff]
  constructor
  · intro h
    have h1 : ∀ i (hi : i < (sorted l).length), (sorted l)[i] = (i : Int) := fun i hi => by
      have := of_decide_eq_true (h i (by omega)); rwa [rd_get _ i hi] at this
    refine ⟨fun x hx => ?_, (sorted_perm l).nodup_iff.1 ?_⟩
    · obtain ⟨i, hi, rfl⟩ := List.getElem_of_mem ((sorted_perm l).mem_iff.2 hx)
      rw [h1 i hi]; omega
    · refine List.pairwise_iff_getElem.2 fun i j hi hj hij => ?_
      rw [h1 i hi, h1 j hj]; omega
  · rintro ⟨h1, h2⟩
    have hn := (sorted_perm l).nodup_iff.2 h2
    have hlt : ∀ i j (hi : i < (sorted l).length) (hj : j < (sorted l).length), i < j → (sorted l)[i] < (sorted l)[j] := fun i j hi hj hij => by
      have a1 := List.pairwise_iff_getElem.1 (sorted_le l) i j hi hj hij
      have a2 := List.pairwise_iff_getElem.1 hn i j hi hj hij
      omega
    have hr : ∀ i (hi : i < (sorted l).length), 0 ≤ (sorted l)[i] ∧ (sorted l)[i] < (l.length : Int) := fun i hi => h1 _ ((sorted_perm l).mem_iff.1 (List.getElem_mem hi))
    have lo : ∀ i (hi : i < (sorted l).length), (i : Int) ≤ (sorted l)[i] := by
      intro i
      induction i with
      | zero => intro hi; exact (hr 0 hi).1
      | succ i ih => intro hi; have a1 := ih (by omega); have a2 := hlt i (i + 1) (by omega) hi (by omega); omega
    have up : ∀ d i (hi : i < (sorted l).length), i + d + 1 = l.length → (sorted l)[i] ≤ (i : Int) := by
      intro d
      induction d with
      | zero => intro i hi he; have := (hr i hi).2; omega
      | succ d ih => intro i hi he; have a1 := ih (i + 1) (by omega) (by omega); have a2 := hlt i (i + 1) hi (by omega) (by omega); omega
    intro i hi
    have a1 := lo i (by omega)
    have a2 := up (l.length - i - 1) i (by omega) (by omega)
    rw [rd_get _ i (by omega)]
    exact decide_eq_true (by omega)
theorem inRow_placed (l : List Int) : inRow l = placed l := by
  rw [Bool.eq_iff_iff, inRow_iff, placed_iff]
theorem sort_ev (l : List Int) (h : l.length ≤ 9223372036854) : Ev (fun k => slices_Sort_int_int.f k l) (sorted l) :=
  ⟨1, fun k hk => by cases k with
    | zero => omega
    | succ k => show (if l.length < 4611686018427387904 then some (sorted l) else none) = _; rw [if_pos (by omega)]⟩
theorem take_rg (g : List S70) (i : Nat) (hi : i < g.length) : g.take (i + 1) = g.take i ++ [rg g i] := by
  have e : rg g i = g[i] := by unfold rg; simp [hi]
  rw [List.take_add_one, List.getElem?_eq_getElem hi, e]; rfl
theorem allOf_len (f v : List Int) (g : List S70) : (allOf f v g).length = f.length + v.length + g.length := by simp [allOf]; omega
theorem spec_all_ev (f : List Int) (a : Int) (p : List Int) (g : List S70) (v : List Int) (h1 : f.length ≤ 1048576) (h3 : g.length ≤ 1048576) (h4 : v.length ≤ 1048576) : Ev (fun k => spec_l09All.f k f a p g v) (allOf f v g) := by
  have key := Ev.scan (fun k (s : List Int) i => spec_l09All.l0 k s g (g.length : Int) i) g.length (fun i s => s = f ++ v ++ (g.take i).map (·.f0)) (fun _ _ => allOf f v g)
    (fun s hs => Ev.some_ fun k => by simp only [spec_l09All.l0]; rw [if_neg (by omega), hs, List.take_length]; rfl)
    (fun i s hi hs => .inr ⟨s ++ [(rg g i).f0], by rw [hs, take_rg g i hi, List.map_append, List.append_assoc, List.append_assoc, List.append_assoc]; rfl, rfl, EvE.of fun k => by
      have hl : s.length ≤ 3145728 := by rw [hs]; simp; omega
      simp only [spec_l09All.l0, rd_rg]
      rw [if_pos (by omega), if_pos (by omega), if_pos (by omega), if_pos (by omega), w64s hi (by omega)]⟩) 0 (f ++ v) (Nat.zero_le _) (by simp)
  refine Ev.congr (fun k => ?_) key
  simp only [spec_l09All.f, Option.bind_some, List.nil_append, List.length_nil]
  rw [if_pos (by omega), if_pos (by omega)]; rfl
theorem spec_placed_ev (l : List Int) (h : l.length ≤ 100) : Ev (fun k => spec_PoolOk.l1 k l l (l.length : Int) 0) (placed l) := by
  have key := Ev.asks2 (fun k i => spec_PoolOk.l1 k l l (l.length : Int) i) l.length (fun i => decide (0 ≤ rd l (i : Int) ∧ rd l (i : Int) < (l.length : Int)) && !hasN (l.take i) (rd l (i : Int))) true (Ev.some_ fun k => by simp only [spec_PoolOk.l1]; rw [if_neg (by omega)]) (fun i hi => by
    refine (evP (spec_l03Has_ev (l.take i) (rd l (i : Int)) (by rw [List.length_take]; omega))).eve fun k e => ?_
    simp only [spec_PoolOk.l1, Int.toNat_natCast, e, Option.bind_some]
    rw [if_pos (by omega), if_pos (by omega), if_pos (by omega), w64s hi (by omega)]
    generalize rd l (i : Int) = x
    by_cases c1 : x < 0
    · rw [if_pos c1, decide_eq_false (by omega)]; rfl
    rw [if_neg c1]
    by_cases c2 : x ≥ (l.length : Int)
    · rw [if_pos c2, decide_eq_false (by omega)]; rfl
    rw [if_neg c2, if_pos (by omega), decide_eq_true ⟨by omega, by omega⟩]
    cases hasN (l.take i) x <;> simp)
  rw [Bool.and_true] at key
  exact key
theorem spec_rises_ev (l f : List Int) (a : Int) (p : List Int) (g : List S70) (v : List Int) (h : l.length ≤ 100) (hv : v.length ≤ 1048576) : Ev (fun k => spec_PoolOk.l0 k l 1 f a p g v) (rises v && placed l) :=
  Ev.asks2 (fun k i => spec_PoolOk.l0 k l (i + 1) f a p g v) (v.length - 1) _ _ ((spec_placed_ev l h).imp fun K hK k hk => by
    show spec_PoolOk.l0 (k + 1) l (((v.length - 1 : Nat) : Int) + 1) f a p g v = _
    simp only [spec_PoolOk.l0]; rw [if_neg (by omega)]; exact hK k hk) (fun i hi => EvE.of fun k => by
    have e1 : wrap64 ((i : Int) + 1 - 1) = (i : Int) := by rw [w64 (by omega) (by omega)]; omega
    have e2 : wrap64 ((i : Int) + 1 + 1) = ((i + 1 : Nat) : Int) + 1 := by rw [w64 (by omega) (by omega)]; omega
    simp only [spec_PoolOk.l0, e1, e2]
    clear e1 e2
    rw [if_pos (by omega), if_pos (by omega), if_pos (by omega), if_pos (by omega), show (i : Int) + 1 = ((i + 1 : Nat) : Int) by omega]
    by_cases c : rd v (i : Int) < rd v ((i + 1 : Nat) : Int)
    · rw [if_neg (by omega), if_pos (decide_eq_true c)]
    · rw [if_pos (by omega), if_neg (by simpa using c)])
theorem spec_PoolOk_ev (f : List Int) (a : Int) (p : List Int) (g : List S70) (v : List Int) (h1 : f.length ≤ 1048576) (h3 : g.length ≤ 1048576) (h4 : v.length ≤ 1048576) : Ev (fun k => spec_PoolOk.f k f a p g v) (poolOk f a p g v) := by
  have no : Ev (fun k => spec_PoolOk.j0 k (allOf f v g) true f a p g v) false := Ev.up (g := fun _ => some false) (EvE.of fun k => by simp only [spec_PoolOk.j0, if_true]) (Ev.now _)
  have hA := spec_all_ev f a p g v h1 h3 h4
  have hG := spec_AgesOk_ev a p g
  unfold poolOk
  cases c : agesOk a p g with
  | false =>
    rw [c] at hG
    refine (evA hA (evA hG (evP no))).ev fun k ⟨e1, e2, e3⟩ => ?_
    simp only [spec_PoolOk.f, e1, e2, Option.bind_some, Bool.false_eq_true, if_false, e3, Bool.false_and]
  | true =>
    rw [c] at hG
    by_cases cl : (allOf f v g).length ≤ 100
    · have hr : Ev (fun k => spec_PoolOk.j0 k (allOf f v g) false f a p g v) (rises v && placed (allOf f v g)) := Ev.up (EvE.of fun k => by simp only [spec_PoolOk.j0, Bool.false_eq_true, if_false]) (spec_rises_ev (allOf f v g) f a p g v cl h4)
      refine (evA hA (evA hG (evP hr))).ev fun k ⟨e1, e2, e3⟩ => ?_
      simp only [spec_PoolOk.f, e1, e2, Option.bind_some, if_true]
      rw [decide_eq_false (by omega), e3, decide_eq_true cl]; rfl
    · refine (evA hA (evA hG (evP no))).ev fun k ⟨e1, e2, e3⟩ => ?_
      simp only [spec_PoolOk.f, e1, e2, Option.bind_some, if_true]
      rw [decide_eq_true (by omega), e3, decide_eq_false cl]; rfl
theorem impl_rises_ev (v : List Int) (hv : v.length ≤ 1048576) : Ev (fun k => impl_rises.f k v) (rises v) := by
  have key := Ev.asks2 (fun k i => impl_rises.l0 k v (i + 1)) (v.length - 1) (fun i => decide (rd v (i : Int) < rd v ((i + 1 : Nat) : Int))) true (Ev.some_ fun k => by
    show impl_rises.l0 (k + 1) v (((v.length - 1 : Nat) : Int) + 1) = _
    simp only [impl_rises.l0]; rw [if_neg (by omega)]) (fun i hi => EvE.of fun k => by
    have e1 : wrap64 ((i : Int) + 1 - 1) = (i : Int) := by rw [w64 (by omega) (by omega)]; omega
    have e2 : wrap64 ((i : Int) + 1 + 1) = ((i + 1 : Nat) : Int) + 1 := by rw [w64 (by omega) (by omega)]; omega
    simp only [impl_rises.l0, e1, e2]
    clear e1 e2
    rw [if_pos (by omega), if_pos (by omega), if_pos (by omega), if_pos (by omega), show (i : Int) + 1 = ((i + 1 : Nat) : Int) by omega]
    by_cases c : rd v (i : Int) < rd v ((i + 1 : Nat) : Int)
    · rw [if_neg (by omega), if_pos (decide_eq_true c)]
    · rw [if_pos (by omega), if_neg (by simpa using c)])
  rw [Bool.and_true] at key
  exact key
theorem impl_PoolOk_ev (f : List Int) (a : Int) (p : List Int) (g : List S70) (v : List Int) (h1 : f.length ≤ 1048576) (h3 : g.length ≤ 1048576) (h4 : v.length ≤ 1048576) : Ev (fun k => impl_PoolOk.f k f a p g v) (poolOk f a p g v) := by
  have hL := allOf_len f v g
  have hlen : (sorted (allOf f v g)).length = (allOf f v g).length := sorted_len _
  have hrow : Ev (fun k => impl_PoolOk.l1 k (sorted (allOf f v g)) (sorted (allOf f v g)) ((allOf f v g).length : Int) 0 f a p g v) (poolOk f a p g v) := by
    have hend : Ev (fun k => impl_PoolOk.l1 (k + 1) (sorted (allOf f v g)) (sorted (allOf f v g)) ((allOf f v g).length : Int) ((allOf f v g).length : Int) f a p g v) (agesOk a p g && (rises v && decide ((allOf f v g).length ≤ 100))) := by
      refine (evA (impl_AgesOk_ev a p g) (evP (impl_rises_ev v h4))).ev fun k ⟨e1, e2⟩ => ?_
      simp only [impl_PoolOk.l1, e1, e2, Option.bind_some, hlen]
      rw [if_neg (by omega), show decide (((allOf f v g).length : Int) ≤ 100) = decide ((allOf f v g).length ≤ 100) from decide_eq_decide.2 (by omega)]
      cases agesOk a p g <;> cases rises v <;> simp
    have key := Ev.asks2 (fun k i => impl_PoolOk.l1 k (sorted (allOf f v g)) (sorted (allOf f v g)) ((allOf f v g).length : Int) i f a p g v) (allOf f v g).length (fun i => decide (rd (sorted (allOf f v g)) (i : Int) = (i : Int))) _ hend (fun i hi => EvE.of fun k => by
      simp only [impl_PoolOk.l1, hlen, decide_eq_true_eq]
      rw [if_pos (by omega), if_pos (by omega), if_pos (by omega), w64s hi (by omega)])
    have e : allN (allOf f v g).length (fun i => decide (rd (sorted (allOf f v g)) (i : Int) = (i : Int))) = placed (allOf f v g) := inRow_placed _
    rw [e] at key
    have e2 : (placed (allOf f v g) && (agesOk a p g && (rises v && decide ((allOf f v g).length ≤ 100)))) = poolOk f a p g v := by
      unfold poolOk
      cases placed (allOf f v g) <;> cases agesOk a p g <;> cases rises v <;> cases decide ((allOf f v g).length ≤ 100) <;> rfl
    rw [e2] at key
    exact key
  have key := Ev.scan (fun k (s : List Int) i => impl_PoolOk.l0 k s g (g.length : Int) i f a p g v) g.length (fun i s => s = f ++ v ++ (g.take i).map (·.f0)) (fun _ _ => poolOk f a p g v)
    (fun s hs => by
      have hs' : s = allOf f v g := by rw [hs, List.take_length]; rfl
      subst hs'
      refine (evA (sort_ev (allOf f v g) (by omega)) (evP hrow)).ev fun k ⟨e1, e2⟩ => ?_
      simp only [impl_PoolOk.l0, e1, Option.bind_some]
      rw [if_neg (by omega), e2])
    (fun i s hi hs => .inr ⟨s ++ [(rg g i).f0], by rw [hs, take_rg g i hi, List.map_append, List.append_assoc, List.append_assoc, List.append_assoc]; rfl, rfl, EvE.of fun k => by
      have hl : s.length ≤ 3145728 := by rw [hs]; simp; omega
      simp only [impl_PoolOk.l0, rd_rg]
      rw [if_pos (by omega), if_pos (by omega), if_pos (by omega), if_pos (by omega), w64s hi (by omega)]⟩) 0 (f ++ v) (Nat.zero_le _) (by simp)
  refine Ev.congr (fun k => ?_) key
  simp only [impl_PoolOk.f, impl_copyInts.f, Option.bind_some, List.nil_append, List.length_nil]
  rw [if_pos (by omega), Option.bind_some, if_pos (by omega)]; rfl
abbrev AgesT := Int × List Int × List S70 × Bool
def noAges : AgesT := (0, [], [], false)
abbrev PoolT := List Int × Int × List Int × List S70 × List Int × Bool
def noPool : PoolT := ([], 0, [], [], [], false)
theorem spec_l06Copy_ev (a : Int) (p : List Int) (g : List S70) (hp : p.length ≤ 1048576) (hg : g.length ≤ 1048576) : spec_l06Copy.f a p g = some (a, p, g) := by
  simp only [spec_l06Copy.f, Option.bind_some, List.length_nil, List.nil_append]
  rw [if_pos (by omega), if_pos (by omega)]
theorem impl_copyInts_ev (p : List Int) (hp : p.length ≤ 1048576) : impl_copyInts.f p = some p := by
  simp only [impl_copyInts.f, Option.bind_some, List.length_nil, List.nil_append]
  rw [if_pos (by omega)]
theorem impl_copyAges_ev (a : Int) (p : List Int) (g : List S70) (hp : p.length ≤ 1048576) (hg : g.length ≤ 1048576) : impl_copyAges.f a p g = some (a, p, g) := by
  simp only [impl_copyAges.f, impl_copyInts_ev p hp, Option.bind_some, List.length_nil, List.nil_append]
  rw [if_pos (by omega)]
theorem impl_copyPool_ev (f : List Int) (a : Int) (p : List Int) (g : List S70) (v : List Int) (hf : f.length ≤ 1048576) (hp : p.length ≤ 1048576) (hg : g.length ≤ 1048576) (hv : v.length ≤ 1048576) : impl_copyPool.f f a p g v = some (f, a, p, g, v) := by
  simp only [impl_copyPool.f, impl_copyInts_ev f hf, impl_copyInts_ev v hv, impl_copyAges_ev a p g hp hg, Option.bind_some]
theorem spec_l09Copy_ev (f : List Int) (a : Int) (p : List Int) (g : List S70) (v : List Int) (hf : f.length ≤ 1048576) (hp : p.length ≤ 1048576) (hg : g.length ≤ 1048576) (hv : v.length ≤ 1048576) : spec_l09Copy.f f a p g v = some (f, a, p, g, v) := by
  simp only [spec_l09Copy.f, spec_l06Copy_ev a p g hp hg, Option.bind_some, List.length_nil, List.nil_append]
  rw [if_pos (by omega), if_pos (by omega)]
theorem laws_eqIntS_ev (l : List Int) (h : l.length ≤ 9223372036854775807) : Ev (fun k => laws_eqIntS.f k l l) true := by
  refine Ev.congr (fun k => ?_) (all_loop (fun k i => laws_eqIntS.l0 k l l i) l.length (Ev.some_ fun k => by simp only [laws_eqIntS.l0]; rw [if_neg (by omega)]) (fun i hi => EvE.of fun k => by
    simp only [laws_eqIntS.l0]; rw [if_pos (by omega), if_pos (by omega), if_pos (by omega), if_pos trivial, w64s hi h]))
  simp only [laws_eqIntS.f]; rw [if_pos trivial]
theorem laws_eqGoneS_ev (l : List S70) (h : l.length ≤ 9223372036854775807) : Ev (fun k => laws_eqGoneS.f k l l) true := by
  refine Ev.congr (fun k => ?_) (all_loop (fun k i => laws_eqGoneS.l0 k l l i) l.length (Ev.some_ fun k => by simp only [laws_eqGoneS.l0]; rw [if_neg (by omega)]) (fun i hi => EvE.of fun k => by
    simp only [laws_eqGoneS.l0, laws_eqGone.f, if_true, Option.bind_some]; rw [if_pos (by omega), if_pos (by omega), if_pos (by omega), w64s hi h]))
  simp only [laws_eqGoneS.f]; rw [if_pos trivial]
theorem laws_eqPool_ev (f : List Int) (a : Int) (p : List Int) (g : List S70) (v : List Int) (h1 : f.length ≤ 9223372036854775807) (h2 : p.length ≤ 9223372036854775807) (h3 : g.length ≤ 9223372036854775807) (h4 : v.length ≤ 9223372036854775807) : Ev (fun k => laws_eqPool.f k f a p g v f a p g v) true :=
  (evA (laws_eqIntS_ev f h1) (evA (laws_eqIntS_ev p h2) (evA (laws_eqGoneS_ev g h3) (evP (laws_eqIntS_ev v h4))))).ev fun k ⟨e1, e2, e3, e4⟩ => by
    simp only [laws_eqPool.f, laws_eqAges.f, e1, e2, e3, e4, Option.bind_some, if_true]
theorem laws_markIntS_ev (l : List Int) (n : Int) (h0 : 0 ≤ n) (h : n + (l.length : Int) ≤ 4294967295) : ∃ M : List Int, M.length = l.length ∧ Ev (fun k => laws_markIntS.f k l n) (n + (l.length : Int), M) ∧ Ev (fun k => laws_heldIntS.f k M n) (n + (l.length : Int)) := by
  refine ⟨(List.range l.length).map fun i : Nat => n + (i : Int), by simp, ?_, ?_⟩
  · have key := Ev.scan (fun k (s : Int × List Int) i => laws_markIntS.l0 k s.2 s.1 i) l.length (fun i s => s.1 = n + (i : Int) ∧ s.2.length = l.length) (fun i s => (n + (l.length : Int), s.2.take i ++ ((List.range l.length).drop i).map fun i : Nat => n + (i : Int)))
      (fun s hs => Ev.some_ fun k => by
        simp only [laws_markIntS.l0]; rw [if_neg (by omega), List.drop_eq_nil_of_le (by simp), List.map_nil, List.append_nil, List.take_of_length_le (by omega), hs.1])
      (fun i s hi hs => .inr ⟨(s.1 + 1, s.2.set i s.1), ⟨by simp only; omega, by simpa using hs.2⟩, by
          rw [List.drop_eq_getElem_cons (i := i) (by simpa using hi), List.map_cons, List.getElem_range, hs.1]
          simp only [Prod.mk.injEq, true_and]
          rw [List.take_add_one, List.getElem?_set_self (by omega), List.take_set_of_le (Nat.le_refl i)]
          simp, EvE.of fun k => by
          simp only [laws_markIntS.l0]
          rw [if_pos (by omega), if_pos (by omega), w64s hi (by omega), w64 (by omega) (by omega), Int.toNat_natCast]⟩) 0 (n, l) (Nat.zero_le _) ⟨by simp, rfl⟩
    simpa [laws_markIntS.f] using key
  · have key := Ev.scan (fun k (s : Int) i => laws_heldIntS.l0 k ((List.range l.length).map fun i : Nat => n + (i : Int)) s i) l.length (fun i s => s = n + (i : Int)) (fun i s => n + (l.length : Int))
      (fun s hs => Ev.some_ fun k => by simp only [laws_heldIntS.l0, List.length_map, List.length_range]; rw [if_neg (by omega), hs])
      (fun i s hi hs => .inr ⟨s + 1, by omega, rfl, EvE.of fun k => by
          simp only [laws_heldIntS.l0, List.length_map, List.length_range]
          rw [if_pos (by omega), if_pos (by omega), if_pos (by rw [rd_nat]; simp [hi, hs]), w64s hi (by omega), w64 (by omega) (by omega)]⟩) 0 n (Nat.zero_le _) (by simp)
    simpa [laws_heldIntS.f] using key
def gonesM (n : Int) (len : Nat) : List S70 := (List.range len).map fun i : Nat => (⟨n + 2 * (i : Int), n + 2 * (i : Int) + 1⟩ : S70)
theorem rd_gonesM (n : Int) (len i : Nat) (h : i < len) : rd_T70 (gonesM n len) (i : Int) = (⟨n + 2 * (i : Int), n + 2 * (i : Int) + 1⟩ : S70) := by
  unfold rd_T70 gonesM; rw [Int.toNat_natCast]; simp [h]
theorem laws_markGoneS_ev (l : List S70) (n : Int) (h0 : 0 ≤ n) (h : n + 2 * (l.length : Int) ≤ 4294967295) : ∃ M : List S70, M.length = l.length ∧ Ev (fun k => laws_markGoneS.f k l n) (n + 2 * (l.length : Int), M) ∧ Ev (fun k => laws_heldGoneS.f k M n) (n + 2 * (l.length : Int)) := by
  have hl9 : l.length ≤ 9223372036854775807 := by omega
  refine ⟨gonesM n l.length, by simp [gonesM], ?_, ?_⟩
  · have key := Ev.scan (fun k (s : Int × List S70) i => laws_markGoneS.l0 k s.2 s.1 i) l.length (fun i s => s.1 = n + 2 * (i : Int) ∧ s.2.length = l.length) (fun i s => (n + 2 * (l.length : Int), s.2.take i ++ (gonesM n l.length).drop i))
      (fun s hs => Ev.some_ fun k => by
        simp only [laws_markGoneS.l0]; rw [if_neg (by omega), List.drop_eq_nil_of_le (by simp [gonesM]), List.append_nil, List.take_of_length_le (by omega), hs.1])
      (fun i s hi hs => .inr ⟨(s.1 + 1 + 1, s.2.set i ⟨s.1, s.1 + 1⟩), ⟨by simp only; omega, by simpa using hs.2⟩, by
          unfold gonesM
          rw [← List.map_drop, ← List.map_drop, List.drop_eq_getElem_cons (i := i) (by simpa using hi), List.map_cons, List.getElem_range]
          simp only [Prod.mk.injEq, true_and]
          rw [List.take_add_one, List.getElem?_set_self (by omega), List.take_set_of_le (Nat.le_refl i), hs.1]
          simp, EvE.of fun k => by
          have e1 : wrap64 (s.1 + 1) = s.1 + 1 := w64 (by omega) (by omega)
          have e2 : (rd_T70 (s.2.set i (⟨s.1, (rd_T70 s.2 (i : Int)).f1⟩ : S70)) (i : Int)).f0 = s.1 := by
            unfold rd_T70; rw [Int.toNat_natCast, List.getD_eq_getElem?_getD, List.getElem?_set_self (by omega)]; rfl
          simp only [laws_markGoneS.l0, Option.bind_some, Int.toNat_natCast, e2, e1]
          rw [if_pos (by clear e1; omega), if_pos (by clear e1; omega), w64s hi hl9, w64 (by clear e1; omega) (by clear e1; omega), List.set_set]⟩) 0 (n, l) (Nat.zero_le _) ⟨by simp, rfl⟩
    simpa [laws_markGoneS.f] using key
  · have hlen : (gonesM n l.length).length = l.length := by simp [gonesM]
    have key := Ev.scan (fun k (s : Int) i => laws_heldGoneS.l0 k (gonesM n l.length) s i) l.length (fun i s => s = n + 2 * (i : Int)) (fun i s => n + 2 * (l.length : Int))
      (fun s hs => Ev.some_ fun k => by simp only [laws_heldGoneS.l0, hlen]; rw [if_neg (by omega), hs])
      (fun i s hi hs => .inr ⟨s + 1 + 1, by omega, rfl, EvE.of fun k => by
          simp only [laws_heldGoneS.l0, hlen, rd_gonesM n l.length i hi]
          rw [if_pos (by omega), if_pos (by omega), if_pos hs.symm, w64 (x := s + 1) (by omega) (by omega), if_pos (by omega), w64s hi hl9, w64 (by omega) (by omega)]⟩) 0 n (Nat.zero_le _) (by simp)
    simpa [laws_heldGoneS.f] using key
theorem laws_markPool_ev (f : List Int) (a : Int) (p : List Int) (g : List S70) (v : List Int) (n : Int) (h0 : 0 ≤ n) (h : n + (f.length : Int) + (p.length : Int) + 2 * (g.length : Int) + (v.length : Int) ≤ 4294967295) :
    ∃ F P : List Int, ∃ G : List S70, ∃ V : List Int, F.length = f.length ∧ P.length = p.length ∧ G.length = g.length ∧ V.length = v.length ∧
      Ev (fun k => laws_markPool.f k f a p g v n) (n + (f.length : Int) + (p.length : Int) + 2 * (g.length : Int) + (v.length : Int), F, P, G, V) ∧
      ∀ b, Ev (fun k => laws_heldPool.f k F b P G V n) (n + (f.length : Int) + (p.length : Int) + 2 * (g.length : Int) + (v.length : Int)) := by
  obtain ⟨F, hF, mF, dF⟩ := laws_markIntS_ev f n h0 (by omega)
  obtain ⟨P, hP, mP, dP⟩ := laws_markIntS_ev p (n + (f.length : Int)) (by omega) (by omega)
  obtain ⟨G, hG, mG, dG⟩ := laws_markGoneS_ev g (n + (f.length : Int) + (p.length : Int)) (by omega) (by omega)
  obtain ⟨V, hV, mV, dV⟩ := laws_markIntS_ev v (n + (f.length : Int) + (p.length : Int) + 2 * (g.length : Int)) (by omega) (by omega)
  refine ⟨F, P, G, V, hF, hP, hG, hV, (evA mF (evA mP (evA mG (evP mV)))).ev fun k ⟨e1, e2, e3, e4⟩ => ?_, fun b => (evA dF (evA dP (evA dG (evP dV)))).ev fun k ⟨e1, e2, e3, e4⟩ => ?_⟩
  · simp only [laws_markPool.f, laws_markAges.f, e1, e2, e3, e4, Option.bind_some]
  · simp only [laws_heldPool.f, laws_heldAges.f, e1, Option.bind_some]
    rw [if_neg (by omega)]
    simp only [e2, Option.bind_some]
    rw [if_neg (by omega)]
    simp only [e3, Option.bind_some]
    rw [if_neg (by omega), Option.bind_some, if_neg (by omega)]
    simp only [e4, Option.bind_some]
    rw [if_neg (by omega)]
theorem laws_toIntS_ev (l : List Int) (h : l.length ≤ 1048576) : Ev (fun k => laws_toIntS.f k l) l := by
  have hl := copy_loop (0:Int) (fun k s i => laws_toIntS.l0 k l s i) l (fun s hs => Ev.some_ fun k => by simp only [laws_toIntS.l0]; rw [if_neg (by omega)]) (fun i s hi hs => EvE.of fun k => by
    simp only [laws_toIntS.l0]; rw [if_pos (by omega), if_pos (by omega), if_pos (by omega), w64s hi (by omega), Int.toNat_natCast] <;> rfl) (List.replicate l.length 0) (by simp)
  refine Ev.congr (fun k => ?_) hl
  simp only [laws_toIntS.f, Int.toNat_natCast]
  rw [if_pos (by omega), if_pos (by omega)]
def cvG (x : S106) : S70 := ⟨x.f0, x.f1⟩
theorem laws_toGoneS_ev (l : List S106) (h : l.length ≤ 1048576) : Ev (fun k => laws_toGoneS.f k l) (l.map cvG) := by
  have hl := map_loop cvG z106 (fun k s i => laws_toGoneS.l0 k l s i) l (fun s hs => Ev.some_ fun k => by simp only [laws_toGoneS.l0]; rw [if_neg (by omega)]) (fun i s hi hs => EvE.of fun k => by
    have e : rd_T106 l (i : Int) = l.getD i z106 := by unfold rd_T106; rw [Int.toNat_natCast]
    simp only [laws_toGoneS.l0, laws_toGone.f, Option.bind_some, e]; rw [if_pos (by omega), if_pos (by omega), if_pos (by omega), w64s hi (by omega), Int.toNat_natCast]; rfl) (List.replicate l.length z70) (by simp)
  refine Ev.congr (fun k => ?_) hl
  simp only [laws_toGoneS.f, Int.toNat_natCast]
  rw [if_pos (by omega), if_pos (by omega)]
theorem laws_toPool_ev (f : List Int) (a : Int) (p : List Int) (g : List S106) (v : List Int) (h1 : f.length ≤ 1048576) (h2 : p.length ≤ 1048576) (h3 : g.length ≤ 1048576) (h4 : v.length ≤ 1048576) : Ev (fun k => laws_toPool.f k f a p g v) (f, a, p, g.map cvG, v) :=
  (evA (laws_toIntS_ev f (by omega)) (evA (laws_toIntS_ev p (by omega)) (evA (laws_toGoneS_ev g h3) (evP (laws_toIntS_ev v (by omega)))))).ev fun k ⟨e1, e2, e3, e4⟩ => by
    simp only [laws_toPool.f, laws_toAges.f, e1, e2, e3, e4, Option.bind_some]
theorem szInt (l : List Int) (n : Int) (h0 : -1 ≤ n) (hn : n ≤ 1048576) (h : l.length ≤ 9223372036854775807) : ∃ m, laws_szIntS.f l n = some m ∧ -1 ≤ m ∧ m ≤ n ∧ (0 ≤ m → (l.length : Int) ≤ n) := by
  simp only [laws_szIntS.f]
  rw [w64 (by omega) (by omega)]
  by_cases c : n - (l.length : Int) < 0
  · exact ⟨-1, by rw [if_pos c], by omega, by omega, by omega⟩
  · exact ⟨n - (l.length : Int), by rw [if_neg c], by omega, by omega, by omega⟩
theorem szGone (l : List S106) (n : Int) (h0 : -1 ≤ n) (hn : n ≤ 1048576) (h : l.length ≤ 9223372036854775807) : ∃ m, laws_szGoneS.f l n = some m ∧ -1 ≤ m ∧ m ≤ n ∧ (0 ≤ m → (l.length : Int) ≤ n) := by
  simp only [laws_szGoneS.f]
  rw [w64 (by omega) (by omega)]
  by_cases c : n - (l.length : Int) < 0
  · exact ⟨-1, by rw [if_pos c], by omega, by omega, by omega⟩
  · exact ⟨n - (l.length : Int), by rw [if_neg c], by omega, by omega, by omega⟩
theorem laws_szPool_ex (f : List Int) (a : Int) (p : List Int) (g : List S106) (v : List Int) (h1 : f.length ≤ 9223372036854775807) (h2 : p.length ≤ 9223372036854775807) (h3 : g.length ≤ 9223372036854775807) (h4 : v.length ≤ 9223372036854775807) :
    ∃ m, laws_szPool.f f a p g v 1048576 = some m ∧ (m < 0 ∨ (f.length ≤ 1048576 ∧ p.length ≤ 1048576 ∧ g.length ≤ 1048576 ∧ v.length ≤ 1048576)) := by
  obtain ⟨m1, e1, a1, b1, c1⟩ := szInt f 1048576 (by omega) (by omega) h1
  obtain ⟨m2, e2, a2, b2, c2⟩ := szInt p m1 (by omega) (by omega) h2
  obtain ⟨m3, e3, a3, b3, c3⟩ := szGone g m2 (by omega) (by omega) h3
  obtain ⟨m4, e4, a4, b4, c4⟩ := szInt v m3 (by omega) (by omega) h4
  simp only [laws_szPool.f, laws_szAges.f, e1, Option.bind_some]
  by_cases d1 : m1 < 0
  · exact ⟨-1, by rw [if_pos d1], .inl (by omega)⟩
  rw [if_neg d1, e2, Option.bind_some]
  by_cases d2 : m2 < 0
  · exact ⟨-1, by rw [if_pos d2, Option.bind_some, if_pos (by omega)], .inl (by omega)⟩
  rw [if_neg d2, e3, Option.bind_some]
  by_cases d3 : m3 < 0
  · exact ⟨-1, by rw [if_pos d3, Option.bind_some, if_pos (by omega)], .inl (by omega)⟩
  rw [if_neg d3, Option.bind_some, if_neg d3, e4, Option.bind_some]
  by_cases d4 : m4 < 0
  · exact ⟨-1, by rw [if_pos d4], .inl (by omega)⟩
  exact ⟨m4, by rw [if_neg d4], .inr ⟨by omega, by omega, by omega, by omega⟩⟩
abbrev AllocT := List Int × Int × List Int × List S70 × List Int × Int × Bool
def ins (n : Int) : List Int → List Int
  | [] => [n]
  | x :: t => if n < x then n :: x :: t else x :: ins n t
theorem ins_perm (n : Int) : ∀ v : List Int, (ins n v).Perm (v ++ [n])
  | [] => List.Perm.refl _
  | x :: t => by
    unfold ins
    split
    · exact (List.perm_append_singleton n (x :: t)).symm
    · exact (ins_perm n t).cons x
theorem ins_sorted (n : Int) : ∀ v : List Int, v.Pairwise (fun x y => x ≤ y) → (ins n v).Pairwise (fun x y => x ≤ y)
  | [], _ => List.pairwise_singleton _ _
  | x :: t, h => by
    have h' := List.pairwise_cons.1 h
    unfold ins
    split
    case isTrue c =>
      refine List.pairwise_cons.2 ⟨fun y hy => ?_, h⟩
      rcases List.mem_cons.1 hy with rfl | hy
      · omega
      · have := h'.1 y hy; omega
    case isFalse c =>
      refine List.pairwise_cons.2 ⟨fun y hy => ?_, ins_sorted n t h'.2⟩
      rcases List.mem_append.1 ((ins_perm n t).subset hy) with hm | hm
      · exact h'.1 y hm
      · have := List.mem_singleton.1 hm; omega
theorem rises_le (v : List Int) (h : rises v = true) : v.Pairwise (fun x y => x ≤ y) := by
  have h1 := (allN_iff _ _).1 h
  have key : ∀ d i, i + d < v.length → rd v (i : Int) ≤ rd v ((i + d : Nat) : Int) := by
    intro d
    induction d with
    | zero => intro i _; exact Int.le_refl _
    | succ d ih =>
      intro i hi
      have e1 := ih i (by omega)
      have e2 := of_decide_eq_true (h1 (i + d) (by omega))
      rw [show i + (d + 1) = i + d + 1 by omega]
      omega
  rw [List.pairwise_iff_getElem]
  intro i j hi hj hij
  have := key (j - i) i (by omega)
  rw [show i + (j - i) = j by omega, rd_get v i hi, rd_get v j hj] at this
  exact this
theorem ins_sort (n : Int) (v : List Int) (h : rises v = true) : ins n v = sorted (v ++ [n]) :=
  List.Perm.eq_of_pairwise (le := fun x y : Int => x ≤ y) (fun a b _ _ h1 h2 => by omega) (ins_sorted n v (rises_le v h)) (sorted_le _) ((ins_perm n v).trans (sorted_perm _).symm)
theorem spec_ins_ev (v : List Int) (n : Int) (hv : v.length ≤ 1048576) : Ev (fun k => spec_l08With.f k v n) (ins n v) := by
  have key := Ev.scan (fun k (s : List Int × Bool) i => spec_l08With.l0 k n s.1 s.2 v (v.length : Int) i) v.length (fun i s => (s.2 = true → s.1.length ≤ i + 1) ∧ (s.2 = false → s.1.length ≤ i)) (fun i s => if s.2 = true then s.1 ++ v.drop i else s.1 ++ ins n (v.drop i))
    (fun s hs => Ev.some_ fun k => by
      have hb : s.1.length < 17592186044416 := by cases hc : s.2 with
        | true => have := hs.1 hc; omega
        | false => have := hs.2 hc; omega
      simp only [spec_l08With.l0]; rw [if_neg (by omega), List.drop_eq_nil_of_le (Nat.le_refl _), if_pos hb]
      split
      · simp
      · simp [ins])
    (fun i s hi hs => by
      obtain ⟨s, b⟩ := s
      have hb0 : s.length ≤ i + 1 := by cases b with
        | true => exact hs.1 rfl
        | false => have := hs.2 rfl; simp only at this; omega
      have hb : s.length < 17592186044416 := by omega
      have hb2 : (s ++ [n]).length < 17592186044416 := by simp; omega
      have hd : v.drop i = rd v (i : Int) :: v.drop (i + 1) := drop_rd v i hi
      have h0 : ∀ k, spec_l08With.l0 (k + 1) n s b v (v.length : Int) (i : Int) = if b = true then spec_l08With.l0 k n (s ++ [rd v (i : Int)]) b v (v.length : Int) ((i + 1 : Nat) : Int) else if n < rd v (i : Int) then spec_l08With.l0 k n ((s ++ [n]) ++ [rd v (i : Int)]) true v (v.length : Int) ((i + 1 : Nat) : Int) else spec_l08With.l0 k n (s ++ [rd v (i : Int)]) b v (v.length : Int) ((i + 1 : Nat) : Int) := fun k => by
        simp only [spec_l08With.l0, Option.bind_some]; rw [if_pos (by omega), if_pos (by omega), if_pos (by omega), w64s hi (by omega), if_pos hb, if_pos hb, if_pos hb2]
      cases b with
      | true =>
        refine .inr ⟨(s ++ [rd v (i : Int)], true), ⟨fun _ => by simp; omega, fun h => by cases h⟩, ?_, EvE.of fun k => by simp only [h0, if_true]⟩
        simp only [if_true]; rw [hd]; simp
      | false =>
        by_cases c : n < rd v (i : Int)
        · refine .inr ⟨((s ++ [n]) ++ [rd v (i : Int)], true), ?_, ?_, EvE.of fun k => by simp only [h0]; rw [if_neg (by simp), if_pos c]⟩
          · refine ⟨fun _ => ?_, fun h => by cases h⟩
            have := hs.2 rfl; simp only [List.length_append, List.length_singleton] at *; omega
          · simp only [if_true, Bool.false_eq_true, if_false]; rw [hd]; unfold ins; rw [if_pos c]; simp
        · refine .inr ⟨(s ++ [rd v (i : Int)], false), ⟨fun h => by simp only [Bool.false_eq_true] at h, fun _ => by have := hs.2 rfl; simp only [List.length_append, List.length_singleton] at *; omega⟩, ?_, EvE.of fun k => by simp only [h0]; rw [if_neg (by simp), if_neg c]⟩
          simp only [Bool.false_eq_true, if_false]; rw [hd]; conv => rhs; unfold ins
          rw [if_neg c]; simp) 0 ([], false) (Nat.zero_le _) (And.intro (fun h => by simp at h) (fun _ => Nat.le_refl _))
  simpa [spec_l08With.f] using key
def allocV (f : List Int) (a : Int) (p : List Int) (g : List S70) (v : List Int) : AllocT := if poolOk f a p g v = true then (if (f.length : Int) = 0 then (f, a, p, g, v, 0, false) else (f.drop (1 : Int).toNat, a, p, g, sorted (v ++ [rd f 0]), rd f 0, true)) else ([], 0, [], [], [], 0, false)
theorem poolOk_rises {f : List Int} {a : Int} {p : List Int} {g : List S70} {v : List Int} (h : poolOk f a p g v = true) : rises v = true := by
  unfold poolOk at h
  simp only [Bool.and_eq_true] at h
  exact h.2.2.1
theorem spec_Alloc_ev (f : List Int) (a : Int) (p : List Int) (g : List S70) (v : List Int) (hf : f.length ≤ 1048576) (hp : p.length ≤ 1048576) (hg : g.length ≤ 1048576) (hv : v.length ≤ 1048576) : Ev (fun k => spec_Alloc.f k f a p g v) (allocV f a p g v) := by
  refine (evA (spec_PoolOk_ev f a p g v hf hg hv) (evP (spec_ins_ev v (rd f 0) hv))).ev fun k ⟨e1, e2⟩ => ?_
  simp only [spec_Alloc.f, e1, e2, Option.bind_some, spec_l09Copy_ev f a p g v hf hp hg hv]
  unfold allocV
  by_cases c : poolOk f a p g v = true
  case neg => rw [if_neg c, if_neg c]
  rw [if_pos c, if_pos c]
  by_cases d : (f.length : Int) = 0
  · rw [if_pos d, if_pos d]
  · rw [if_neg d, if_neg d, if_pos (by omega), if_pos (by omega), ins_sort _ _ (poolOk_rises c)]
theorem impl_Alloc_ev (f : List Int) (a : Int) (p : List Int) (g : List S70) (v : List Int) (hf : f.length ≤ 1048576) (hp : p.length ≤ 1048576) (hg : g.length ≤ 1048576) (hv : v.length ≤ 1048576) : Ev (fun k => impl_Alloc.f k f a p g v) (allocV f a p g v) := by
  refine (evA (impl_PoolOk_ev f a p g v hf hg hv) (evP (sort_ev (v ++ [rd f 0]) (by simp; omega)))).ev fun k ⟨e1, e2⟩ => ?_
  have hb : v.length < 17592186044416 := by omega
  simp only [impl_Alloc.f, e1, e2, Option.bind_some, impl_copyPool_ev f a p g v hf hp hg hv]
  unfold allocV
  by_cases c : poolOk f a p g v = true
  case neg => rw [if_neg c, if_neg c]
  rw [if_pos c, if_pos c]
  by_cases d : (f.length : Int) = 0
  · rw [if_pos d, if_pos d]
  · rw [if_neg d, if_neg d, if_pos (by omega), if_pos (by omega), if_pos hb]
theorem allocV_len (f : List Int) (a : Int) (p : List Int) (g : List S70) (v : List Int) (hf : f.length ≤ 1048576) (hp : p.length ≤ 1048576) (hg : g.length ≤ 1048576) (hv : v.length ≤ 1048576) : (allocV f a p g v).1.length ≤ 10485760 ∧ (allocV f a p g v).2.2.1.length ≤ 10485760 ∧ (allocV f a p g v).2.2.2.1.length ≤ 10485760 ∧ (allocV f a p g v).2.2.2.2.1.length ≤ 10485760 := by
  unfold allocV
  split
  · split
    · simp only; omega
    · simp only [sorted_len, List.length_append, List.length_singleton, List.length_drop]; omega
  · simp only [List.length_nil]; omega
theorem law_Alloc (f : List Int) (a : Int) (p : List Int) (g : List S106) (v : List Int) (W : AllocT) (hf : f.length ≤ 9223372036854775807) (hp : p.length ≤ 9223372036854775807) (hg : g.length ≤ 9223372036854775807) (hv : v.length ≤ 9223372036854775807)
    (hs : f.length ≤ 1048576 → p.length ≤ 1048576 → g.length ≤ 1048576 → v.length ≤ 1048576 → Ev (fun k => spec_Alloc.f k f a p (g.map cvG) v) W ∧ Ev (fun k => impl_Alloc.f k f a p (g.map cvG) v) W ∧ W.1.length ≤ 10485760 ∧ W.2.2.1.length ≤ 10485760 ∧ W.2.2.2.1.length ≤ 10485760 ∧ W.2.2.2.2.1.length ≤ 10485760) : ∃ k, laws_FnExactAlloc.f k f a p g v = some true := by
  obtain ⟨m, e0, hm⟩ := laws_szPool_ex f a p g v hf hp hg hv
  by_cases c : m < 0
  · exact ⟨0, by simp only [laws_FnExactAlloc.f, e0, Option.bind_some]; rw [if_pos c]⟩
  obtain ⟨h1, h2, h3, h4⟩ := hm.resolve_left c
  obtain ⟨s1, s2, l1, l2, l3, l4⟩ := hs h1 h2 h3 h4
  obtain ⟨F, A, P, G, V, n, b⟩ := W
  have t := laws_toPool_ev f a p g v h1 h2 h3 h4
  have hgl : (g.map cvG).length = g.length := List.length_map _
  have q := laws_eqPool_ev F A P G V (by simp only at l1; omega) (by simp only at l2; omega) (by simp only at l3; omega) (by simp only at l4; omega)
  have q0 := laws_eqPool_ev f a p (g.map cvG) v (by omega) (by omega) (by omega) (by omega)
  obtain ⟨_, _, _, _, _, _, _, _, m0, _⟩ := laws_markPool_ev f a p (g.map cvG) v 1 (by omega) (by omega)
  obtain ⟨MF, MP, MG, MV, _, _, _, _, mm, d⟩ := laws_markPool_ev F A P G V 1 (by omega) (by simp only at l1 l2 l3 l4; omega)
  have tpos0 : ¬ (1 + (f.length : Int) + (p.length : Int) + 2 * ((g.map cvG).length : Int) + (v.length : Int) < 0) := by omega
  generalize 1 + (f.length : Int) + (p.length : Int) + 2 * ((g.map cvG).length : Int) + (v.length : Int) = t0 at m0 tpos0
  have tpos : ¬ (1 + (F.length : Int) + (P.length : Int) + 2 * (G.length : Int) + (V.length : Int) < 0) := by omega
  generalize 1 + (F.length : Int) + (P.length : Int) + 2 * (G.length : Int) + (V.length : Int) = t1 at mm d tpos
  have st2 : Ev (fun k => laws_FnExactAlloc.j2 k t1 false MF A MP MG MV) true := by
    refine Ev.up (g := fun _ => some true) ((evP (d A)).eve fun k e1 => ?_) (Ev.now _)
    simp only [laws_FnExactAlloc.j2, Bool.false_eq_true, if_false, e1, Option.bind_some, if_true]
    rw [if_neg tpos]
  have st1 : Ev (fun k => laws_FnExactAlloc.j1 k n b false f a p g v F A P G V F A P G V) true := by
    refine Ev.up (g := fun k => laws_FnExactAlloc.j2 k t1 false MF A MP MG MV) ((evA mm (evA (d A) (evA t (evA s2 (evP q))))).eve fun k ⟨e1, e2, e3, e4, e5⟩ => ?_) st2
    simp only [laws_FnExactAlloc.j1, Bool.false_eq_true, if_false, e1, e2, e3, e4, e5, Option.bind_some, if_true, eq_self, bne_self_eq_false]
    rw [if_neg tpos]
  have st0 : Ev (fun k => laws_FnExactAlloc.j0 k n b n b false f a p g v F A P G V f a p (g.map cvG) v F A P G V) true := by
    refine Ev.up (g := fun k => laws_FnExactAlloc.j1 k n b false f a p g v F A P G V F A P G V) ((evA t (evA q0 (evA m0 (evP q)))).eve fun k ⟨e1, e2, e3, e4⟩ => ?_) st1
    simp only [laws_FnExactAlloc.j0, Bool.false_eq_true, if_false, e1, e2, e3, e4, Option.bind_some, if_true, eq_self, bne_self_eq_false]
    rw [if_neg tpos0]
  obtain ⟨k, e1, e2, e3, e4, e5⟩ := (evA t (evA s1 (evA s2 (evA q (evP st0))))).ex
  exact ⟨k, by simp only [laws_FnExactAlloc.f, e0, e1, e2, e3, e4, e5, Option.bind_some, if_neg c, if_true, eq_self, bne_self_eq_false]⟩
theorem FnExactAlloc : DFnExactAlloc.Pure := by
  intro f a p g v hf ha hp hg hv
  refine law_Alloc f a p g v (allocV f a p (g.map cvG) v) hf.1 hp.1 hg.1 hv.1 fun h1 h2 h3 h4 => ?_
  have hgl : (g.map cvG).length = g.length := List.length_map _
  exact ⟨spec_Alloc_ev f a p (g.map cvG) v h1 h2 (by omega) h4, impl_Alloc_ev f a p (g.map cvG) v h1 h2 (by omega) h4, allocV_len f a p (g.map cvG) v h1 h2 (by omega) h4⟩
end Go.Proofs.Ytdgpidhlbpaolaa.Pure
