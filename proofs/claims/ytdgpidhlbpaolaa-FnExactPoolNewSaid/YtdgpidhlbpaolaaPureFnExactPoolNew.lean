/- The program's PoolNew and the reference's tell the same, for all numbers. No condition. -/
import Derived.Test.YtdgpidhlbpaolaaDFnExactPoolNew
import Derived.Test.YtdgpidhlbpaolaaLm
namespace Go.Proofs.Ytdgpidhlbpaolaa.Pure
open Go.RowKit Go.Proofs.Ytdgpidhlbpaolaa.QFnExactPoolNew Go.Proofs.YtdgpidhlbpaolaaW.PrintWords Go.Proofs.YtdgpidhlbpaolaaW.PrintLast Go.Proofs.YtdgpidhlbpaolaaW.PrintMore Go.Proofs.Ytdgpidhlbpaolaa.Lm
set_option linter.unusedSimpArgs false
set_option linter.unusedVariables false
theorem laws_eqIntS_ev (l : List Int) (h : l.length ≤ 9223372036854775807) : Ev (fun k => laws_eqIntS.f k l l) true := by
  refine Ev.congr (fun k => ?_) (all_loop (fun k i => laws_eqIntS.l0 k l l i) l.length (Ev.some_ fun k => by simp only [laws_eqIntS.l0]; rw [if_neg (by omega)]) (fun i hi => EvE.of fun k => by
    simp only [laws_eqIntS.l0]; rw [if_pos (by omega), if_pos (by omega), if_pos (by omega), if_pos trivial, w64s hi h]))
  simp only [laws_eqIntS.f]; rw [if_pos trivial]
theorem laws_markIntS_ev (l : List Int) (n : Int) (h0 : 0 ≤ n) (h : n + (l.length : Int) ≤ 4294967295) : ∃ M : List Int, M.length = l.length ∧ Ev (fun k => laws_markIntS.f k l n) (n + (l.length : Int), M) ∧ Ev (fun k => laws_heldIntS.f k M n) (n + (l.length : Int)) := by
  refine ⟨(List.range l.length).map fun i : Nat => n + (i : Int), by simp, ?_, ?_⟩
  · have key := Ev.scan (fun k (s : Int × List Int) i => laws_markIntS.l0 k s.2 s.1 i) l.length (fun i s => s.1 = n + (i : Int) ∧ s.2.length = l.length) (fun i s => (n + (l.length : Int), s.2.take i ++ ((List.range l.length).drop i).map fun i : Nat => n + (i : Int)))
      (fun s hs => Ev.some_ fun k => by
        simp only [laws_markIntS.l0]; rw [if_neg (by omega), List.drop_eq_nil_of_le (by simp), List.map_nil, List.append_nil, List.take_of_length_le (by omega), hs.1])
      (fun i s hi hs => .inr ⟨(s.1 + 1, s.2.set i s.1), ⟨by simp only; omega, by simpa using hs.2⟩, by
          rw [List.drop_eq_getElem_cons (i := i) (by simpa using hi), List.map_cons, List.getElem_range, hs.1]
          simp only [Prod.mk.injEq, true_and]
          rw [List.take_add_one, List.getElem?_set_self (by omega), List.take_set_of_le (Nat.le_refl i)]
          simp, EvE.of fun k => by
          simp only [laws_markIntS.l0]
          rw [if_pos (by omega), if_pos (by omega), w64s hi (by omega), w64 (by omega) (by omega), Int.toNat_natCast]⟩) 0 (n, l) (Nat.zero_le _) ⟨by simp, rfl⟩
    simpa [laws_markIntS.f] using key
  · have key := Ev.scan (fun k (s : Int) i => laws_heldIntS.l0 k ((List.range l.length).map fun i : Nat => n + (i : Int)) s i) l.length (fun i s => s = n + (i : Int)) (fun i s => n + (l.length : Int))
      (fun s hs => Ev.some_ fun k => by simp only [laws_heldIntS.l0, List.length_map, List.length_range]; rw [if_neg (by omega), hs])
      (fun i s hi hs => .inr ⟨s + 1, by omega, rfl, EvE.of fun k => by
          simp only [laws_heldIntS.l0, List.length_map, List.length_range]
          rw [if_pos (by omega), if_pos (by omega), if_pos (by rw [rd_nat]; simp [hi, hs]), w64s hi (by omega), w64 (by omega) (by omega)]⟩) 0 n (Nat.zero_le _) (by simp)
    simpa [laws_heldIntS.f] using key
theorem laws_eqGoneS_ev (l : List S70) (h : l.length ≤ 9223372036854775807) : Ev (fun k => laws_eqGoneS.f k l l) true := by
  refine Ev.congr (fun k => ?_) (all_loop (fun k i => laws_eqGoneS.l0 k l l i) l.length (Ev.some_ fun k => by simp only [laws_eqGoneS.l0]; rw [if_neg (by omega)]) (fun i hi => EvE.of fun k => by
    simp only [laws_eqGoneS.l0, laws_eqGone.f, if_true, Option.bind_some]; rw [if_pos (by omega), if_pos (by omega), if_pos (by omega), w64s hi h]))
  simp only [laws_eqGoneS.f]; rw [if_pos trivial]
def gonesM (n : Int) (len : Nat) : List S70 := (List.range len).map fun i : Nat => (⟨n + 2 * (i : Int), n + 2 * (i : Int) + 1⟩ : S70)
theorem rd_gonesM (n : Int) (len i : Nat) (h : i < len) : rd_T70 (gonesM n len) (i : Int) = (⟨n + 2 * (i : Int), n + 2 * (i : Int) + 1⟩ : S70) := by
  unfold rd_T70 gonesM; rw [Int.toNat_natCast]; simp [h]
theorem laws_markGoneS_ev (l : List S70) (n : Int) (h0 : 0 ≤ n) (h : n + 2 * (l.length : Int) ≤ 4294967295) : ∃ M : List S70, M.length = l.length ∧ Ev (fun k => laws_markGoneS.f k l n) (n + 2 * (l.length : Int), M) ∧ Ev (fun k => laws_heldGoneS.f k M n) (n + 2 * (l.length : Int)) := by
  have hl9 : l.length ≤ 9223372036854775807 := by omega
  refine ⟨gonesM n l.length, by simp [gonesM], ?_, ?_⟩
  · have key := Ev.scan (fun k (s : Int × List S70) i => laws_markGoneS.l0 k s.2 s.1 i) l.length (fun i s => s.1 = n + 2 * (i : Int) ∧ s.2.length = l.length) (fun i s => (n + 2 * (l.length : Int), s.2.take i ++ (gonesM n l.length).drop i))
      (fun s hs => Ev.some_ fun k => by
        simp only [laws_markGoneS.l0]; rw [if_neg (by omega), List.drop_eq_nil_of_le (by simp [gonesM]), List.append_nil, List.take_of_length_le (by omega), hs.1])
      (fun i s hi hs => .inr ⟨(s.1 + 1 + 1, s.2.set i ⟨s.1, s.1 + 1⟩), ⟨by simp only; omega, by simpa using hs.2⟩, by
          unfold gonesM
          rw [← List.map_drop, ← List.map_drop, List.drop_eq_getElem_cons (i := i) (by simpa using hi), List.map_cons, List.getElem_range]
          simp only [Prod.mk.injEq, true_and]
          rw [List.take_add_one, List.getElem?_set_self (by omega), List.take_set_of_le (Nat.le_refl i), hs.1]
          simp, EvE.of fun k => by
          have e1 : wrap64 (s.1 + 1) = s.1 + 1 := w64 (by omega) (by omega)
          have e2 : (rd_T70 (s.2.set i (⟨s.1, (rd_T70 s.2 (i : Int)).f1⟩ : S70)) (i : Int)).f0 = s.1 := by
            unfold rd_T70; rw [Int.toNat_natCast, List.getD_eq_getElem?_getD, List.getElem?_set_self (by omega)]; rfl
          simp only [laws_markGoneS.l0, Option.bind_some, Int.toNat_natCast, e2, e1]
          rw [if_pos (by clear e1; omega), if_pos (by clear e1; omega), w64s hi hl9, w64 (by clear e1; omega) (by clear e1; omega), List.set_set]⟩) 0 (n, l) (Nat.zero_le _) ⟨by simp, rfl⟩
    simpa [laws_markGoneS.f] using key
  · have hlen : (gonesM n l.length).length = l.length := by simp [gonesM]
    have key := Ev.scan (fun k (s : Int) i => laws_heldGoneS.l0 k (gonesM n l.length) s i) l.length (fun i s => s = n + 2 * (i : Int)) (fun i s => n + 2 * (l.length : Int))
      (fun s hs => Ev.some_ fun k => by simp only [laws_heldGoneS.l0, hlen]; rw [if_neg (by omega), hs])
      (fun i s hi hs => .inr ⟨s + 1 + 1, by omega, rfl, EvE.of fun k => by
          simp only [laws_heldGoneS.l0, hlen, rd_gonesM n l.length i hi]
          rw [if_pos (by omega), if_pos (by omega), if_pos hs.symm, w64 (x := s + 1) (by omega) (by omega), if_pos (by omega), w64s hi hl9, w64 (by omega) (by omega)]⟩) 0 n (Nat.zero_le _) (by simp)
    simpa [laws_heldGoneS.f] using key
theorem laws_eqPool_ev (f : List Int) (a : Int) (p : List Int) (g : List S70) (v : List Int) (h1 : f.length ≤ 9223372036854775807) (h2 : p.length ≤ 9223372036854775807) (h3 : g.length ≤ 9223372036854775807) (h4 : v.length ≤ 9223372036854775807) : Ev (fun k => laws_eqPool.f k f a p g v f a p g v) true :=
  (evA (laws_eqIntS_ev f h1) (evA (laws_eqIntS_ev p h2) (evA (laws_eqGoneS_ev g h3) (evP (laws_eqIntS_ev v h4))))).ev fun k ⟨e1, e2, e3, e4⟩ => by
    simp only [laws_eqPool.f, laws_eqAges.f, e1, e2, e3, e4, Option.bind_some, if_true]
theorem laws_markPool_ev (f : List Int) (a : Int) (p : List Int) (g : List S70) (v : List Int) (n : Int) (h0 : 0 ≤ n) (h : n + (f.length : Int) + (p.length : Int) + 2 * (g.length : Int) + (v.length : Int) ≤ 4294967295) :
    ∃ F P : List Int, ∃ G : List S70, ∃ V : List Int, F.length = f.length ∧ P.length = p.length ∧ G.length = g.length ∧ V.length = v.length ∧
      Ev (fun k => laws_markPool.f k f a p g v n) (n + (f.length : Int) + (p.length : Int) + 2 * (g.length : Int) + (v.length : Int), F, P, G, V) ∧
      ∀ b, Ev (fun k => laws_heldPool.f k F b P G V n) (n + (f.length : Int) + (p.length : Int) + 2 * (g.length : Int) + (v.length : Int)) := by
  obtain ⟨F, hF, mF, dF⟩ := laws_markIntS_ev f n h0 (by omega)
  obtain ⟨P, hP, mP, dP⟩ := laws_markIntS_ev p (n + (f.length : Int)) (by omega) (by omega)
  obtain ⟨G, hG, mG, dG⟩ := laws_markGoneS_ev g (n + (f.length : Int) + (p.length : Int)) (by omega) (by omega)
  obtain ⟨V, hV, mV, dV⟩ := laws_markIntS_ev v (n + (f.length : Int) + (p.length : Int) + 2 * (g.length : Int)) (by omega) (by omega)
  refine ⟨F, P, G, V, hF, hP, hG, hV, (evA mF (evA mP (evA mG (evP mV)))).ev fun k ⟨e1, e2, e3, e4⟩ => ?_, fun b => (evA dF (evA dP (evA dG (evP dV)))).ev fun k ⟨e1, e2, e3, e4⟩ => ?_⟩
  · simp only [laws_markPool.f, laws_markAges.f, e1, e2, e3, e4, Option.bind_some]
  · simp only [laws_heldPool.f, laws_heldAges.f, e1, Option.bind_some]
    rw [if_neg (by omega)]
    simp only [e2, Option.bind_some]
    rw [if_neg (by omega)]
    simp only [e3, Option.bind_some]
    rw [if_neg (by omega), Option.bind_some, if_neg (by omega)]
    simp only [e4, Option.bind_some]
    rw [if_neg (by omega)]
abbrev PoolT := List Int × Int × List Int × List S70 × List Int × Bool
def noPool : PoolT := ([], 0, [], [], [], false)
def ints (n : Nat) : List Int := (List.range n).map fun i : Nat => (i : Int)
theorem ints_succ (n : Nat) : ints (n + 1) = ints n ++ [(n : Int)] := by simp [ints, List.range_succ]
theorem ages_spec (h : Nat) (hh : h ≤ 8) : Ev (fun k => spec_AgesNew.l0 k (h : Int) 0 0 []) (0, List.replicate h (-1), [], true) := by
  have key := Ev.scan (fun k (a : List Int) i => spec_AgesNew.l0 k (h : Int) i 0 a) h (fun i a => a = List.replicate i (-1)) (fun i a => (0, List.replicate h (-1), [], true))
    (fun a ha => Ev.some_ fun k => by simp only [spec_AgesNew.l0]; rw [if_neg (by omega), ha])
    (fun i a hi ha => .inr ⟨a ++ [-1], by rw [ha, List.replicate_succ'], rfl, EvE.of fun k => by
      have : a.length = i := by rw [ha, List.length_replicate]
      simp only [spec_AgesNew.l0]; rw [if_pos (by omega), if_pos (by omega), w64s hi (by omega)]⟩) 0 [] (Nat.zero_le _) rfl
  exact key
theorem ages_impl (h : Nat) (hh : h ≤ 8) : Ev (fun k => impl_AgesNew.l0 k (h : Int) 0 0 []) (0, List.replicate h (-1), [], true) := by
  have key := Ev.scan (fun k (a : List Int) i => impl_AgesNew.l0 k (h : Int) i 0 a) h (fun i a => a = List.replicate i (-1)) (fun i a => (0, List.replicate h (-1), [], true))
    (fun a ha => Ev.some_ fun k => by simp only [impl_AgesNew.l0]; rw [if_neg (by omega), ha])
    (fun i a hi ha => .inr ⟨a ++ [-1], by rw [ha, List.replicate_succ'], rfl, EvE.of fun k => by
      have : a.length = i := by rw [ha, List.length_replicate]
      simp only [impl_AgesNew.l0]; rw [if_pos (by omega), if_pos (by omega), w64s hi (by omega)]⟩) 0 [] (Nat.zero_le _) rfl
  exact key
theorem pool_spec (n : Nat) (hn : n ≤ 100) (a : Int) (p : List Int) (g : List S70) : Ev (fun k => spec_PoolNew.l0 k (n : Int) 0 [] a p g) (ints n, a, p, g, [], true) := by
  have key := Ev.scan (fun k (s : List Int) i => spec_PoolNew.l0 k (n : Int) i s a p g) n (fun i s => s = ints i) (fun _ _ => (ints n, a, p, g, [], true))
    (fun s hs => Ev.some_ fun k => by simp only [spec_PoolNew.l0]; rw [if_neg (by omega), hs])
    (fun i s hi hs => .inr ⟨s ++ [(i : Int)], by rw [hs, ints_succ], rfl, EvE.of fun k => by
      have : s.length = i := by rw [hs]; simp [ints]
      simp only [spec_PoolNew.l0]; rw [if_pos (by omega), if_pos (by omega), w64s hi (by omega)]⟩) 0 [] (Nat.zero_le _) rfl
  exact key
theorem pool_impl (n : Nat) (hn : n ≤ 100) (a : Int) (p : List Int) (g : List S70) : Ev (fun k => impl_PoolNew.l0 k (n : Int) 0 [] a p g) (ints n, a, p, g, [], true) := by
  have key := Ev.scan (fun k (s : List Int) i => impl_PoolNew.l0 k (n : Int) i s a p g) n (fun i s => s = ints i) (fun _ _ => (ints n, a, p, g, [], true))
    (fun s hs => Ev.some_ fun k => by simp only [impl_PoolNew.l0]; rw [if_neg (by omega), hs])
    (fun i s hi hs => .inr ⟨s ++ [(i : Int)], by rw [hs, ints_succ], rfl, EvE.of fun k => by
      have : s.length = i := by rw [hs]; simp [ints]
      simp only [impl_PoolNew.l0]; rw [if_pos (by omega), if_pos (by omega), w64s hi (by omega)]⟩) 0 [] (Nat.zero_le _) rfl
  exact key
def agesNew (h : Int) : Int × List Int × List S70 × Bool := if 1 ≤ h ∧ h ≤ 8 then (0, List.replicate h.toNat (-1), [], true) else (0, [], [], false)
theorem spec_AgesNew_ev (h : Int) : Ev (fun k => spec_AgesNew.f k h) (agesNew h) := by
  unfold agesNew
  by_cases c1 : h < 1
  · rw [if_neg (by omega)]
    refine Ev.ofE (g := fun k => spec_AgesNew.j0 k h true) (EvE.of fun k => by simp only [spec_AgesNew.f]; rw [if_pos c1]) (Ev.up (g := fun _ => some _) (EvE.of fun k => by simp only [spec_AgesNew.j0, if_true]) (Ev.now _))
  · by_cases c2 : h > 8
    · rw [if_neg (by omega)]
      refine Ev.ofE (g := fun k => spec_AgesNew.j0 k h true) (EvE.of fun k => by simp only [spec_AgesNew.f]; rw [if_neg c1, decide_eq_true c2]) (Ev.up (g := fun _ => some _) (EvE.of fun k => by simp only [spec_AgesNew.j0, if_true]) (Ev.now _))
    · rw [if_pos (by omega)]
      have := ages_spec h.toNat (by omega)
      rw [Int.toNat_of_nonneg (by omega)] at this
      refine Ev.ofE (g := fun k => spec_AgesNew.j0 k h false) (EvE.of fun k => by simp only [spec_AgesNew.f]; rw [if_neg c1, decide_eq_false c2]) (Ev.up (EvE.of fun k => by simp only [spec_AgesNew.j0, Bool.false_eq_true, if_false]) this)
theorem impl_AgesNew_ev (h : Int) : Ev (fun k => impl_AgesNew.f k h) (agesNew h) := by
  unfold agesNew
  by_cases c1 : 1 ≤ h
  · by_cases c2 : h ≤ 8
    · rw [if_pos ⟨c1, c2⟩]
      have := ages_impl h.toNat (by omega)
      rw [Int.toNat_of_nonneg (by omega)] at this
      exact Ev.ofE (EvE.of fun k => by simp only [impl_AgesNew.f, impl_within.f]; rw [if_pos (by omega), Option.bind_some, if_pos (decide_eq_true c2)]) this
    · rw [if_neg (by omega)]
      exact Ev.some_ fun k => by simp only [impl_AgesNew.f, impl_within.f]; rw [if_pos (by omega), Option.bind_some, if_neg (by simp [c2])]
  · rw [if_neg (by omega)]
    exact Ev.some_ fun k => by simp only [impl_AgesNew.f, impl_within.f]; rw [if_neg (by omega), Option.bind_some, if_neg (by simp)]
def poolNew (n h : Int) : PoolT := if (1 ≤ n ∧ n ≤ 100) ∧ (1 ≤ h ∧ h ≤ 8) then (ints n.toNat, 0, List.replicate h.toNat (-1), [], [], true) else noPool
theorem spec_PoolNew_ev (n h : Int) : Ev (fun k => spec_PoolNew.f k n h) (poolNew n h) := by
  have ha := spec_AgesNew_ev h
  unfold agesNew at ha
  unfold poolNew
  by_cases ch : 1 ≤ h ∧ h ≤ 8
  · rw [if_pos ch] at ha
    by_cases c1 : n < 1
    · rw [if_neg (by omega)]
      refine Ev.ofE (g := fun k => spec_PoolNew.j0 k n true 0 (List.replicate h.toNat (-1)) []) ((evP ha).eve fun k e => by simp only [spec_PoolNew.f, e, Option.bind_some, if_true]; rw [if_pos c1]) (Ev.up (g := fun _ => some _) (EvE.of fun k => by simp only [spec_PoolNew.j0, if_true]; rfl) (Ev.now _))
    · by_cases c2 : n > 100
      · rw [if_neg (by omega)]
        refine Ev.ofE (g := fun k => spec_PoolNew.j0 k n true 0 (List.replicate h.toNat (-1)) []) ((evP ha).eve fun k e => by simp only [spec_PoolNew.f, e, Option.bind_some, if_true]; rw [if_neg c1, decide_eq_true c2]) (Ev.up (g := fun _ => some _) (EvE.of fun k => by simp only [spec_PoolNew.j0, if_true]; rfl) (Ev.now _))
      · rw [if_pos (by omega)]
        have := pool_spec n.toNat (by omega) 0 (List.replicate h.toNat (-1)) []
        rw [Int.toNat_of_nonneg (by omega)] at this
        refine Ev.ofE (g := fun k => spec_PoolNew.j0 k n false 0 (List.replicate h.toNat (-1)) []) ((evP ha).eve fun k e => by simp only [spec_PoolNew.f, e, Option.bind_some, if_true]; rw [if_neg c1, decide_eq_false c2]) (Ev.up (EvE.of fun k => by simp only [spec_PoolNew.j0, Bool.false_eq_true, if_false]) this)
  · rw [if_neg ch] at ha
    rw [if_neg (fun h => ch h.2)]
    refine Ev.ofE (g := fun k => spec_PoolNew.j0 k n true 0 [] []) ((evP ha).eve fun k e => by simp only [spec_PoolNew.f, e, Option.bind_some, Bool.false_eq_true, if_false]) (Ev.up (g := fun _ => some _) (EvE.of fun k => by simp only [spec_PoolNew.j0, if_true]; rfl) (Ev.now _))
theorem impl_PoolNew_ev (n h : Int) : Ev (fun k => impl_PoolNew.f k n h) (poolNew n h) := by
  have ha := impl_AgesNew_ev h
  unfold agesNew at ha
  unfold poolNew
  by_cases cn : 1 ≤ n ∧ n ≤ 100
  · by_cases ch : 1 ≤ h ∧ h ≤ 8
    · rw [if_pos ch] at ha
      rw [if_pos ⟨cn, ch⟩]
      have := pool_impl n.toNat (by omega) 0 (List.replicate h.toNat (-1)) []
      rw [Int.toNat_of_nonneg (by omega)] at this
      refine Ev.ofE (g := fun k => impl_PoolNew.j0 k n false 0 (List.replicate h.toNat (-1)) []) ((evP ha).eve fun k e => by simp only [impl_PoolNew.f, e, Option.bind_some, impl_within.f]; rw [if_pos (by omega), Option.bind_some, if_pos (decide_eq_true cn.2)] <;> rfl) (Ev.up (EvE.of fun k => by simp only [impl_PoolNew.j0, Bool.false_eq_true, if_false]) this)
    · rw [if_neg ch] at ha
      rw [if_neg (fun h => ch h.2)]
      refine Ev.ofE (g := fun k => impl_PoolNew.j0 k n true 0 [] []) ((evP ha).eve fun k e => by simp only [impl_PoolNew.f, e, Option.bind_some, impl_within.f]; rw [if_pos (by omega), Option.bind_some, if_pos (decide_eq_true cn.2)] <;> rfl) (Ev.up (g := fun _ => some _) (EvE.of fun k => by simp only [impl_PoolNew.j0, if_true]; rfl) (Ev.now _))
  · rw [if_neg (fun h => cn h.1)]
    refine Ev.ofE (g := fun k => impl_PoolNew.j0 k n true (agesNew h).1 (agesNew h).2.1 (agesNew h).2.2.1) ((evP (impl_AgesNew_ev h)).eve fun k e => ?_) (Ev.up (g := fun _ => some _) (EvE.of fun k => by simp only [impl_PoolNew.j0, if_true]; rfl) (Ev.now _))
    simp only [impl_PoolNew.f, e, Option.bind_some, impl_within.f]
    by_cases c1 : n ≥ 1
    · rw [if_pos c1, Option.bind_some, if_neg (by simp; omega)]
    · rw [if_neg c1, Option.bind_some, if_neg (by simp)]
theorem FnExactPoolNew : DFnExactPoolNew.Pure := by
  intro n h hn hh
  have hw : ∃ f a p g v b, poolNew n h = (f, a, p, g, v, b) ∧ f.length ≤ 100 ∧ p.length ≤ 8 ∧ g.length ≤ 8 ∧ v.length ≤ 8 := by
    unfold poolNew
    split
    · exact ⟨_, _, _, _, _, _, rfl, by simp [ints]; omega, by simp; omega, by simp, by simp⟩
    · exact ⟨_, _, _, _, _, _, rfl, by simp, by simp, by simp, by simp⟩
  obtain ⟨f, a, p, g, v, b, e, h1, h2, h3, h4⟩ := hw
  have s1 := spec_PoolNew_ev n h
  have s2 := impl_PoolNew_ev n h
  rw [e] at s1 s2
  have q := laws_eqPool_ev f a p g v (by omega) (by omega) (by omega) (by omega)
  obtain ⟨F, P, G, V, hF, hP, hG, hV, m, d⟩ := laws_markPool_ev f a p g v 1 (by omega) (by omega)
  have tpos : ¬ (1 + (f.length : Int) + (p.length : Int) + 2 * (g.length : Int) + (v.length : Int) < 0) := by omega
  generalize 1 + (f.length : Int) + (p.length : Int) + 2 * (g.length : Int) + (v.length : Int) = t at m d tpos
  have st1 : Ev (fun k => laws_FnExactPoolNew.j1 k t false F a P G V) true := by
    refine Ev.up (g := fun _ => some true) ((evP (d a)).eve fun k e1 => ?_) (Ev.now _)
    simp only [laws_FnExactPoolNew.j1, Bool.false_eq_true, if_false, e1, Option.bind_some, if_true]
    rw [if_neg tpos]
  have st0 : Ev (fun k => laws_FnExactPoolNew.j0 k n h b false f a p g v f a p g v) true := by
    refine Ev.up (g := fun k => laws_FnExactPoolNew.j1 k t false F a P G V) ((evA m (evA (d a) (evA s2 (evP q)))).eve fun k ⟨e1, e2, e3, e4⟩ => ?_) st1
    simp only [laws_FnExactPoolNew.j0, Bool.false_eq_true, if_false, e1, e2, e3, e4, Option.bind_some, if_true, bne_self_eq_false]
    rw [if_neg tpos]
  obtain ⟨k, e1, e2, e3, e4⟩ := (evA s1 (evA s2 (evA q (evP st0)))).ex
  exact ⟨k, by simp only [laws_FnExactPoolNew.f, e1, e2, e3, Option.bind_some, if_true, bne_self_eq_false, e4]⟩
end Go.Proofs.Ytdgpidhlbpaolaa.Pure
