/- The program's Bins and the reference's tell the same, for all depths and ends. No condition. -/
import Derived.Test.YtmebfingnfhmlaaDFnExactBins
import Derived.Test.YtmebfingnfhmlaaLm
namespace Go.Proofs.Ytmebfingnfhmlaa.Pure
open Go.RowKit Go.Proofs.Ytmebfingnfhmlaa.PFnExactBins Go.Proofs.YtmebfingnfhmlaaW.PrintWords Go.Proofs.YtmebfingnfhmlaaW.PrintLast Go.Proofs.YtmebfingnfhmlaaW.PrintMore Go.Proofs.Ytmebfingnfhmlaa.Lm
set_option linter.unusedSimpArgs false
set_option linter.unusedVariables false
theorem laws_toIntS_ev (l : List Int) (h : l.length ≤ 1048576) : Ev (fun k => laws_toIntS.f k l) l := by
  have hl := copy_loop (0:Int) (fun k s i => laws_toIntS.l0 k l s i) l (fun s hs => Ev.some_ fun k => by simp only [laws_toIntS.l0]; rw [if_neg (by omega)]) (fun i s hi hs => EvE.of fun k => by
    simp only [laws_toIntS.l0]; rw [if_pos (by omega), if_pos (by omega), if_pos (by omega), w64s hi (by omega), Int.toNat_natCast] <;> rfl) (List.replicate l.length 0) (by simp)
  refine Ev.congr (fun k => ?_) hl
  simp only [laws_toIntS.f, Int.toNat_natCast]
  rw [if_pos (by omega), if_pos (by omega)]
theorem laws_eqIntS_ev (l : List Int) (h : l.length ≤ 9223372036854775807) : Ev (fun k => laws_eqIntS.f k l l) true := by
  refine Ev.congr (fun k => ?_) (all_loop (fun k i => laws_eqIntS.l0 k l l i) l.length (Ev.some_ fun k => by simp only [laws_eqIntS.l0]; rw [if_neg (by omega)]) (fun i hi => EvE.of fun k => by
    simp only [laws_eqIntS.l0]; rw [if_pos (by omega), if_pos (by omega), if_pos (by omega), if_pos trivial, w64s hi h]))
  simp only [laws_eqIntS.f]; rw [if_pos trivial]
theorem laws_markIntS_ev (l : List Int) (n : Int) (h0 : 0 ≤ n) (h : n + (l.length : Int) ≤ 4294967295) : ∃ M : List Int, M.length = l.length ∧ Ev (fun k => laws_markIntS.f k l n) (n + (l.length : Int), M) ∧ Ev (fun k => laws_heldIntS.f k M n) (n + (l.length : Int)) := by
  refine ⟨(List.range l.length).map fun i : Nat => n + (i : Int), by simp, ?_, ?_⟩
  · have key := Ev.scan (fun k (s : Int × List Int) i => laws_markIntS.l0 k s.2 s.1 i) l.length (fun i s => s.1 = n + (i : Int) ∧ s.2.length = l.length) (fun i s => (n + (l.length : Int), s.2.take i ++ ((List.range l.length).drop i).map fun i : Nat => n + (i : Int)))
      (fun s hs => Ev.some_ fun k => by
        simp only [laws_markIntS.l0]; rw [if_neg (by omega), List.drop_eq_nil_of_le (by simp), List.map_nil, List.append_nil, List.take_of_length_le (by omega), hs.1])
      (fun i s hi hs => .inr ⟨(s.1 + 1, s.2.set i s.1), ⟨by simp only; omega, by simpa using hs.2⟩, by
          rw [List.drop_eq_getElem_cons (i := i) (by simpa using hi), List.map_cons, List.getElem_range, hs.1]
          simp only [Prod.mk.injEq, true_and]
          rw [List.take_add_one, List.getElem?_set_self (by omega), List.take_set_of_le (Nat.le_refl i)]
          simp, EvE.of fun k => by
          simp only [laws_markIntS.l0]
          rw [if_pos (by omega), if_pos (by omega), w64s hi (by omega), w64 (by omega) (by omega), Int.toNat_natCast]⟩) 0 (n, l) (Nat.zero_le _) ⟨by simp, rfl⟩
    simpa [laws_markIntS.f] using key
  · have key := Ev.scan (fun k (s : Int) i => laws_heldIntS.l0 k ((List.range l.length).map fun i : Nat => n + (i : Int)) s i) l.length (fun i s => s = n + (i : Int)) (fun i s => n + (l.length : Int))
      (fun s hs => Ev.some_ fun k => by simp only [laws_heldIntS.l0, List.length_map, List.length_range]; rw [if_neg (by omega), hs])
      (fun i s hi hs => .inr ⟨s + 1, by omega, rfl, EvE.of fun k => by
          simp only [laws_heldIntS.l0, List.length_map, List.length_range]
          rw [if_pos (by omega), if_pos (by omega), if_pos (by rw [rd_nat]; simp [hi, hs]), w64s hi (by omega), w64 (by omega) (by omega)]⟩) 0 n (Nat.zero_le _) (by simp)
    simpa [laws_heldIntS.f] using key
theorem rd0_eq (e : List Int) (i : Nat) (h : 0 < i) : ((i : Int) - 1) = ((i - 1 : Nat) : Int) := by omega
theorem w64p {i n : Nat} (h : i < n) (hn : n ≤ 9223372036854775807) : wrap64 ((i : Int) - 1) = (i : Int) - 1 := w64 (by omega) (by omega)
def okAt (e : List Int) (i : Nat) : Prop := 1 ≤ rd e (i : Int) ∧ (0 < i → rd e ((i : Int) - 1) < rd e (i : Int))
instance (e : List Int) (i : Nat) : Decidable (okAt e i) := by unfold okAt; exact inferInstance
def slot (e : List Int) (d : Int) : Nat := if d ≥ 0 then 1 + e.countP (fun x => decide (d ≥ x)) else 0
def bump (e : List Int) (c : List Int) (d : Int) : List Int := c.set (slot e d) (wrap64 (rd c (slot e d : Int) + 1))
def binsAt (l e : List Int) : List Int := l.foldl (bump e) (List.replicate (e.length + 2) 0)
theorem slot_le (e : List Int) (d : Int) : slot e d ≤ e.length + 1 := by
  unfold slot; split
  · have := List.countP_le_length (p := fun x => decide (d ≥ x)) (l := e); omega
  · omega
theorem bump_length (e c : List Int) (d : Int) : (bump e c d).length = c.length := by simp [bump]
theorem fold_length (e : List Int) (l c : List Int) : (l.foldl (bump e) c).length = c.length := by
  induction l generalizing c with
  | nil => rfl
  | cons x l ih => simp only [List.foldl_cons]; rw [ih, bump_length]
theorem binsAt_length (l e : List Int) (h : e.length ≤ 1048576) : (binsAt l e).length ≤ 1048578 := by unfold binsAt; rw [fold_length]; simp; omega
theorem spec_count (l e : List Int) (hl : l.length ≤ 1048576) (he : e.length ≤ 1048576) (c : List Int) (d : Int) (x43 : Int) (q : List Int × Bool) (hc : c.length = e.length + 2) (hd : d ≥ 0)
    (h : Ev (fun k => spec_Bins.l1 k e (bump e c d) l (l.length : Int) (wrap64 (x43 + 1))) q) :
    Ev (fun k => spec_Bins.l2 k e c d 1 l (l.length : Int) x43 e (e.length : Int) 0) q := by
  have hs := slot_le e d
  have key := Ev.scan' (fun k (n : Nat) i => spec_Bins.l2 k e c d (n : Int) l (l.length : Int) x43 e (e.length : Int) i) e.length (fun i n => n ≤ i + 1 ∧ n + (e.drop i).countP (fun x => decide (d ≥ x)) = slot e d) (fun _ _ => q)
    (fun n hn => by
      rw [List.drop_eq_nil_of_le (Nat.le_refl _)] at hn
      have hn2 : n = slot e d := by simpa using hn.2
      refine Ev.up (EvE.of fun k => ?_) h
      simp only [spec_Bins.l2]
      rw [if_neg (by omega), if_pos (by omega), if_pos (by omega), hn2, Int.toNat_natCast]; rfl)
    (fun i n hi hn => by
      have hdr := drop_rd e i hi
      rw [hdr, List.countP_cons] at hn
      by_cases c1 : d ≥ rd e (i : Int)
      · rw [if_pos (decide_eq_true c1)] at hn
        refine .inr ⟨n + 1, ⟨by omega, by omega⟩, rfl, fun q' hq => Ev.up (EvE.of fun k => ?_) hq⟩
        simp only [spec_Bins.l2]
        rw [if_pos (by omega), if_pos (by omega), if_pos (by omega), if_pos c1, w64s hi (by omega), w64 (by omega) (by omega)]; rfl
      · rw [if_neg (by simpa using c1)] at hn
        refine .inr ⟨n, ⟨by omega, by omega⟩, rfl, fun q' hq => Ev.up (EvE.of fun k => ?_) hq⟩
        simp only [spec_Bins.l2]
        rw [if_pos (by omega), if_pos (by omega), if_pos (by omega), if_neg c1, w64s hi (by omega)]) 0 1 (Nat.zero_le _) ⟨by omega, by simp only [List.drop_zero, slot]; rw [if_pos hd]⟩
  exact key
theorem spec_l1_ev (l e : List Int) (hl : l.length ≤ 1048576) (he : e.length ≤ 1048576) : Ev (fun k => spec_Bins.l1 k e (List.replicate (e.length + 2) 0) l (l.length : Int) 0) (binsAt l e, true) := by
  have key := Ev.scan' (fun k c i => spec_Bins.l1 k e c l (l.length : Int) i) l.length (fun _ c => c.length = e.length + 2) (fun i c => ((l.drop i).foldl (bump e) c, true))
    (fun c hc => Ev.up (g := fun _ => some _) (EvE.of fun k => by simp only [spec_Bins.l1]; rw [if_neg (by omega)]) (by rw [List.drop_eq_nil_of_le (Nat.le_refl _)]; exact Ev.now _))
    (fun i c hi hc => by
      have hdr := drop_rd l i hi
      refine .inr ⟨bump e c (rd l (i : Int)), by rw [bump_length, hc], by rw [hdr]; rfl, fun q hq => ?_⟩
      by_cases c1 : rd l (i : Int) ≥ 0
      · have h2 := spec_count l e hl he c (rd l (i : Int)) (i : Int) q hc c1 (by rw [w64s hi (by omega)]; exact hq)
        refine Ev.up (EvE.of fun k => ?_) h2
        simp only [spec_Bins.l1]
        rw [if_pos (by omega), if_pos (by omega), if_pos (by omega), if_pos c1]
      · refine Ev.up (EvE.of fun k => ?_) hq
        simp only [spec_Bins.l1]
        rw [if_pos (by omega), if_pos (by omega), if_pos (by omega), if_neg c1, if_pos (by omega), w64s hi (by omega)]
        simp only [bump, slot]; rw [if_neg c1]; rfl) 0 (List.replicate (e.length + 2) 0) (Nat.zero_le _) (by simp)
  simpa [binsAt] using key
theorem spec_good (l e : List Int) (hl : l.length ≤ 1048576) (he : e.length ≤ 1048576) (g : ∀ i, i < e.length → okAt e i) : Ev (fun k => spec_Bins.f k l e) (binsAt l e, true) := by
  have key := Ev.scan' (fun k c i => spec_Bins.l0 k l e c e (e.length : Int) i) e.length (fun i c => c = List.replicate (i + 2) (0 : Int)) (fun _ _ => (binsAt l e, true))
    (fun c hc => Ev.up (EvE.of fun k => by simp only [spec_Bins.l0]; rw [if_neg (by omega), hc]) (spec_l1_ev l e hl he))
    (fun i c hi hc => by
      have gi := g i hi
      have hcl : c.length = i + 2 := by rw [hc]; simp
      refine .inr ⟨c ++ [0], by rw [hc, show i + 1 + 2 = (i + 2) + 1 by omega]; exact List.replicate_succ'.symm, rfl, fun q hq => Ev.up (EvE.of fun k => ?_) hq⟩
      simp only [spec_Bins.l0]
      rw [if_pos (by omega), if_pos (by omega), if_pos (by omega), if_neg (by have := gi.1; omega), w64s hi (by omega)]
      by_cases c1 : (i : Int) > 0
      · rw [if_pos c1, w64p hi (by omega), if_pos (by omega), if_pos (by omega), if_neg (by have := gi.2 (by omega); omega), if_pos (by omega)]
      · rw [if_neg c1, if_pos (by omega)]) 0 [0, 0] (Nat.zero_le _) rfl
  exact key
theorem spec_bad (l e : List Int) (he : e.length ≤ 1048576) (g : ¬ ∀ i, i < e.length → okAt e i) : Ev (fun k => spec_Bins.f k l e) ([], false) := by
  have key := Ev.scan' (fun k c i => spec_Bins.l0 k l e c e (e.length : Int) i) e.length (fun i c => c.length = i + 2 ∧ ∀ j, j < i → okAt e j) (fun _ _ => (([] : List Int), false))
    (fun c hc => absurd hc.2 g)
    (fun i c hi hc => by
      by_cases gi : okAt e i
      · refine .inr ⟨c ++ [0], ⟨by simp; omega, fun j hj => by rcases Nat.lt_succ_iff_lt_or_eq.1 hj with h | rfl; exact hc.2 j h; exact gi⟩, rfl, fun q hq => Ev.up (EvE.of fun k => ?_) hq⟩
        simp only [spec_Bins.l0]
        rw [if_pos (by omega), if_pos (by omega), if_pos (by omega), if_neg (by have := gi.1; omega), w64s hi (by omega)]
        by_cases c1 : (i : Int) > 0
        · rw [if_pos c1, w64p hi (by omega), if_pos (by omega), if_pos (by omega), if_neg (by have := gi.2 (by omega); omega), if_pos (by omega)]
        · rw [if_neg c1, if_pos (by omega)]
      · refine .inl (Ev.up (g := fun _ => some _) (EvE.of fun k => ?_) (Ev.now _))
        simp only [spec_Bins.l0]
        rw [if_pos (by omega), if_pos (by omega), if_pos (by omega)]
        by_cases c0 : rd e (i : Int) < 1
        · rw [if_pos c0]
        · have c1 : (i : Int) > 0 := by
            rcases Nat.eq_zero_or_pos i with h | h
            · exact absurd ⟨by omega, fun h2 => by omega⟩ gi
            · omega
          rw [if_neg c0, if_pos c1, w64p hi (by omega), if_pos (by omega), if_pos (by omega), if_pos]
          by_cases c2 : rd e ((i : Int) - 1) ≥ rd e (i : Int)
          · exact c2
          · exact absurd ⟨by omega, fun _ => by omega⟩ gi) 0 [0, 0] (Nat.zero_le _) ⟨rfl, fun j hj => by omega⟩
  exact key
theorem rises_ev (e : List Int) (he : e.length ≤ 1048576) : ∃ r, Ev (fun k => impl_rises.f k e) r ∧ (r = true ↔ ∀ i, 0 < i → i < e.length → rd e ((i : Int) - 1) < rd e (i : Int)) := by
  by_cases g : ∀ i, 0 < i → i < e.length → rd e ((i : Int) - 1) < rd e (i : Int)
  · refine ⟨true, ?_, by simp; exact g⟩
    by_cases h1 : 1 ≤ e.length
    · have key := Ev.scan' (fun k (_ : Unit) i => impl_rises.l0 k e i) e.length (fun i _ => 1 ≤ i) (fun _ _ => true)
        (fun _ _ => Ev.up (g := fun _ => some _) (EvE.of fun k => by simp only [impl_rises.l0]; rw [if_neg (by omega)]) (Ev.now _))
        (fun i _ hi hp => .inr ⟨(), by omega, rfl, fun q hq => Ev.up (EvE.of fun k => by
          simp only [impl_rises.l0]
          rw [if_pos (by omega), w64p hi (by omega), if_pos (by omega), if_pos (by omega), if_pos (by omega), if_neg (by have := g i (by omega) hi; omega), w64s hi (by omega)]) hq⟩) 1 () h1 (Nat.le_refl _)
      exact key
    · exact Ev.up (g := fun _ => some _) (EvE.of fun k => by simp only [impl_rises.f, impl_rises.l0]; rw [if_neg (by omega)]) (Ev.now _)
  · refine ⟨false, ?_, by simp; simpa using g⟩
    have h1 : 1 ≤ e.length := by
      rcases Nat.eq_zero_or_pos e.length with h | h
      · exact absurd (fun i _ hi => by omega) g
      · exact h
    have key := Ev.scan' (fun k (_ : Unit) i => impl_rises.l0 k e i) e.length (fun i _ => 1 ≤ i ∧ ∀ j, 0 < j → j < i → rd e ((j : Int) - 1) < rd e (j : Int)) (fun _ _ => false)
      (fun _ h => absurd h.2 g)
      (fun i _ hi hp => by
        by_cases c : rd e ((i : Int) - 1) ≥ rd e (i : Int)
        · refine .inl (Ev.up (g := fun _ => some _) (EvE.of fun k => ?_) (Ev.now _))
          simp only [impl_rises.l0]
          rw [if_pos (by omega), w64p hi (by omega), if_pos (by omega), if_pos (by omega), if_pos (by omega), if_pos c]
        · refine .inr ⟨(), ⟨by omega, fun j h0 hj => by rcases Nat.lt_succ_iff_lt_or_eq.1 hj with h | rfl; exact hp.2 j h0 h; omega⟩, rfl, fun q hq => Ev.up (EvE.of fun k => ?_) hq⟩
          simp only [impl_rises.l0]
          rw [if_pos (by omega), w64p hi (by omega), if_pos (by omega), if_pos (by omega), if_pos (by omega), if_neg c, w64s hi (by omega)]) 1 () h1 ⟨Nat.le_refl _, fun j h0 hj => by omega⟩
    exact key
theorem sorted_count (e : List Int) (d : Int) (g : ∀ i, 0 < i → i < e.length → rd e ((i : Int) - 1) < rd e (i : Int)) : ∀ i, i ≤ e.length → (i < e.length → d < rd e (i : Int)) → (∀ j, j < i → d ≥ rd e (j : Int)) → e.countP (fun x => decide (d ≥ x)) = i := by
  intro i hi h1 h2
  have hgt : ∀ j, i ≤ j → j < e.length → d < rd e (j : Int) := by
    intro j
    induction j with
    | zero => intro hij hj; obtain rfl : i = 0 := (by omega); exact h1 hj
    | succ j ih =>
      intro hij hj
      rcases Nat.lt_or_ge i (j + 1) with h | h
      · have a := ih (by omega) (by omega)
        have b := g (j + 1) (by omega) hj
        have e1 : ((j + 1 : Nat) : Int) - 1 = (j : Int) := by omega
        rw [e1] at b; omega
      · obtain rfl : i = j + 1 := by omega
        exact h1 hj
  have es : e.countP (fun x => decide (d ≥ x)) = (e.take i).countP (fun x => decide (d ≥ x)) + (e.drop i).countP (fun x => decide (d ≥ x)) := by rw [← List.countP_append, List.take_append_drop]
  have ht : (e.take i).countP (fun x => decide (d ≥ x)) = i := by
    have : (e.take i).countP (fun x => decide (d ≥ x)) = (e.take i).length := by
      rw [List.countP_eq_length]
      intro x hx
      obtain ⟨j, hj⟩ := List.getElem?_of_mem hx
      have hji : j < i := by have := (List.getElem?_eq_some_iff.1 hj).1; rw [List.length_take] at this; omega
      rw [List.getElem?_take_of_lt hji] at hj
      have := h2 j hji
      rw [rd_nat, List.getD_eq_getElem?_getD, hj] at this
      exact decide_eq_true this
    rw [this, List.length_take]; omega
  have hdp : (e.drop i).countP (fun x => decide (d ≥ x)) = 0 := by
    rw [List.countP_eq_zero]
    intro x hx
    obtain ⟨j, hj⟩ := List.getElem?_of_mem hx
    rw [List.getElem?_drop] at hj
    have hlt := (List.getElem?_eq_some_iff.1 hj).1
    have := hgt (i + j) (by omega) hlt
    rw [rd_nat, List.getD_eq_getElem?_getD, hj] at this
    simp only [Option.getD_some] at this
    simp; omega
  omega
theorem impl_count (l e : List Int) (hl : l.length ≤ 1048576) (he : e.length ≤ 1048576) (g : ∀ i, 0 < i → i < e.length → rd e ((i : Int) - 1) < rd e (i : Int)) (c : List Int) (d : Int) (x30 : Int) (q : List Int × Bool) (hc : c.length = e.length + 2) (hd : d ≥ 0)
    (h : Ev (fun k => impl_Bins.l0 k e (bump e c d) l (l.length : Int) (wrap64 (x30 + 1))) q) :
    Ev (fun k => impl_Bins.l1 k e c d 1 l (l.length : Int) x30) q := by
  have hfin : ∀ i : Nat, i ≤ e.length → (i < e.length → d < rd e (i : Int)) → (∀ j, j < i → d ≥ rd e (j : Int)) → slot e d = i + 1 := by
    intro i hi h1 h2
    unfold slot; rw [if_pos hd, sorted_count e d g i hi h1 h2]; omega
  have key := Ev.scan' (fun k (_ : Unit) i => impl_Bins.l1 k e c d (i + 1) l (l.length : Int) x30) e.length (fun i _ => ∀ j, j < i → d ≥ rd e (j : Int)) (fun _ _ => q)
    (fun _ hI => by
      have hs := hfin e.length (Nat.le_refl _) (fun h => absurd h (Nat.lt_irrefl _)) hI
      refine Ev.up (EvE.of fun k => ?_) h
      simp only [impl_Bins.l1]
      have e1 : ((e.length : Int) + 1) = ((slot e d : Nat) : Int) := by rw [hs]; omega
      rw [if_neg (by omega), if_pos (by omega), if_pos (by omega), e1, Int.toNat_natCast]; rfl)
    (fun i _ hi hI => by
      have e0 : wrap64 ((i : Int) + 1 - 1) = (i : Int) := by rw [w64 (by omega) (by omega)]; omega
      by_cases c1 : d ≥ rd e (i : Int)
      · refine .inr ⟨(), fun j hj => by rcases Nat.lt_succ_iff_lt_or_eq.1 hj with h | rfl; exact hI j h; exact c1, rfl, fun q' hq => Ev.up (EvE.of fun k => ?_) hq⟩
        simp only [impl_Bins.l1, e0]
        rw [if_pos (by omega), if_pos (by omega), if_pos (by omega), if_pos c1, w64 (by omega) (by omega)]; rfl
      · have hs := hfin i (by omega) (fun _ => by omega) hI
        refine .inl (Ev.up (EvE.of fun k => ?_) h)
        simp only [impl_Bins.l1, e0]
        have e1 : ((i : Int) + 1) = ((slot e d : Nat) : Int) := by rw [hs]; omega
        rw [if_pos (by omega), if_pos (by omega), if_pos (by omega), if_neg c1, if_pos (by omega), if_pos (by omega), e1, Int.toNat_natCast]; rfl) 0 () (Nat.zero_le _) (fun j hj => by omega)
  exact key
theorem impl_l0_ev (l e : List Int) (hl : l.length ≤ 1048576) (he : e.length ≤ 1048576) (g : ∀ i, 0 < i → i < e.length → rd e ((i : Int) - 1) < rd e (i : Int)) : Ev (fun k => impl_Bins.l0 k e (List.replicate (e.length + 2) 0) l (l.length : Int) 0) (binsAt l e, true) := by
  have key := Ev.scan' (fun k c i => impl_Bins.l0 k e c l (l.length : Int) i) l.length (fun _ c => c.length = e.length + 2) (fun i c => ((l.drop i).foldl (bump e) c, true))
    (fun c hc => Ev.up (g := fun _ => some _) (EvE.of fun k => by simp only [impl_Bins.l0]; rw [if_neg (by omega)]) (by rw [List.drop_eq_nil_of_le (Nat.le_refl _)]; exact Ev.now _))
    (fun i c hi hc => by
      have hdr := drop_rd l i hi
      refine .inr ⟨bump e c (rd l (i : Int)), by rw [bump_length, hc], by rw [hdr]; rfl, fun q hq => ?_⟩
      by_cases c1 : rd l (i : Int) ≥ 0
      · have h2 := impl_count l e hl he g c (rd l (i : Int)) (i : Int) q hc c1 (by rw [w64s hi (by omega)]; exact hq)
        refine Ev.up (EvE.of fun k => ?_) h2
        simp only [impl_Bins.l0]
        rw [if_pos (by omega), if_pos (by omega), if_pos (by omega), if_pos c1]
      · refine Ev.up (EvE.of fun k => ?_) hq
        simp only [impl_Bins.l0]
        rw [if_pos (by omega), if_pos (by omega), if_pos (by omega), if_neg c1, if_pos (by omega), w64s hi (by omega)]
        simp only [bump, slot]; rw [if_neg c1]; rfl) 0 (List.replicate (e.length + 2) 0) (Nat.zero_le _) (by simp)
  simpa [binsAt] using key
theorem impl_good (l e : List Int) (hl : l.length ≤ 1048576) (he : e.length ≤ 1048576) (g : ∀ i, i < e.length → okAt e i) : Ev (fun k => impl_Bins.f k l e) (binsAt l e, true) := by
  have g2 : ∀ i, 0 < i → i < e.length → rd e ((i : Int) - 1) < rd e (i : Int) := fun i h0 hi => (g i hi).2 h0
  obtain ⟨r, hr, hri⟩ := rises_ev e he
  obtain rfl : r = true := hri.2 g2
  have hj : Ev (fun k => impl_Bins.j0 k l e false) (binsAt l e, true) := by
    refine Ev.up (EvE.of fun k => ?_) (impl_l0_ev l e hl he g2)
    simp only [impl_Bins.j0, Bool.false_eq_true, if_false]
    rw [w64 (by omega) (by omega), if_pos (by omega), if_pos (by omega), show ((e.length : Int) + 2).toNat = e.length + 2 by omega]
  refine (evA hr (evP hj)).ev fun k ⟨e1, e2⟩ => ?_
  simp only [impl_Bins.f, e1, Option.bind_some, if_true]
  by_cases c : (e.length : Int) > 0
  · have h0 : 1 ≤ rd e 0 := (g 0 (by omega)).1
    rw [if_pos c, if_pos (by omega), decide_eq_false (by omega)]; exact e2
  · rw [if_neg c]; exact e2
theorem impl_bad (l e : List Int) (he : e.length ≤ 1048576) (g : ¬ ∀ i, i < e.length → okAt e i) : Ev (fun k => impl_Bins.f k l e) ([], false) := by
  obtain ⟨r, hr, hri⟩ := rises_ev e he
  have hj : Ev (fun k => impl_Bins.j0 k l e true) (([] : List Int), false) := Ev.up (g := fun _ => some _) (EvE.of fun k => by simp only [impl_Bins.j0, if_true]) (Ev.now _)
  refine (evA hr (evP hj)).ev fun k ⟨e1, e2⟩ => ?_
  simp only [impl_Bins.f, e1, Option.bind_some]
  cases r with
  | false => simp only [Bool.false_eq_true, if_false]; exact e2
  | true =>
    have g2 := hri.1 rfl
    have hex : (e.length : Int) > 0 ∧ rd e 0 < 1 := by
      refine Classical.byContradiction fun hn => g fun i hi => ?_
      have h0 : 1 ≤ rd e 0 := by omega
      have hall : ∀ j, j < e.length → 1 ≤ rd e (j : Int) := by
        intro j
        induction j with
        | zero => intro _; exact h0
        | succ j ih =>
          intro hj
          have a := ih (by omega)
          have b := g2 (j + 1) (by omega) hj
          have e1 : ((j + 1 : Nat) : Int) - 1 = (j : Int) := by omega
          rw [e1] at b; omega
      exact ⟨hall i hi, fun h => g2 i h hi⟩
    rw [if_pos rfl, if_pos hex.1, if_pos hex.1, decide_eq_true hex.2]; exact e2
theorem FnExactBins : DFnExactBins.Pure := by
  intro l e ⟨hl, hw⟩ ⟨he, hwe⟩
  by_cases c : (l.length : Int) > 1048576
  · exact ⟨0, by simp only [laws_FnExactBins.f]; rw [if_pos c]⟩
  · by_cases c2 : (e.length : Int) > 1048576
    · exact ⟨0, by simp only [laws_FnExactBins.f]; rw [if_neg c, if_pos c2]⟩
    · have hb : ∃ (w : List Int) (r : Bool), w.length ≤ 1048578 ∧ Ev (fun k => spec_Bins.f k l e) (w, r) ∧ Ev (fun k => impl_Bins.f k l e) (w, r) := by
        by_cases g : ∀ i, i < e.length → okAt e i
        · exact ⟨_, _, binsAt_length l e (by omega), spec_good l e (by omega) (by omega) g, impl_good l e (by omega) (by omega) g⟩
        · exact ⟨[], false, by simp, spec_bad l e (by omega) g, impl_bad l e (by omega) g⟩
      obtain ⟨w, r, hwl, h1, h2⟩ := hb
      obtain ⟨M1, m1, hM1, hH1⟩ := laws_markIntS_ev l 1 (by omega) (by omega)
      obtain ⟨M2, m2, hM2, hH2⟩ := laws_markIntS_ev e (1 + (l.length : Int)) (by omega) (by omega)
      obtain ⟨M, m3, hM, hH⟩ := laws_markIntS_ev w 1 (by omega) (by omega)
      have nn : ((1 : Int) + (l.length : Int) + (e.length : Int) < 0) = False := eq_false (by omega)
      have st2 : Ev (fun k => laws_FnExactBins.j2 k M (1 + (w.length : Int)) false) true := by
        refine Ev.up (g := fun _ => some true) ((evP hH).eve fun k e => ?_) (Ev.now _)
        simp only [laws_FnExactBins.j2, e, Option.bind_some, Bool.false_eq_true, if_false, if_true, neg1]
      have st1 : Ev (fun k => laws_FnExactBins.j1 k l e w r w false) true := by
        refine Ev.up (g := fun _ => some true) ((evA st2 (evA hM (evA hH (evA h2 (evA (laws_toIntS_ev l (by omega)) (evA (laws_toIntS_ev e (by omega)) (evP (laws_eqIntS_ev w (by omega))))))))).eve fun k ⟨e0, e1, e2, e3, e4, e5, e6⟩ => ?_) (Ev.now _)
        simp only [laws_FnExactBins.j1, e0, e1, e2, e3, e4, e5, e6, Option.bind_some, Bool.false_eq_true, if_false, if_true, neg1, bne_self_eq_false]
      have st0 : Ev (fun k => laws_FnExactBins.j0 k l e w r l e w r false) true := by
        refine Ev.up (g := fun _ => some true) ((evA st1 (evA hM1 (evA hM2 (evA (laws_toIntS_ev l (by omega)) (evA (laws_toIntS_ev e (by omega)) (evA (laws_eqIntS_ev w (by omega)) (evA (laws_eqIntS_ev l (by omega)) (evP (laws_eqIntS_ev e (by omega)))))))))).eve fun k ⟨e0, e1, e2, e3, e4, e5, e6, e7⟩ => ?_) (Ev.now _)
        simp only [laws_FnExactBins.j0, e0, e1, e2, e3, e4, e5, e6, e7, Option.bind_some, Bool.false_eq_true, if_false, if_true, nn, bne_self_eq_false]
      obtain ⟨k, e0, e1, e2, e3, e4, e5⟩ := (evA st0 (evA h1 (evA h2 (evA (laws_toIntS_ev l (by omega)) (evA (laws_toIntS_ev e (by omega)) (evP (laws_eqIntS_ev w (by omega)))))))).ex
      exact ⟨k, by simp only [laws_FnExactBins.f, e0, e1, e2, e3, e4, e5, Option.bind_some, if_true, bne_self_eq_false]; rw [if_neg c, if_neg c2]⟩
end Go.Proofs.Ytmebfingnfhmlaa.Pure
