/- The program's BestGo and the reference's tell the same, for all askings, keys and places. No condition. -/
import Derived.Test.YtmebfingnfhmlaaDFnExactBestGo
import Derived.Test.YtmebfingnfhmlaaLm
namespace Go.Proofs.Ytmebfingnfhmlaa.Pure
open Go.RowKit Go.Proofs.Ytmebfingnfhmlaa.PFnExactBestGo Go.Proofs.YtmebfingnfhmlaaW.PrintWords Go.Proofs.YtmebfingnfhmlaaW.PrintLast Go.Proofs.YtmebfingnfhmlaaW.PrintMore Go.Proofs.Ytmebfingnfhmlaa.Lm
set_option linter.unusedSimpArgs false
set_option linter.unusedVariables false
theorem laws_szStringS_ev (l : List ByteArray) (n : Int) (hn0 : 0 ≤ n) (hn : n ≤ 1048576) (h : l.length ≤ maxLen) (hs : ∀ s ∈ l, s.size ≤ maxLen) :
    ∃ t, Ev (fun k => laws_szStringS.f k l n) t ∧ t ≤ n ∧ (¬ t < 0 → t = n - (l.length : Int) - (tot l : Int)) := by
  unfold maxLen at h hs
  by_cases c : n - (l.length : Int) < 0
  · refine ⟨-1, Ev.some_ fun k => ?_, by omega, by omega⟩
    simp only [laws_szStringS.f]; rw [w64 (by omega) (by omega), if_pos c]
  · have key := Ev.scan (fun k m i => laws_szStringS.l0 k l m i) l.length (fun _ m => 0 ≤ m ∧ m ≤ n) (fun i m => if m < (tot (l.drop i) : Int) then -1 else m - (tot (l.drop i) : Int))
      (fun m hm => Ev.some_ fun k => by
        simp only [laws_szStringS.l0]; rw [if_neg (by omega), List.drop_eq_nil_of_le (Nat.le_refl _)]
        simp [tot]
        try omega)
      (fun i m hi hm => by
        have hd := drop_rdOf ByteArray.empty l i hi
        have hsz := hs _ (rdOf_mem ByteArray.empty l i hi)
        have hw : wrap64 (m - ((rdOf ByteArray.empty l (i : Int)).size : Int)) = m - ((rdOf ByteArray.empty l (i : Int)).size : Int) := w64 (by omega) (by omega)
        have hl : ∀ k, laws_szStringS.l0 (k + 1) l m (i : Int) = if m - ((rdOf ByteArray.empty l (i : Int)).size : Int) < 0 then some (-1) else laws_szStringS.l0 k l (m - ((rdOf ByteArray.empty l (i : Int)).size : Int)) ((i + 1 : Nat) : Int) := fun k => by
          simp only [laws_szStringS.l0]; rw [if_pos (by omega), if_pos (by omega), w64s hi h, hw]
        rw [hd, tot_cons]
        by_cases c2 : m - ((rdOf ByteArray.empty l (i : Int)).size : Int) < 0
        · exact .inl (Ev.some_ fun k => by simp only [hl]; rw [if_pos c2, if_pos (by omega)])
        · refine .inr ⟨m - ((rdOf ByteArray.empty l (i : Int)).size : Int), by omega, ?_, EvE.of fun k => by simp only [hl]; rw [if_neg c2]⟩
          split <;> split <;> omega) 0 (n - (l.length : Int)) (Nat.zero_le _) (by omega)
    refine ⟨_, Ev.congr (fun k => ?_) key, ?_, ?_⟩
    · simp only [laws_szStringS.f]; rw [w64 (by omega) (by omega), if_neg c]; rfl
    · simp only [List.drop_zero]; split <;> omega
    · simp only [List.drop_zero]; split <;> omega
theorem laws_toStringS_ev (l : List ByteArray) (h : l.length ≤ 1048576) : Ev (fun k => laws_toStringS.f k l) l := by
  have hl := copy_loop ByteArray.empty (fun k s i => laws_toStringS.l0 k l s i) l (fun s hs => Ev.some_ fun k => by simp only [laws_toStringS.l0]; rw [if_neg (by omega)]) (fun i s hi hs => EvE.of fun k => by
    simp only [laws_toStringS.l0]; rw [if_pos (by omega), if_pos (by omega), if_pos (by omega), w64s hi (by omega), Int.toNat_natCast] <;> rfl) (List.replicate l.length (⟨#[]⟩:ByteArray)) (by simp)
  refine Ev.congr (fun k => ?_) hl
  simp only [laws_toStringS.f, Int.toNat_natCast]
  rw [if_pos (by omega), if_pos (by omega)]
theorem laws_eqStringS_ev (l : List ByteArray) (h : l.length ≤ 9223372036854775807) : Ev (fun k => laws_eqStringS.f k l l) true := by
  refine Ev.congr (fun k => ?_) (all_loop (fun k i => laws_eqStringS.l0 k l l i) l.length (Ev.some_ fun k => by simp only [laws_eqStringS.l0]; rw [if_neg (by omega)]) (fun i hi => EvE.of fun k => by
    simp only [laws_eqStringS.l0]; rw [if_pos (by omega), if_pos (by omega), if_pos (by omega), if_pos trivial, w64s hi h]))
  simp only [laws_eqStringS.f]; rw [if_pos trivial]
theorem spec_NextAsk_l0_ev (l : List ByteArray) (key : ByteArray) (hl : l.length ≤ 1048576) (i : Nat) (hi : i ≤ l.length) : Ev (fun k => spec_NextAsk.l0 k l key (i : Int)) (((i + (l.drop i).findIdx (fun y => decide (y = key)) : Nat)) : Int) := by
  refine Ev.scan (fun k (_ : Unit) i => spec_NextAsk.l0 k l key i) l.length (fun _ _ => True) (fun i _ => ((i + (l.drop i).findIdx (fun y => decide (y = key)) : Nat) : Int)) ?_ ?_ i () hi trivial
  · intro _ _
    exact Ev.some_ fun k => by simp only [spec_NextAsk.l0]; rw [if_neg (by omega), List.drop_eq_nil_of_le (Nat.le_refl _)]; try simp
  · intro i _ hi _
    have hd := drop_rdOf ByteArray.empty l i hi
    have hs : ∀ k, spec_NextAsk.l0 (k + 1) l key (i : Int) = if rdOf ByteArray.empty l (i : Int) = key then some (i : Int) else spec_NextAsk.l0 k l key ((i + 1 : Nat) : Int) := fun k => by
      simp only [spec_NextAsk.l0, toList_inj]; rw [if_pos (by omega), if_pos (by omega), w64s hi (by omega)]
    by_cases c : rdOf ByteArray.empty l (i : Int) = key
    · exact .inl (Ev.some_ fun k => by simp only [hs]; rw [if_pos c, hd, List.findIdx_cons, decide_eq_true c]; simp)
    · exact .inr ⟨(), trivial, by rw [hd, List.findIdx_cons, decide_eq_false c]; simp only [cond_false]; omega, EvE.of fun k => by simp only [hs]; rw [if_neg c]⟩
theorem spec_NextAsk_l0_ev' (l : List ByteArray) (key : ByteArray) (hl : l.length ≤ 1048576) (x : Int) (h0 : 0 ≤ x) : Ev (fun k => spec_NextAsk.l0 k l key x) (nextAsk l key x : Int) := by
  obtain ⟨i, rfl⟩ := Int.eq_ofNat_of_zero_le h0
  by_cases hi : i ≤ l.length
  · refine Ev.ofE (EvE.of fun _ => rfl) (?_ : Ev _ _)
    have := spec_NextAsk_l0_ev l key hl i hi
    unfold nextAsk
    rw [show min (max 0 (i : Int)).toNat l.length = i by omega]
    exact this
  · refine Ev.up (g := fun _ => some (l.length : Int)) (EvE.of fun k => by simp only [spec_NextAsk.l0]; rw [if_neg (by omega)]) ?_
    unfold nextAsk
    rw [show min (max 0 (i : Int)).toNat l.length = l.length by omega, List.drop_eq_nil_of_le (Nat.le_refl _)]
    exact Ev.now _
theorem impl_NextAsk_l0_ev (l : List ByteArray) (key : ByteArray) (hl : l.length ≤ 1048576) (i : Nat) (hi : i ≤ l.length) : Ev (fun k => impl_NextAsk.l0 k l key (i : Int)) (((i + (l.drop i).findIdx (fun y => decide (y = key)) : Nat)) : Int) := by
  refine Ev.scan (fun k (_ : Unit) i => impl_NextAsk.l0 k l key i) l.length (fun _ _ => True) (fun i _ => ((i + (l.drop i).findIdx (fun y => decide (y = key)) : Nat) : Int)) ?_ ?_ i () hi trivial
  · intro _ _
    exact Ev.some_ fun k => by simp only [impl_NextAsk.l0]; rw [if_neg (by omega), List.drop_eq_nil_of_le (Nat.le_refl _)]; try simp
  · intro i _ hi _
    have hd := drop_rdOf ByteArray.empty l i hi
    have hs : ∀ k, impl_NextAsk.l0 (k + 1) l key (i : Int) = if rdOf ByteArray.empty l (i : Int) = key then some (i : Int) else impl_NextAsk.l0 k l key ((i + 1 : Nat) : Int) := fun k => by
      simp only [impl_NextAsk.l0, toList_inj]; rw [if_pos (by omega), if_pos (by omega), w64s hi (by omega)]
    by_cases c : rdOf ByteArray.empty l (i : Int) = key
    · exact .inl (Ev.some_ fun k => by simp only [hs]; rw [if_pos c, hd, List.findIdx_cons, decide_eq_true c]; simp)
    · exact .inr ⟨(), trivial, by rw [hd, List.findIdx_cons, decide_eq_false c]; simp only [cond_false]; omega, EvE.of fun k => by simp only [hs]; rw [if_neg c]⟩
theorem impl_NextAsk_l0_ev' (l : List ByteArray) (key : ByteArray) (hl : l.length ≤ 1048576) (x : Int) (h0 : 0 ≤ x) : Ev (fun k => impl_NextAsk.l0 k l key x) (nextAsk l key x : Int) := by
  obtain ⟨i, rfl⟩ := Int.eq_ofNat_of_zero_le h0
  by_cases hi : i ≤ l.length
  · refine Ev.ofE (EvE.of fun _ => rfl) (?_ : Ev _ _)
    have := impl_NextAsk_l0_ev l key hl i hi
    unfold nextAsk
    rw [show min (max 0 (i : Int)).toNat l.length = i by omega]
    exact this
  · refine Ev.up (g := fun _ => some (l.length : Int)) (EvE.of fun k => by simp only [impl_NextAsk.l0]; rw [if_neg (by omega)]) ?_
    unfold nextAsk
    rw [show min (max 0 (i : Int)).toNat l.length = l.length by omega, List.drop_eq_nil_of_le (Nat.le_refl _)]
    exact Ev.now _
theorem spec_NextAsk_ev (l : List ByteArray) (key : ByteArray) (x : Int) (hl : l.length ≤ 1048576) : Ev (fun k => spec_NextAsk.f k l key x) (nextAsk l key x : Int) := by
  by_cases c : x < 0
  · have h := spec_NextAsk_l0_ev' l key hl 0 (by omega)
    have e : nextAsk l key 0 = nextAsk l key x := by unfold nextAsk; rw [show (max 0 x) = max 0 0 by omega]
    rw [e] at h
    refine Ev.ofE (g := fun k => spec_NextAsk.j0 k l key 0) (EvE.of fun k => by simp only [spec_NextAsk.f]; rw [if_pos c]) ?_
    exact Ev.up (EvE.of fun k => by simp only [spec_NextAsk.j0]) h
  · have h := spec_NextAsk_l0_ev' l key hl x (by omega)
    refine Ev.ofE (g := fun k => spec_NextAsk.j0 k l key x) (EvE.of fun k => by simp only [spec_NextAsk.f]; rw [if_neg c]) ?_
    exact Ev.up (EvE.of fun k => by simp only [spec_NextAsk.j0]) h
theorem impl_NextAsk_ev (l : List ByteArray) (key : ByteArray) (x : Int) (hl : l.length ≤ 1048576) : Ev (fun k => impl_NextAsk.f k l key x) (nextAsk l key x : Int) := by
  have h := impl_NextAsk_l0_ev' l key hl (mx 0 x) (by unfold mx; split <;> omega)
  have e : nextAsk l key (mx 0 x) = nextAsk l key x := by unfold nextAsk mx; split <;> congr 3 <;> omega
  rw [e] at h
  exact h
theorem spec_BestGo_ev (l has : List ByteArray) (x : Int) (hl : l.length ≤ 1048576) (hh : has.length ≤ 1048576) : Ev (fun k => spec_BestGo.f k l has x) (bgo l x has 0 (-1) (-1)) := by
  have key := Ev.scan (fun k (s : Int × Int) i => spec_BestGo.l0 k l x s.1 s.2 has (has.length : Int) i) has.length (fun _ _ => True) (fun i s => bgo l x (has.drop i) i s.1 s.2)
    (fun s _ => Ev.some_ fun k => by simp only [spec_BestGo.l0]; rw [if_neg (by omega), List.drop_eq_nil_of_le (Nat.le_refl _)]; rfl)
    (fun i s hi _ => by
      have hd := drop_rdOf ByteArray.empty has i hi
      have hn := spec_NextAsk_ev l (rdOf ByteArray.empty has (i : Int)) x hl
      rw [hd, bgo]
      by_cases c : (nextAsk l (rdOf ByteArray.empty has (i : Int)) x : Int) > s.2
      · exact .inr ⟨((i : Int), (nextAsk l (rdOf ByteArray.empty has (i : Int)) x : Int)), trivial, by rw [if_pos c], (evP hn).eve fun k e => by
          simp only [spec_BestGo.l0, e, Option.bind_some]; rw [if_pos (by omega), if_pos (by omega), if_pos (by omega), if_pos c, w64s hi (by omega)]⟩
      · exact .inr ⟨s, trivial, by rw [if_neg c], (evP hn).eve fun k e => by
          simp only [spec_BestGo.l0, e, Option.bind_some]; rw [if_pos (by omega), if_pos (by omega), if_pos (by omega), if_neg c, w64s hi (by omega)]⟩) 0 (-1, -1) (Nat.zero_le _) trivial
  simpa [spec_BestGo.f] using key
theorem impl_BestGo_ev (l has : List ByteArray) (x : Int) (hl : l.length ≤ 1048576) (hh : has.length ≤ 1048576) : Ev (fun k => impl_BestGo.f k l has x) (bgo l x has 0 (-1) (-1)) := by
  have key := Ev.scan (fun k (s : Int × Int) i => impl_BestGo.l0 k l x s.1 s.2 has (has.length : Int) i) has.length (fun _ _ => True) (fun i s => bgo l x (has.drop i) i s.1 s.2)
    (fun s _ => Ev.some_ fun k => by simp only [impl_BestGo.l0]; rw [if_neg (by omega), List.drop_eq_nil_of_le (Nat.le_refl _)]; rfl)
    (fun i s hi _ => by
      have hd := drop_rdOf ByteArray.empty has i hi
      have hn := impl_NextAsk_ev l (rdOf ByteArray.empty has (i : Int)) x hl
      rw [hd, bgo]
      by_cases c : (nextAsk l (rdOf ByteArray.empty has (i : Int)) x : Int) > s.2
      · exact .inr ⟨((i : Int), (nextAsk l (rdOf ByteArray.empty has (i : Int)) x : Int)), trivial, by rw [if_pos c], (evP hn).eve fun k e => by
          simp only [impl_BestGo.l0, e, Option.bind_some]; rw [if_pos (by omega), if_pos (by omega), if_pos (by omega), if_pos c, w64s hi (by omega)]⟩
      · exact .inr ⟨s, trivial, by rw [if_neg c], (evP hn).eve fun k e => by
          simp only [impl_BestGo.l0, e, Option.bind_some]; rw [if_pos (by omega), if_pos (by omega), if_pos (by omega), if_neg c, w64s hi (by omega)]⟩) 0 (-1, -1) (Nat.zero_le _) trivial
  simpa [impl_BestGo.f] using key
theorem FnExactBestGo : DFnExactBestGo.Pure := by
  intro l m x ⟨hl, hs⟩ ⟨hm, hsm⟩ hx
  obtain ⟨t, ht, ht0, ht1⟩ := laws_szStringS_ev l 1048576 (by omega) (by omega) hl hs
  by_cases c1 : t < 0
  · obtain ⟨k, e⟩ := (evP ht).ex
    exact ⟨k, by simp only [laws_FnExactBestGo.f, e, Option.bind_some]; rw [if_pos c1]⟩
  · have hn := ht1 c1
    obtain ⟨t2, ht2, ht20, ht21⟩ := laws_szStringS_ev m t (by omega) (by omega) hm hsm
    by_cases c2 : t2 < 0
    · obtain ⟨k, e, e2⟩ := (evA ht (evP ht2)).ex
      exact ⟨k, by simp only [laws_FnExactBestGo.f, e, e2, Option.bind_some]; rw [if_neg c1, if_pos c2]⟩
    · have hn2 := ht21 c2
      obtain ⟨k, e0, e1, e2, e3, e4, e5, e6, e7⟩ := (evA ht (evA ht2 (evA (laws_toStringS_ev l (by omega)) (evA (laws_eqStringS_ev l (by omega)) (evA (laws_toStringS_ev m (by omega)) (evA (laws_eqStringS_ev m (by omega)) (evA (spec_BestGo_ev l m x (by omega) (by omega)) (evP (impl_BestGo_ev l m x (by omega) (by omega)))))))))).ex
      exact ⟨k, by simp only [laws_FnExactBestGo.f, e0, e1, e2, e3, e4, e5, e6, e7, Option.bind_some, if_true]; rw [if_neg c1, if_neg c2]⟩
end Go.Proofs.Ytmebfingnfhmlaa.Pure
