/- The program's MissesAt and the reference's tell the same, for all depths and caps. No condition. -/
import Derived.Test.YtellflhmnbgikaaDFnExactMissesAt
import Derived.Test.YtellflhmnbgikaaLm
namespace Go.Proofs.Ytellflhmnbgikaa.Pure
open Go.RowKit Go.Proofs.Ytellflhmnbgikaa.PFnExactMissesAt Go.Proofs.YtellflhmnbgikaaW.PrintWords Go.Proofs.YtellflhmnbgikaaW.PrintLast Go.Proofs.YtellflhmnbgikaaW.PrintMore Go.Proofs.Ytellflhmnbgikaa.Lm
set_option linter.unusedSimpArgs false
set_option linter.unusedVariables false
theorem laws_toIntS_ev (l : List Int) (h : l.length ≤ 1048576) : Ev (fun k => laws_toIntS.f k l) l := by
  have hl := copy_loop (0:Int) (fun k s i => laws_toIntS.l0 k l s i) l (fun s hs => Ev.some_ fun k => by simp only [laws_toIntS.l0]; rw [if_neg (by omega)]) (fun i s hi hs => EvE.of fun k => by
    simp only [laws_toIntS.l0]; rw [if_pos (by omega), if_pos (by omega), if_pos (by omega), w64s hi (by omega), Int.toNat_natCast] <;> rfl) (List.replicate l.length 0) (by simp)
  refine Ev.congr (fun k => ?_) hl
  simp only [laws_toIntS.f, Int.toNat_natCast]
  rw [if_pos (by omega), if_pos (by omega)]
theorem laws_eqIntS_ev (l : List Int) (h : l.length ≤ 9223372036854775807) : Ev (fun k => laws_eqIntS.f k l l) true := by
  refine Ev.congr (fun k => ?_) (all_loop (fun k i => laws_eqIntS.l0 k l l i) l.length (Ev.some_ fun k => by simp only [laws_eqIntS.l0]; rw [if_neg (by omega)]) (fun i hi => EvE.of fun k => by
    simp only [laws_eqIntS.l0]; rw [if_pos (by omega), if_pos (by omega), if_pos (by omega), if_pos trivial, w64s hi h]))
  simp only [laws_eqIntS.f]; rw [if_pos trivial]
def missesAt (l : List Int) (cap : Int) : Nat := l.countP fun d => decide (d < 0) || decide (d ≥ cap)
theorem spec_MissesAt_ev (l : List Int) (cap : Int) (h : l.length ≤ 1048576) : Ev (fun k => spec_MissesAt.f k l cap) (missesAt l cap : Int) := by
  have key := Ev.scan (fun k n i => spec_MissesAt.l0 k cap n l (l.length : Int) i) l.length (fun i n => 0 ≤ n ∧ n ≤ (i : Int)) (fun i n => n + (missesAt (l.drop i) cap : Int))
    (fun n hn => Ev.some_ fun k => by simp only [spec_MissesAt.l0]; rw [if_neg (by omega), List.drop_eq_nil_of_le (Nat.le_refl _)]; simp [missesAt])
    (fun i n hi hn => by
      have hd := drop_rd l i hi
      have hw : wrap64 (n + 1) = n + 1 := w64 (by omega) (by omega)
      have hl : ∀ k, spec_MissesAt.l0 (k + 1) cap n l (l.length : Int) (i : Int) = if rd l (i : Int) < 0 then spec_MissesAt.l0 k cap (n + 1) l (l.length : Int) ((i + 1 : Nat) : Int) else if rd l (i : Int) ≥ cap then spec_MissesAt.l0 k cap (n + 1) l (l.length : Int) ((i + 1 : Nat) : Int) else spec_MissesAt.l0 k cap n l (l.length : Int) ((i + 1 : Nat) : Int) := fun k => by
        simp only [spec_MissesAt.l0]; rw [if_pos (by omega), if_pos (by omega), if_pos (by omega), w64s hi (by omega), hw]
      rw [hd]
      by_cases c1 : rd l (i : Int) < 0
      · exact .inr ⟨n + 1, by omega, by simp [missesAt, c1]; try omega, EvE.of fun k => by simp only [hl]; rw [if_pos c1]⟩
      · by_cases c2 : rd l (i : Int) ≥ cap
        · exact .inr ⟨n + 1, by omega, by simp [missesAt, c2]; try omega, EvE.of fun k => by simp only [hl]; rw [if_neg c1, if_pos c2]⟩
        · exact .inr ⟨n, by omega, by simp [missesAt, c1, c2], EvE.of fun k => by simp only [hl]; rw [if_neg c1, if_neg c2]⟩) 0 0 (Nat.zero_le _) (by omega)
  simpa [spec_MissesAt.f] using key
theorem impl_MissesAt_ev (l : List Int) (cap : Int) (h : l.length ≤ 1048576) : Ev (fun k => impl_MissesAt.f k l cap) (missesAt l cap : Int) := by
  have key := Ev.scan (fun k n i => impl_MissesAt.l0 k cap n l (l.length : Int) i) l.length (fun i n => 0 ≤ n ∧ n ≤ (i : Int)) (fun i n => n + (missesAt (l.drop i) cap : Int))
    (fun n hn => Ev.some_ fun k => by simp only [impl_MissesAt.l0]; rw [if_neg (by omega), List.drop_eq_nil_of_le (Nat.le_refl _)]; simp [missesAt])
    (fun i n hi hn => by
      have hd := drop_rd l i hi
      have hw : wrap64 (n + 1) = n + 1 := w64 (by omega) (by omega)
      have hl : ∀ k, impl_MissesAt.l0 (k + 1) cap n l (l.length : Int) (i : Int) = if rd l (i : Int) < 0 then impl_MissesAt.l0 k cap (n + 1) l (l.length : Int) ((i + 1 : Nat) : Int) else if rd l (i : Int) ≥ cap then impl_MissesAt.l0 k cap (n + 1) l (l.length : Int) ((i + 1 : Nat) : Int) else impl_MissesAt.l0 k cap n l (l.length : Int) ((i + 1 : Nat) : Int) := fun k => by
        simp only [impl_MissesAt.l0]; rw [if_pos (by omega), if_pos (by omega), if_pos (by omega), w64s hi (by omega), hw]
      rw [hd]
      by_cases c1 : rd l (i : Int) < 0
      · exact .inr ⟨n + 1, by omega, by simp [missesAt, c1]; try omega, EvE.of fun k => by simp only [hl]; rw [if_pos c1]⟩
      · by_cases c2 : rd l (i : Int) ≥ cap
        · exact .inr ⟨n + 1, by omega, by simp [missesAt, c2]; try omega, EvE.of fun k => by simp only [hl]; rw [if_neg c1, if_pos c2]⟩
        · exact .inr ⟨n, by omega, by simp [missesAt, c1, c2], EvE.of fun k => by simp only [hl]; rw [if_neg c1, if_neg c2]⟩) 0 0 (Nat.zero_le _) (by omega)
  simpa [impl_MissesAt.f] using key
theorem FnExactMissesAt : DFnExactMissesAt.Pure := by
  intro l cap ⟨hl, hw⟩ hc
  by_cases c : (l.length : Int) > 1048576
  · exact ⟨0, by simp only [laws_FnExactMissesAt.f]; rw [if_pos c]⟩
  · obtain ⟨k, e1, e2, e3, e4⟩ := (evA (laws_toIntS_ev l (by omega)) (evA (laws_eqIntS_ev l (by omega)) (evA (spec_MissesAt_ev l cap (by omega)) (evP (impl_MissesAt_ev l cap (by omega)))))).ex
    exact ⟨k, by simp only [laws_FnExactMissesAt.f, e1, e2, e3, e4, Option.bind_some, if_true]; rw [if_neg c]⟩
end Go.Proofs.Ytellflhmnbgikaa.Pure
