/- The program's Winner and the reference's tell the same, for all rows. No condition. -/
import Derived.Test.YtmebfingnfhmlaaDFnExactWinner
import Derived.Test.YtmebfingnfhmlaaLm
namespace Go.Proofs.Ytmebfingnfhmlaa.Pure
open Go.RowKit Go.Proofs.Ytmebfingnfhmlaa.QFnExactWinner Go.Proofs.YtmebfingnfhmlaaW.PrintWords Go.Proofs.YtmebfingnfhmlaaW.PrintLast Go.Proofs.YtmebfingnfhmlaaW.PrintMore Go.Proofs.Ytmebfingnfhmlaa.Lm
set_option linter.unusedSimpArgs false
set_option linter.unusedVariables false
theorem same : ∀ k a b c d e, spec_Winner.l0 k a b c d e = impl_Winner.l0 k a b c d e := by
  intro k
  induction k with
  | zero => intros; rfl
  | succ k ih => intro a b c d e; simp only [spec_Winner.l0, impl_Winner.l0, ih]
theorem winner_ev (l : List S74) (h : l.length ≤ 1048576) : ∃ r, Ev (fun k => impl_Winner.f k l) r := by
  obtain ⟨r, _, hr⟩ := Ev.scanX (fun k b i => impl_Winner.l0 k l b l (l.length : Int) i) l.length (fun _ b => b < (l.length : Int)) (fun _ => True)
    (fun b hb => ⟨b, trivial, Ev.some_ fun k => by simp only [impl_Winner.l0]; rw [if_neg (by omega)]⟩)
    (fun i b hi hb => by
      by_cases c : b < 0
      · exact .inr ⟨(i : Int), by omega, EvE.of fun k => by simp only [impl_Winner.l0]; rw [if_pos (by omega), if_pos (by omega), if_pos (by omega), if_pos c, w64s hi (by omega)]⟩
      · by_cases c2 : (rd_T74 l (i : Int)).f1 < (rd_T74 l b).f1
        · exact .inr ⟨(i : Int), by omega, EvE.of fun k => by simp only [impl_Winner.l0]; rw [if_pos (by omega), if_pos (by omega), if_pos (by omega), if_neg c, if_pos (by omega), if_pos (by omega), if_pos c2, w64s hi (by omega)]⟩
        · exact .inr ⟨b, hb, EvE.of fun k => by simp only [impl_Winner.l0]; rw [if_pos (by omega), if_pos (by omega), if_pos (by omega), if_neg c, if_pos (by omega), if_pos (by omega), if_neg c2, w64s hi (by omega)]⟩) 0 (-1) (Nat.zero_le _) (by omega)
  exact ⟨r, hr⟩
theorem eqRows_ev (l : List S74) (h : l.length ≤ 9223372036854775807) : Ev (fun k => laws_eqLabRowS.f k l l) true := by
  refine Ev.congr (fun k => ?_) (all_loop (fun k i => laws_eqLabRowS.l0 k l l i) l.length (Ev.some_ fun k => by simp only [laws_eqLabRowS.l0]; rw [if_neg (by omega)]) (fun i hi => EvE.of fun k => by
    simp only [laws_eqLabRowS.l0, laws_eqLabRow.f, laws_eqSetup.f, if_true, Option.bind_some]; rw [if_pos (by omega), if_pos (by omega), if_pos (by omega), w64s hi h]))
  simp only [laws_eqLabRowS.f]; rw [if_pos trivial]
theorem rows_ev (l : List S78) (h : l.length ≤ 1048576) : ∃ m : List S74, m.length = l.length ∧ Ev (fun k => laws_toLabRowS.f k l) m := by
  obtain ⟨r, hp, hr⟩ := Ev.scanX (fun k s i => laws_toLabRowS.l0 k l s i) l.length (fun _ s => s.length = l.length) (fun m => m.length = l.length)
    (fun s hs => ⟨s, hs, Ev.some_ fun k => by simp only [laws_toLabRowS.l0]; rw [if_neg (by omega)]⟩)
    (fun i s hi hs => .inr ⟨s.set i ⟨⟨(rd_T78 l (i : Int)).f0.f0, (rd_T78 l (i : Int)).f0.f1, (rd_T78 l (i : Int)).f0.f2⟩, (rd_T78 l (i : Int)).f1, (rd_T78 l (i : Int)).f2⟩, (by simpa using hs), EvE.of fun k => by simp only [laws_toLabRowS.l0, laws_toLabRow.f, laws_toSetup.f, Option.bind_some]; rw [if_pos (by omega), if_pos (by omega), if_pos (by omega), w64s hi (by omega), Int.toNat_natCast]⟩) 0 (List.replicate l.length z74) (Nat.zero_le _) (by simp)
  refine ⟨r, hp, Ev.congr (fun k => ?_) hr⟩
  simp only [laws_toLabRowS.f, Int.toNat_natCast]
  rw [if_pos (by omega), if_pos (by omega)]; rfl
theorem FnExactWinner : DFnExactWinner.Pure := by
  intro l ⟨hl, hs⟩
  unfold maxLen at hl
  have hw : wrap64 (1048576 - (l.length : Int)) = 1048576 - (l.length : Int) := w64 (by omega) (by omega)
  by_cases c1 : 1048576 - (l.length : Int) < 0
  · exact ⟨0, by simp only [laws_FnExactWinner.f, laws_szLabRowS.f, hw]; rw [if_pos c1]; rfl⟩
  · obtain ⟨m, hm, h1⟩ := rows_ev l (by omega)
    obtain ⟨r, h2⟩ := winner_ev m (by omega)
    obtain ⟨k, e1, e2, e3⟩ := (evA h1 (evA h2 (evP (eqRows_ev m (by omega))))).ex
    have e4 : spec_Winner.f k m = some r := by rw [← e2]; exact same k _ _ _ _ _
    exact ⟨k, by simp only [laws_FnExactWinner.f, laws_szLabRowS.f, hw, e1, e2, e3, e4, Option.bind_some, if_true]; rw [if_neg c1, Option.bind_some, if_neg c1]⟩
end Go.Proofs.Ytmebfingnfhmlaa.Pure
