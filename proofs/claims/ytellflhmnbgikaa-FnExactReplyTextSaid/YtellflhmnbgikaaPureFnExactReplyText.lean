/- The program's ReplyText and the reference's tell the same, for all replies. No condition. -/
import Derived.Test.YtellflhmnbgikaaDFnExactReplyText
import Derived.Test.YtellflhmnbgikaaLm
namespace Go.Proofs.Ytellflhmnbgikaa.Pure
open Go.RowKit Go.Proofs.Ytellflhmnbgikaa.QFnExactReplyText Go.Proofs.YtellflhmnbgikaaW.PrintWords Go.Proofs.YtellflhmnbgikaaW.PrintLast Go.Proofs.YtellflhmnbgikaaW.PrintMore Go.Proofs.Ytellflhmnbgikaa.Lm
set_option linter.unusedSimpArgs false
set_option linter.unusedVariables false
theorem impl_glued_ev (l : List ByteArray) (h : l.length ≤ 1048576) (ht : tot l ≤ 1099511627776) : Ev (fun k => impl_glued.f k l) (glue l) := by
  have key := Ev.scan (fun k a i => impl_glued.l0 k a l (l.length : Int) i) l.length (fun i a => a.size + tot (l.drop i) + (l.length - i) ≤ 9223372036854775807) (fun i a => if i = 0 then a ++ glue (l.drop i) else a ++ gluing (l.drop i))
    (fun a ha => Ev.some_ fun k => by simp only [impl_glued.l0]; rw [if_neg (by omega), List.drop_eq_nil_of_le (Nat.le_refl _)]; simp only [glue, gluing, ba_nil, ite_self])
    (fun i a hi ha => by
      have hd := drop_rdOf ByteArray.empty l i hi
      rw [hd, tot_cons] at ha
      by_cases c : i = 0
      · subst c
        refine .inr ⟨a ++ rdOf ByteArray.empty l ((0 : Nat) : Int), by rw [ByteArray.size_append]; omega, ?_, EvE.of fun k => ?_⟩
        · rw [hd, if_pos rfl, if_neg (by omega), glue, ByteArray.append_assoc]
        · simp only [impl_glued.l0]; rw [if_pos (by omega), if_pos (by omega), if_pos (by omega), if_neg (by omega), if_pos (by omega), w64s hi (by omega)]
      · refine .inr ⟨(a ++ (⟨#[32]⟩ : ByteArray)) ++ rdOf ByteArray.empty l (i : Int), ?_, ?_, EvE.of fun k => ?_⟩
        · rw [ByteArray.size_append, ByteArray.size_append]; have : (⟨#[32]⟩ : ByteArray).size = 1 := rfl; omega
        · rw [hd, if_neg (by omega), if_neg c, gluing, ByteArray.append_assoc, ByteArray.append_assoc, ByteArray.append_assoc]
        · have : (⟨#[32]⟩ : ByteArray).size = 1 := rfl
          simp only [impl_glued.l0]; rw [if_pos (by omega), if_pos (by omega), if_pos (by omega), if_pos (by omega), if_pos (by omega), if_pos (by rw [ByteArray.size_append]; omega), w64s hi (by omega)]) 0 (⟨#[]⟩ : ByteArray) (Nat.zero_le _) (by simp only [List.drop_zero]; have : (⟨#[]⟩ : ByteArray).size = 0 := rfl; omega)
  simpa [impl_glued.f, nil_ba] using key
def orDash (s : ByteArray) : ByteArray := if s.toList = ([] : List UInt8) then (⟨#[45]⟩ : ByteArray) else s
theorem orDash_size (s : ByteArray) : (orDash s).size ≤ s.size + 1 := by
  unfold orDash; split
  · show 1 ≤ _; omega
  · omega
theorem spec_or (s : ByteArray) : spec_l16Or.f s = some (orDash s) := by unfold spec_l16Or.f orDash; split <;> rfl
theorem impl_or (s : ByteArray) : impl_orDash.f s = some (orDash s) := by unfold impl_orDash.f orDash; split <;> rfl
theorem FnExactReplyText : DFnExactReplyText.Pure := by
  intro a b c hb hc
  unfold maxLen at hb hc
  by_cases h1 : wrap64 (1048576 - (b.size : Int)) < 0
  · exact ⟨0, by simp only [laws_FnExactReplyText.f, laws_szReply.f]; rw [if_pos h1]; rfl⟩
  · by_cases h2 : wrap64 (wrap64 (1048576 - (b.size : Int)) - (c.size : Int)) < 0
    · exact ⟨0, by simp only [laws_FnExactReplyText.f, laws_szReply.f]; rw [if_neg h1, if_pos h2]; rfl⟩
    · have w1 : wrap64 (1048576 - (b.size : Int)) = 1048576 - (b.size : Int) := w64 (by omega) (by omega)
      have w2 : wrap64 (wrap64 (1048576 - (b.size : Int)) - (c.size : Int)) = 1048576 - (b.size : Int) - (c.size : Int) := by rw [w1] at h1 ⊢; exact w64 (by omega) (by omega)
      have h3 := h2
      rw [w2] at h2
      rw [w1] at h1
      have sb := orDash_size b
      have sc := orDash_size c
      have s4 : (⟨#[121, 101, 115, 32]⟩ : ByteArray).size = 4 := rfl
      have s3 : (⟨#[110, 111, 32]⟩ : ByteArray).size = 3 := rfl
      have s1 : (⟨#[32]⟩ : ByteArray).size = 1 := rfl
      have sy : (⟨#[121, 101, 115]⟩ : ByteArray).size = 3 := rfl
      have sn : (⟨#[110, 111]⟩ : ByteArray).size = 2 := rfl
      have e4 : (⟨#[121, 101, 115, 32]⟩ : ByteArray) = (⟨#[121, 101, 115]⟩ : ByteArray) ++ (⟨#[32]⟩ : ByteArray) := by decide +kernel
      have e3 : (⟨#[110, 111, 32]⟩ : ByteArray) = (⟨#[110, 111]⟩ : ByteArray) ++ (⟨#[32]⟩ : ByteArray) := by decide +kernel
      cases a with
      | true =>
        obtain ⟨k, e⟩ := (evP (impl_glued_ev [(⟨#[121, 101, 115]⟩ : ByteArray), orDash b, orDash c] (by simp) (by simp [tot]; omega))).ex
        refine ⟨k, ?_⟩
        simp only [laws_FnExactReplyText.f, laws_szReply.f, laws_toReply.f, spec_ReplyText.f, impl_ReplyText.f, spec_or, impl_or, e, Option.bind_some, if_true, glue, gluing]
        rw [if_neg (by rw [w1]; omega), if_neg h3, Option.bind_some, if_neg h3, if_pos (by omega), if_pos (by rw [ByteArray.size_append]; omega), if_pos (by rw [ByteArray.size_append, ByteArray.size_append]; omega)]
        simp only [Option.bind_some]
        rw [if_pos]
        rw [e4, ba_nil]
        simp only [ByteArray.append_assoc]
      | false =>
        obtain ⟨k, e⟩ := (evP (impl_glued_ev [(⟨#[110, 111]⟩ : ByteArray), orDash b, orDash c] (by simp) (by simp [tot]; omega))).ex
        refine ⟨k, ?_⟩
        simp only [laws_FnExactReplyText.f, laws_szReply.f, laws_toReply.f, spec_ReplyText.f, impl_ReplyText.f, spec_or, impl_or, e, Option.bind_some, Bool.false_eq_true, if_false, glue, gluing]
        rw [if_neg (by rw [w1]; omega), if_neg h3, Option.bind_some, if_neg h3, if_pos (by omega), if_pos (by rw [ByteArray.size_append]; omega), if_pos (by rw [ByteArray.size_append, ByteArray.size_append]; omega)]
        simp only [Option.bind_some]
        rw [if_pos]
        rw [e3, ba_nil]
        simp only [ByteArray.append_assoc]
end Go.Proofs.Ytellflhmnbgikaa.Pure
