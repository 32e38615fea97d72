/- The pure statement of comptoirlaw04.TextTells: each of the five answers is the reference's. -/
import Derived.Test.YtjhamgodpgkkjaaDoorHEqs
namespace Go.Proofs.YtjhamgodpgkkjaaDoor.Pure
open Go.RowKit Go.Proofs.YtjhamgodpgkkjaaDoor.MT Go.Proofs.YtjhamgodpgkkjaaDoorW.PrintWords Go.Proofs.YtjhamgodpgkkjaaDoorW.PrintLast

theorem TextTells : comptoirlaw04_TextTells.Pure := by
  intro a0 a1 a2 h0 _ _
  have hs : a0.size < 1099511627776 ∨ (a0.size : Int) > 1000 := by omega
  refine ⟨a0.size + 20, ?_⟩
  unfold comptoirlaw04_TextTells.f
  rw [awake_tell]
  by_cases h : (a0.size : Int) > 1000
  · rw [if_pos h]; rfl
  · have hs : a0.size < 1099511627776 := by omega
    rw [if_neg h, text_utf8_some a0 hs, text_runes_some a0 hs, ref_utf8_some a0 _ hs (by omega), ref_runes_some a0 _ hs (by omega), text_plain_some a0 a1 a2 hs, ref_plain_some a0 a1 a2 _ hs (by omega), ref_ans_some a0 a2 _ hs (by omega), ref_aln_some a0 a1 a2 _ hs (by omega)]
    have e1 : ∃ b, text_Ans.f a0 a2 = some b := by unfold text_Ans.f; rw [if_pos (by omega)]; exact ⟨_, rfl⟩
    have e2 : ∃ b, text_Aln.f a0 a1 a2 = some b := by unfold text_Aln.f; rw [if_pos (by omega)]; exact ⟨_, rfl⟩
    obtain ⟨x, hx⟩ := e1
    obtain ⟨y, hy⟩ := e2
    rw [hx, hy]
    simp only [Option.bind_some, if_true, beq_self_eq_true]

end Go.Proofs.YtjhamgodpgkkjaaDoor.Pure
