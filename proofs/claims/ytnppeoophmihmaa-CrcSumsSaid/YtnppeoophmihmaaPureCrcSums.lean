/- Layer 1: the sum of any bytes, and of bytes behind others, is the reference's, and the known sum is told: of the printed functions, for every input within the bounds that the statement itself names. -/
import Derived.Test.YtnppeoophmihmaaCrcA
namespace Go.Proofs.Ytnppeoophmihmaa.Pure
open Go.RowKit Go.Proofs.Ytnppeoophmihmaa.CrcP Go.Proofs.Ytnppeoophmihmaa.PCrc Go.Proofs.YtnppeoophmihmaaW.PrintWords Go.Proofs.YtnppeoophmihmaaW.PrintLast

theorem CrcSums : garnerlaw01_CrcSums.Pure := by
  intro a0 l1 wa hm hr hw
  obtain ⟨s, rfl⟩ := V_of wa
  obtain ⟨b, rfl, hb⟩ := B_of hw
  rw [B_length] at hr
  have hl : b.length ≤ 4611686018427387904 := by omega
  refine ⟨10 * b.length + 100, ?_⟩
  unfold garnerlaw01_CrcSums.f
  have ha := awake_f (10 * b.length + 100) (by omega)
  by_cases h : ((B b).length : Int) > 2000
  · rw [if_pos h, ha]
    rfl
  · rw [if_neg h, of_f _ b hb hl (by omega), ref_of _ b hb hl (by omega)]
    simp only [Option.bind_some, if_true]
    rw [more_f _ s b hb hl (by omega), ref_more _ s b hb hl (by omega)]
    simp only [Option.bind_some, if_true, ha]

end Go.Proofs.Ytnppeoophmihmaa.Pure
