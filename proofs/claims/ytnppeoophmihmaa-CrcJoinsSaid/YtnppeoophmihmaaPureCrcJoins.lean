/- Layer 1, the theorem of joining: the sum of bytes with others behind them comes of the first ones' sum alone: of the printed functions, for every input within the bounds that the statement itself names. -/
import Derived.Test.YtnppeoophmihmaaCrcA
import Derived.Test.YtnppeoophmihmaaPCrcx2
namespace Go.Proofs.Ytnppeoophmihmaa.Pure
open Go.RowKit Go.Proofs.Ytnppeoophmihmaa.CrcP Go.Proofs.Ytnppeoophmihmaa.PCrc Go.Proofs.YtnppeoophmihmaaW.PrintWords Go.Proofs.YtnppeoophmihmaaW.PrintLast

theorem joins_long (k : Nat) (a b : List Int) (hk : 101 ≤ k) : garnerlaw01_CrcJoins.j0 k a b true = some true := by
  obtain ⟨k, rfl⟩ : ∃ m, k = m + 1 := ⟨k - 1, by omega⟩
  rw [garnerlaw01_CrcJoins.j0, if_pos rfl, awake_f k (by omega)]
  rfl
theorem CrcJoins : garnerlaw01_CrcJoins.Pure := by
  intro l0 l1 _ hr0 hw0 _ hr1 hw1
  obtain ⟨a, rfl, ha⟩ := B_of hw0
  obtain ⟨b, rfl, hb⟩ := B_of hw1
  rw [B_length] at hr0 hr1
  obtain ⟨K, hK⟩ : ∃ K, K = 10 * (a.length + b.length) + 100 := ⟨_, rfl⟩
  refine ⟨K + 1, ?_⟩
  unfold garnerlaw01_CrcJoins.f
  by_cases h : ((B a).length : Int) > 2000
  · rw [if_pos h, joins_long _ _ _ (by omega)]
  · rw [if_neg h]
    by_cases h1 : ((B b).length : Int) > 2000
    · rw [decide_eq_true h1, joins_long _ _ _ (by omega)]
    · rw [decide_eq_false h1, garnerlaw01_CrcJoins.j0, if_neg (by simp)]
      rw [B_length] at h h1
      simp only [Option.bind_some]
      have hab : ∀ x ∈ a ++ b, x < 256 := fun x hx => (List.mem_append.1 hx).elim (ha x) (hb x)
      rw [if_pos (by simp [B_length]; omega), if_pos (by simp [B_length]; omega), of_f K a ha (by omega) (by omega), Option.bind_some, more_f K _ b hb (by omega) (by omega), Option.bind_some,
        List.nil_append, ← B_append, of_f K (a ++ b) hab (by simp; omega) (by simp; omega), Option.bind_some, if_pos (by unfold sum; rw [BitVec.not_not, run_append]),
        show ([] : List Int) = B [] from rfl, of_f K [] (by simp) (by simp) (by simp; omega), Option.bind_some, if_pos (by decide), awake_f K (by omega)]
      rfl

end Go.Proofs.Ytnppeoophmihmaa.Pure
