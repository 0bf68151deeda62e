/- Plain values: which items are in order; no program here. -/
import Derived.Test.YtgoidimipchejaaTrQ
namespace Go.Proofs.Ytgoidimipchejaa.Tr
open Go.RowKit Go.Proofs.Ytgoidimipchejaa.PT Go.Proofs.YtgoidimipchejaaW.PrintWords
set_option linter.unusedVariables false
set_option linter.unusedSimpArgs false

/-- In order, behind an item (or none). -/
def sortedFrom : Option S38 → List S38 → Bool
  | _, [] => true
  | p, x :: l => mayB x && ((match p with | none => true | some q => decide (kOf q < kOf x)) && sortedFrom (some x) l)
def sortedB (l : List S38) : Bool := sortedFrom none l
theorem check_code (x : S38) : ∃ r : Int, chkF x = some r ∧ (r = 0 ↔ mayB x = true) := by
  obtain ⟨r, hr, _⟩ := may_check 1 x (by omega)
  have hr' : chkF x = some r := hr
  exact ⟨r, hr', by unfold mayB; rw [hr']; simp⟩
theorem sorted_ord : ∀ (l : List S38) (p : Option S38), sortedFrom p l = true → Ord l ∧ (∀ x ∈ l, mayB x = true) ∧ ∀ q, p = some q → ∀ x ∈ l, kOf q < kOf x
  | [], p, _ => ⟨by simp [Ord], by simp, by simp⟩
  | x :: l, p, h => by
    simp only [sortedFrom, Bool.and_eq_true] at h
    obtain ⟨h1, h2, h3⟩ := h
    obtain ⟨i1, i2, i3⟩ := sorted_ord l (some x) h3
    refine ⟨List.pairwise_cons.2 ⟨i3 x rfl, i1⟩, fun y hy => (List.mem_cons.1 hy).elim (fun e => by rw [e]; exact h1) (i2 y), fun q hq y hy => ?_⟩
    subst hq
    have hqx : kOf q < kOf x := by simpa using h2
    exact (List.mem_cons.1 hy).elim (fun e => by rw [e]; exact hqx) (fun hy => k_trans hqx (i3 x rfl y hy))
end Go.Proofs.Ytgoidimipchejaa.Tr
