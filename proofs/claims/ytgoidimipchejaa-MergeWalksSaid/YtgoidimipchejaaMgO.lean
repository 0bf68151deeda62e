/- Layer 14: lists that come in as a row's argument: where they lie. -/
import Derived.Test.YtgoidimipchejaaTrV
import Derived.Test.YtgoidimipchejaaMgG
import Derived.Deep.Slices
import Derived.ChangeSame
import Derived.Lib.SmallJoins
import Derived.ProofKit
import Derived.ChangeOld
import Derived.OpenShut
namespace Go.Proofs.Ytgoidimipchejaa.Mg
open Go.ChangeShapes Go.WideShapes Go.ChangeAt Go.RowKit Go.Deep Go.Proofs.Ytgoidimipchejaa.PT Go.Proofs.Ytgoidimipchejaa.Tr Go.Proofs.YtgoidimipchejaaW.PrintWords Go.Proofs.YtgoidimipchejaaW.PrintLast Go.Proofs.YtgoidimipchejaaW.PrintMore
set_option linter.unusedVariables false
set_option linter.unusedSimpArgs false

section
variable {H : Type} {enc : TypeId × Value → H} {w : World} {base : Nat} {held : Bool}
theorem one_of {cs : List Value} (h : cs.length = 1) : ∃ c, cs = [c] := by
  match cs, h with
  | [c], _ => exact ⟨c, rfl⟩
theorem lists_open {fuel : Nat} {v : Value} {y : DataW H × List MemPlace} (h : DataW.trod enc Try.prog w base (fun _ => true) held fuel 22 [v] = some y) :
    ∃ A c ls, v = .slice A (List.length ls) c ∧ ls.length ≤ c ∧ c ≤ maxLen ∧ Kd.C kL w A ls.length ls ∧ ∀ l ∈ ls, l.length ≤ maxLen := by
  rcases open_slice Try.underlying22 h with ⟨hcs, _⟩ | ⟨a, len, cap, m, n, D, Pl, hcs, _, hl, hm, hmm, _, hi⟩
  · simp at hcs
    subst hcs
    exact ⟨none, 0, [], rfl, Nat.le_refl _, by decide, Kd.C_nil _ _, by simp⟩
  · simp at hcs
    subst hcs
    have e1 : Try.prog.cellsOf 29 = 1 := by kernel_rfl
    have hi' : ∀ i, i < len → ∃ l cs, w.cells? base (a.add (i * 1)) 1 = some cs ∧ kL.K w l cs ∧ l.length ≤ maxLen := fun i hil => by
      obtain ⟨cs, h1, h2⟩ := hi i (by rw [hmm]; simp; omega)
      rw [e1] at h1
      obtain ⟨_, hcl, _⟩ := World.cells?_some h1
      obtain ⟨c0, rfl⟩ := one_of hcl
      obtain ⟨A, c, l, rfl, h3, h4, h5, _⟩ := items_open h2
      exact ⟨l, _, h1, ⟨A, c, rfl, h3, h5⟩, Nat.le_trans h3 h4⟩
    have hall : ∀ k, k ≤ len → ∃ ls : List (List S38), ls.length = k ∧ ∀ i l, ls[i]? = some l → (∃ cs, w.cells? base (a.add (i * 1)) 1 = some cs ∧ kL.K w l cs) ∧ l.length ≤ maxLen := by
      intro k
      induction k with
      | zero => exact fun _ => ⟨[], rfl, by simp⟩
      | succ k ih =>
        intro hk
        obtain ⟨l, h1, h2⟩ := ih (by omega)
        obtain ⟨x, cs, h3, h4, h5⟩ := hi' k (by omega)
        refine ⟨l ++ [x], by simp [h1], fun i z hz => ?_⟩
        by_cases hik : i < l.length
        · rw [List.getElem?_append_left hik] at hz
          exact h2 i z hz
        · rw [List.getElem?_append_right (by omega)] at hz
          have : i - l.length = 0 := by
            rcases hd : i - l.length with _ | j
            · rfl
            · rw [hd] at hz; simp at hz
          rw [this] at hz
          simp at hz
          subst hz
          have hik2 : i = k := by omega
          subst hik2
          exact ⟨⟨cs, h3, h4⟩, h5⟩
    obtain ⟨ls, hlen, hel⟩ := hall len (Nat.le_refl _)
    subst hlen
    refine ⟨some a, cap, ls, rfl, hl, hm, ⟨rfl, by unfold maxLen at hm; omega, fun _ => ⟨a, rfl, fun j p hp => ?_⟩⟩, fun x hx => ?_⟩
    · obtain ⟨⟨cs, h1, h2⟩, _⟩ := hel j p hp
      obtain ⟨_, hcl, hat⟩ := World.cells?_some h1
      refine ⟨cs, hcl, h2, fun i u hu => ?_⟩
      have hil : i < 1 := by
        have := (List.getElem?_eq_some_iff.1 hu).1
        omega
      have := hat i hil
      rw [hu, Go.Deep.add_add] at this
      exact this
    · obtain ⟨i, hil, rfl⟩ := List.getElem_of_mem hx
      exact (hel i _ (List.getElem?_eq_getElem hil)).2
end
end Go.Proofs.Ytgoidimipchejaa.Mg
