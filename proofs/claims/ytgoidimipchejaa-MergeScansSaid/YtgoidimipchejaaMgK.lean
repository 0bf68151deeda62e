/- Layer 14: what the document's functions of lists tell, in plain words; no program here. -/
import Derived.Test.YtgoidimipchejaaMgB
import Derived.Test.YtgoidimipchejaaTrK
import Derived.Test.YtgoidimipchejaaPTx14
namespace Go.Proofs.Ytgoidimipchejaa.Mg
open Go.RowKit Go.Proofs.Ytgoidimipchejaa.PT Go.Proofs.Ytgoidimipchejaa.Tr Go.Proofs.YtgoidimipchejaaW.PrintWords
set_option linter.unusedVariables false
set_option linter.unusedSimpArgs false

theorem rdL_mid (pre rest : List (List S38)) (y : List S38) : rd_L9 (pre ++ y :: rest) (pre.length : Int) = y := by
  simp [rd_L9]
/-- Lists that a statement takes. -/
structure Lt (ls : List (List S38)) : Prop where
  len : ls.length ≤ 110
  each : ∀ l ∈ ls, l.length ≤ 30
  small : ∀ l ∈ ls, ∀ x ∈ l, x.f0.size ≤ 200 ∧ x.f2.f1.length ≤ 200
theorem light14_l0 : ∀ (n : Nat) (rest pre : List (List S38)) (k : Nat), 111 ≤ pre.length + n → pre.length ≤ 111 → 2 * n + 400 < k → (pre ++ rest).length ≤ 9223372036854775807 → (∀ l ∈ rest, l.length ≤ 9223372036854775807) →
    ∃ b, garnerlaw14_light.l0 k (pre ++ rest) (pre.length : Int) = some b ∧ (b = true → (pre ++ rest).length ≤ 110 ∧ ∀ l ∈ rest, l.length ≤ 30 ∧ ∀ x ∈ l, x.f0.size ≤ 200 ∧ x.f2.f1.length ≤ 200)
  | n, [], pre, k + 2, hn, hp, hk, hl, _ => ⟨decide (((pre ++ ([] : List (List S38))).length : Int) ≤ 110), by simp [garnerlaw14_light.l0, garnerlaw14_light.j1], fun h => ⟨by have := of_decide_eq_true h; omega, by simp⟩⟩
  | n, y :: rest, pre, k + 2, hn, hp, hk, hl, hx => by
    have h1 : (pre.length : Int) < ((pre ++ y :: rest).length : Int) := by simp; omega
    have h0 : (0 : Int) ≤ (pre.length : Int) := by omega
    have hw : wrap64 ((pre.length : Int) + 1) = ((pre.length + 1 : Nat) : Int) := wrap_succ _ (by omega)
    simp only [garnerlaw14_light.l0, garnerlaw14_light.j1]
    rw [if_pos h1]
    simp only [rdL_mid, h0, h1, hw, if_true]
    by_cases hm : (pre.length : Int) ≤ 110
    · rw [if_pos (decide_eq_true hm)]
      obtain ⟨n, rfl⟩ : ∃ m, n = m + 1 := ⟨n - 1, by omega⟩
      obtain ⟨b, hb1, hb2⟩ := light14_l0 n rest (pre ++ [y]) k (by simp; omega) (by simp; omega) (by omega) (by simpa using hl) (fun l hl => hx l (by simp [hl]))
      simp only [← append_one, len_one] at hb1 hb2
      obtain ⟨b2, hb3, hb4⟩ := light_f y k (by omega) (by have := hx y (by simp); omega)
      rw [hb3, Option.bind_some]
      cases b2 with
      | false => exact ⟨false, by simp, by simp⟩
      | true =>
        rw [if_pos rfl]
        obtain ⟨_, h4⟩ := hb4 rfl
        by_cases c1 : (y.length : Int) > 30
        · rw [if_pos c1]; exact ⟨false, rfl, by simp⟩
        · rw [if_neg c1]
          refine ⟨b, hb1, fun h => ?_⟩
          obtain ⟨h5, h6⟩ := hb2 h
          refine ⟨h5, fun l hl => ?_⟩
          rcases List.mem_cons.1 hl with rfl | hl
          · exact ⟨by omega, h4⟩
          · exact h6 l hl
    · rw [if_neg (by simpa using hm)]
      refine ⟨_, rfl, fun h => ?_⟩
      have := of_decide_eq_true h
      omega
theorem light14_f (ls : List (List S38)) (k : Nat) (hk : 1000 ≤ k) (hl : ls.length ≤ 9223372036854775807) (hx : ∀ l ∈ ls, l.length ≤ 9223372036854775807) : ∃ b, garnerlaw14_light.f k ls = some b ∧ (b = true → Lt ls) := by
  obtain ⟨b, h1, h2⟩ := light14_l0 111 ls [] k (by simp) (by simp) (by omega) (by simpa using hl) hx
  refine ⟨b, by simpa [garnerlaw14_light.f] using h1, fun h => ?_⟩
  obtain ⟨h3, h4⟩ := h2 h
  exact ⟨by simpa using h3, fun l hl => (h4 l hl).1, fun l hl => (h4 l hl).2⟩
theorem may14_l0 : ∀ (rest pre : List (List S38)) (k : Nat), rest.length + 4000 < k → (pre ++ rest).length ≤ 1000000 → (∀ l ∈ rest, l.length ≤ 30) → garnerref14_May.l0 k (pre ++ rest) (pre.length : Int) = some (rest.all sortedB && decide ((pre ++ rest).length ≤ 100))
  | [], pre, k + 1, _, _, _ => by
    simp only [garnerref14_May.l0]
    rw [if_neg (by simp)]
    simp
    omega
  | y :: rest, pre, k + 1, hk, hl, hx => by
    have hk' : rest.length + 4000 < k := by simp at hk; omega
    have ih := may14_l0 rest (pre ++ [y]) k hk' (by simpa using hl) (fun l hl => hx l (by simp [hl]))
    rw [← append_one, len_one] at ih
    have hy := hx y (by simp)
    have h1 : (pre.length : Int) < ((pre ++ y :: rest).length : Int) := by simp; omega
    simp only [garnerref14_May.l0]
    rw [if_pos h1, if_pos (by omega), rdL_mid, ref_sorted_f k y (by omega) (by omega), Option.bind_some, wrap_succ _ (by simp at hl; omega), ih]
    simp only [List.all_cons]
    cases sortedB y <;> simp
theorem may14_f (ls : List (List S38)) (k : Nat) (hk : 5000 < k) (h : Lt ls) : garnerref14_May.f k ls = some (ls.all sortedB && decide (ls.length ≤ 100)) := by
  have := may14_l0 ls [] k (by have := h.len; omega) (by have := h.len; simp; omega) h.each
  simpa [garnerref14_May.f] using this
theorem fold_len : ∀ (l acc : List S38), (l.foldl insL acc).length ≤ acc.length + l.length
  | [], acc => by simp
  | x :: l, acc => by
    have := fold_len l (insL acc x)
    have h2 := insL_len acc x
    simp only [List.foldl_cons, List.length_cons]
    omega
theorem merge_len : ∀ (ls : List (List S38)) (n : Nat), (∀ l ∈ ls, l.length ≤ n) → (mergeL ls).length ≤ n * ls.length
  | [], n, _ => by simp [mergeL]
  | l :: ls, n, h => by
    have ih := merge_len ls n fun l' hl => h l' (by simp [hl])
    have h1 := fold_len l (mergeL ls)
    have h2 := h l (by simp)
    have e : mergeL (l :: ls) = l.foldl insL (mergeL ls) := rfl
    rw [e, List.length_cons, Nat.mul_succ]
    omega
/-- The items that are told (the mark: dead). -/
def selM (drop : Bool) (l : List S38) : List S38 := l.filter fun x => !drop || !x.f1
end Go.Proofs.Ytgoidimipchejaa.Mg
