/- Layer 10: what the document's Put tells, in plain words; no program here. -/
import Derived.Test.YtgoidimipchejaaTrQ
import Derived.Test.YtgoidimipchejaaPTx6
namespace Go.Proofs.Ytgoidimipchejaa.Tr
open Go.RowKit Go.Proofs.Ytgoidimipchejaa.PT Go.Proofs.YtgoidimipchejaaW.PrintWords
set_option linter.unusedVariables false
set_option linter.unusedSimpArgs false

/-! ### putting into a list, as the document does it -/
def putL : Bool → List S38 → S38 → List S38
  | done, [], x => if done = true then [] else [x]
  | done, y :: l, x =>
    if done = true then (if kOf y = kOf x then putL true l x else y :: putL true l x)
    else if Op.bytesLess (kOf y) (kOf x) = true then (if kOf y = kOf x then putL false l x else y :: putL false l x)
    else x :: (if kOf y = kOf x then putL true l x else y :: putL true l x)
def putF (k : Nat) (l acc : List S38) (done : Bool) (i : Int) (x : S38) : Option (List S38) := garnerref10_Put.l0 k l acc done i x.f0 x.f1 x.f2.f0 x.f2.f1 x.f2.f2.f0 x.f2.f2.f1 x.f2.f2.f2 x.f2.f2.f3
theorem put_l0 : ∀ (rest pre acc : List S38) (done : Bool) (x : S38) (k : Nat), 2 * rest.length < k → (pre ++ rest).length ≤ 1000000 → acc.length + 2 * rest.length ≤ 1000000 → putF k (pre ++ rest) acc done (pre.length : Int) x = some (acc ++ putL done rest x)
  | [], pre, acc, done, x, k + 1, _, _, ha => by
    unfold putF
    simp only [garnerref10_Put.l0]
    rw [if_neg (by simp)]
    cases done
    · rw [if_neg (by simp), if_pos (by simp at ha; omega)]
      simp [putL]
    · rw [if_pos rfl]; simp [putL]
  | y :: rest, pre, acc, done, x, k + 2, hk, hl, ha => by
    have hk' : 2 * rest.length < k := by simp at hk; omega
    have ih := fun acc done (h : acc.length + 2 * rest.length ≤ 1000000) => put_l0 rest (pre ++ [y]) acc done x k hk' (by simpa using hl) h
    simp only [← append_one, len_one] at ih
    simp only [putF] at ih ⊢
    simp only [List.length_cons] at ha
    have h1 : (pre.length : Int) < ((pre ++ y :: rest).length : Int) := by simp; omega
    have h0 : (0 : Int) ≤ (pre.length : Int) := by omega
    have hw : wrap64 ((pre.length : Int) + 1) = ((pre.length + 1 : Nat) : Int) := wrap_succ _ (by simp at hl; omega)
    have c1 : acc.length < 1599289640401 := by omega
    have c2 : (acc ++ [x]).length < 1599289640401 := by simp; omega
    have tail : ∀ (acc' : List S38) (done' : Bool), acc'.length + 2 * rest.length + 1 ≤ 1000000 → (if (kOf y) = (kOf x) then (garnerref10_Put.l0 k (pre ++ y :: rest) acc' done' (wrap64 ((pre.length : Int) + 1)) x.f0 x.f1 x.f2.f0 x.f2.f1 x.f2.f2.f0 x.f2.f2.f1 x.f2.f2.f2 x.f2.f2.f3) else (if acc'.length < 1599289640401 then (garnerref10_Put.l0 k (pre ++ y :: rest) (acc' ++ [y]) done' (wrap64 ((pre.length : Int) + 1)) x.f0 x.f1 x.f2.f0 x.f2.f1 x.f2.f2.f0 x.f2.f2.f1 x.f2.f2.f2 x.f2.f2.f3) else none)) = some (acc' ++ (if kOf y = kOf x then putL done' rest x else y :: putL done' rest x)) := by
      intro acc' done' hacc
      by_cases e : kOf y = kOf x
      · rw [if_pos e, if_pos e, hw]
        exact ih acc' done' (by omega)
      · rw [if_neg e, if_neg e, if_pos (by omega), hw, ih (acc' ++ [y]) done' (by simp; omega)]
        simp
    simp only [garnerref10_Put.l0, garnerref10_Put.j1]
    rw [if_pos h1]
    simp only [rd_mid, h0, h1, if_true]
    cases done
    · simp only [Bool.false_eq_true, if_false]
      cases hb : Op.bytesLess y.f0.toList x.f0.toList with
      | true =>
        simp only [Bool.not_true, Bool.false_eq_true, if_false]
        have e1 : putL false (y :: rest) x = if kOf y = kOf x then putL false rest x else y :: putL false rest x := by
          simp only [putL]
          rw [if_neg (by simp), if_pos (show Op.bytesLess (kOf y) (kOf x) = true from hb)]
        rw [e1]
        exact tail acc false (by omega)
      | false =>
        simp only [Bool.not_false, if_true, Option.bind_some]
        have e1 : putL false (y :: rest) x = x :: if kOf y = kOf x then putL true rest x else y :: putL true rest x := by
          simp only [putL]
          rw [if_neg (by simp), if_neg (show ¬ Op.bytesLess (kOf y) (kOf x) = true from by rw [show Op.bytesLess (kOf y) (kOf x) = false from hb]; simp)]
        rw [e1, if_pos c1]
        exact (tail (acc ++ [x]) true (by simp; omega)).trans (by simp)
    · simp only [if_true, Bool.false_eq_true, if_false]
      have e1 : putL true (y :: rest) x = if kOf y = kOf x then putL true rest x else y :: putL true rest x := by
        simp only [putL]
        rw [if_pos trivial]
      rw [e1]
      exact tail acc true (by omega)
theorem putL_true : ∀ (l : List S38) (x : S38), (∀ z ∈ l, kOf x < kOf z) → putL true l x = l
  | [], x, _ => rfl
  | y :: l, x, h => by
    simp only [putL]
    rw [if_pos trivial, if_neg (fun e => by have := h y (by simp); rw [e] at this; exact k_irr _ this), putL_true l x fun z hz => h z (by simp [hz])]
theorem putL_insL : ∀ (l : List S38) (x : S38), Ord l → putL false l x = insL l x
  | [], x, _ => rfl
  | y :: l, x, h => by
    obtain ⟨h1, h2⟩ := List.pairwise_cons.1 h
    have ih := putL_insL l x h2
    simp only [putL, insL]
    rw [if_neg (by simp)]
    by_cases e : kOf x = kOf y
    · rw [if_pos e, if_neg (fun k => k_irr _ (by have := (less_iff _ _).1 k; rwa [e] at this)), if_pos e.symm, putL_true l x (fun z hz => by rw [e]; exact h1 z hz)]
    · rw [if_neg e]
      by_cases lt : kOf x < kOf y
      · rw [if_pos lt, if_neg (fun k => k_asymm lt ((less_iff _ _).1 k)), if_neg (fun k => e k.symm), putL_true l x (fun z hz => k_trans lt (h1 z hz))]
      · have gt : kOf y < kOf x := (k_tri (kOf x) (kOf y)).elim (fun h => absurd h lt) (fun h => h.elim (fun h => absurd h e) id)
        rw [if_neg lt, if_pos ((less_iff _ _).2 gt), if_neg (fun k => e k.symm), ih]
end Go.Proofs.Ytgoidimipchejaa.Tr
