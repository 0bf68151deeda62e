/- Layer 10: what the document's Get tells, in plain words; no program here. -/
import Derived.Test.YtgoidimipchejaaTrQ
import Derived.Test.YtgoidimipchejaaPTx10
namespace Go.Proofs.Ytgoidimipchejaa.Tr
open Go.RowKit Go.Proofs.Ytgoidimipchejaa.PT Go.Proofs.YtgoidimipchejaaW.PrintWords
set_option linter.unusedVariables false
set_option linter.unusedSimpArgs false

def tup (x : S38) : ByteArray × Bool × Bool × List Int × Int × Int × Int × Int := (x.f0, x.f1, x.f2.f0, x.f2.f1, x.f2.f2.f0, x.f2.f2.f1, x.f2.f2.f2, x.f2.f2.f3)
theorem get_l0 : ∀ (rest pre : List S38) (key : ByteArray) (k : Nat), rest.length < k → (pre ++ rest).length ≤ 1000000 → garnerref10_Get.l0 k (pre ++ rest) key (pre.length : Int) = some (tup ((getL rest key.toList).getD zeroS))
  | [], pre, key, k + 1, _, _ => by simp [garnerref10_Get.l0, getL, tup, zeroS]
  | y :: rest, pre, key, k + 1, hk, hl => by
    simp only [List.length_cons] at hk
    have ih := get_l0 rest (pre ++ [y]) key k (by omega) (by simpa using hl)
    simp only [← append_one, len_one] at ih
    have h1 : (pre.length : Int) < ((pre ++ y :: rest).length : Int) := by simp; omega
    have hw : wrap64 ((pre.length : Int) + 1) = ((pre.length + 1 : Nat) : Int) := wrap_succ _ (by simp at hl; omega)
    simp only [garnerref10_Get.l0]
    rw [if_pos h1, if_pos (by omega), rd_mid, hw]
    by_cases e : kOf y = key.toList
    · rw [if_pos (show y.f0.toList = key.toList from e)]
      have : getL (y :: rest) key.toList = some y := by simp [getL, e]
      rw [this]; rfl
    · rw [if_neg (show ¬ y.f0.toList = key.toList from e), ih]
      have : getL (y :: rest) key.toList = getL rest key.toList := by simp [getL, e]
      rw [this]
theorem get_f (l : List S38) (key : ByteArray) (k : Nat) (hk : l.length < k) (hl : l.length ≤ 1000000) : garnerref10_Get.f k l key = some (tup ((getL l key.toList).getD zeroS)) := by
  have := get_l0 l [] key k hk (by simpa using hl)
  simpa [garnerref10_Get.f] using this
end Go.Proofs.Ytgoidimipchejaa.Tr
