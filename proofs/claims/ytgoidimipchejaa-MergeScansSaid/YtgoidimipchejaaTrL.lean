/- Plain laws of lists of items in order; no program here. -/
import Derived.Test.YtgoidimipchejaaPTx0
import Derived.Sort.Walk0
namespace Go.Proofs.Ytgoidimipchejaa.Tr
open Go.RowKit Go.Proofs.Ytgoidimipchejaa.PT
set_option linter.unusedVariables false
set_option linter.unusedSimpArgs false

/-- What an item weighs. -/
def wN (x : S38) : Nat := x.f0.size + 16 + x.f2.f1.length
/-- Is a key below the range's end? -/
def inHi (x : S38) (hi : ByteArray) : Bool := hi.toList == ([] : List UInt8) || Op.bytesLess x.f0.toList hi.toList
def zeroS : S38 := ⟨⟨#[]⟩, false, ⟨false, [], ⟨0, 0, 0, 0⟩⟩⟩
/-- An item's key. -/
def kOf (x : S38) : List UInt8 := x.f0.toList
theorem less_iff (a b : List UInt8) : Op.bytesLess a b = true ↔ a < b := by rw [Go.Proofs.bytesLess_eq]; simp
theorem less_not (a b : List UInt8) : Op.bytesLess a b = false ↔ ¬ a < b := by rw [Go.Proofs.bytesLess_eq]; simp
theorem k_irr (a : List UInt8) : ¬ a < a := List.lt_irrefl a
theorem k_trans {a b c : List UInt8} (h : a < b) (k : b < c) : a < c := List.lt_trans h k
theorem k_tri (a b : List UInt8) : a < b ∨ a = b ∨ b < a := by
  by_cases h : a < b
  · exact .inl h
  · by_cases k : b < a
    · exact .inr (.inr k)
    · exact .inr (.inl (List.le_antisymm (List.not_lt.1 k) (List.not_lt.1 h)))
theorem k_asymm {a b : List UInt8} (h : a < b) : ¬ b < a := fun k => k_irr _ (k_trans h k)

/-- In order. -/
def Ord (l : List S38) : Prop := l.Pairwise fun x y => kOf x < kOf y
/-- Putting into a list in order. -/
def insL : List S38 → S38 → List S38
  | [], x => [x]
  | y :: l, x => if kOf x = kOf y then x :: l else if kOf x < kOf y then x :: y :: l else y :: insL l x
theorem insL_mem : ∀ (l : List S38) (x z : S38), z ∈ insL l x → z = x ∨ z ∈ l
  | [], x, z, h => by simp [insL] at h; exact .inl h
  | y :: l, x, z, h => by
    simp only [insL] at h
    split at h
    · simp at h ⊢; rcases h with h | h <;> simp [h]
    · split at h
      · simp at h ⊢; exact h
      · simp at h ⊢
        rcases h with h | h
        · exact .inr (.inl h)
        · rcases insL_mem l x z h with h | h <;> simp [h]
theorem insL_ord : ∀ (l : List S38) (x : S38), Ord l → Ord (insL l x)
  | [], x, _ => by simp [insL, Ord]
  | y :: l, x, h => by
    obtain ⟨h1, h2⟩ := List.pairwise_cons.1 h
    simp only [insL]
    split
    · rename_i e
      exact List.pairwise_cons.2 ⟨fun z hz => by rw [e]; exact h1 z hz, h2⟩
    · rename_i ne
      split
      · rename_i lt
        exact List.pairwise_cons.2 ⟨fun z hz => (List.mem_cons.1 hz).elim (fun e => by rw [e]; exact lt) (fun hz => k_trans lt (h1 z hz)), h⟩
      · rename_i nlt
        have gt : kOf y < kOf x := (k_tri (kOf x) (kOf y)).elim (fun h => absurd h nlt) (fun h => h.elim (fun h => absurd h ne) id)
        exact List.pairwise_cons.2 ⟨fun z hz => (insL_mem l x z hz).elim (fun e => by rw [e]; exact gt) (fun hz => h1 z hz), insL_ord l x h2⟩
theorem insL_mid (L R : List S38) (y x : S38) (h : ∀ z ∈ L, kOf z < kOf y) :
    insL (L ++ y :: R) x = if kOf x = kOf y then L ++ x :: R else if kOf x < kOf y then insL L x ++ y :: R else L ++ y :: insL R x := by
  induction L with
  | nil =>
    simp only [List.nil_append, insL]
    repeat' split
    all_goals simp
  | cons z L ih =>
    have hz := h z (by simp)
    have ih := ih fun u hu => h u (by simp [hu])
    simp only [List.cons_append, insL, ih]
    by_cases e : kOf x = kOf y
    · rw [if_neg (by rw [e]; intro k; rw [k] at hz; exact k_irr _ hz), if_neg (by rw [e]; exact k_asymm hz), if_pos e, if_pos e]
    · rw [if_neg e, if_neg e]
      by_cases lt : kOf x < kOf y
      · rw [if_pos lt, if_pos lt]
        repeat' split
        all_goals simp
      · have gt : kOf y < kOf x := (k_tri (kOf x) (kOf y)).elim (fun h => absurd h lt) (fun h => h.elim (fun h => absurd h e) id)
        rw [if_neg lt, if_neg lt, if_neg (by intro k; rw [k] at gt; exact k_asymm hz gt), if_neg (k_asymm (k_trans hz gt))]
/-- The item of a key. -/
def getL (l : List S38) (key : List UInt8) : Option S38 := l.find? fun y => kOf y == key
theorem getL_none {l : List S38} {key : List UInt8} (h : ∀ z ∈ l, kOf z ≠ key) : getL l key = none := by
  simpa [getL] using h
/-- In the range? -/
def inR (lo hi : ByteArray) (x : S38) : Bool := !(Op.bytesLess x.f0.toList lo.toList) && inHi x hi
end Go.Proofs.Ytgoidimipchejaa.Tr
