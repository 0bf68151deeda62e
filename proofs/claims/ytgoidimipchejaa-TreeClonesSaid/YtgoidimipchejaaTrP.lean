/- Layer 10: plain laws of trees and lists of items; no program here. -/
import Derived.Test.YtgoidimipchejaaTrF
import Derived.Sort.Walk0
namespace Go.Proofs.Ytgoidimipchejaa.Tr
open Go.RowKit Go.Proofs.Ytgoidimipchejaa.PT
set_option linter.unusedVariables false
set_option linter.unusedSimpArgs false

/-- An item's key. -/
def kOf (x : S38) : List UInt8 := x.f0.toList
theorem less_iff (a b : List UInt8) : Op.bytesLess a b = true ↔ a < b := by rw [Go.Proofs.bytesLess_eq]; simp
theorem less_not (a b : List UInt8) : Op.bytesLess a b = false ↔ ¬ a < b := by rw [Go.Proofs.bytesLess_eq]; simp
theorem k_irr (a : List UInt8) : ¬ a < a := List.lt_irrefl a
theorem k_trans {a b c : List UInt8} (h : a < b) (k : b < c) : a < c := List.lt_trans h k
theorem k_tri (a b : List UInt8) : a < b ∨ a = b ∨ b < a := by
  by_cases h : a < b
  · exact .inl h
  · by_cases k : b < a
    · exact .inr (.inr k)
    · exact .inr (.inl (List.le_antisymm (List.not_lt.1 k) (List.not_lt.1 h)))
theorem k_asymm {a b : List UInt8} (h : a < b) : ¬ b < a := fun k => k_irr _ (k_trans h k)

/-- In order. -/
def Ord (l : List S38) : Prop := l.Pairwise fun x y => kOf x < kOf y
/-- Putting into a list in order. -/
def insL : List S38 → S38 → List S38
  | [], x => [x]
  | y :: l, x => if kOf x = kOf y then x :: l else if kOf x < kOf y then x :: y :: l else y :: insL l x
theorem insL_mem : ∀ (l : List S38) (x z : S38), z ∈ insL l x → z = x ∨ z ∈ l
  | [], x, z, h => by simp [insL] at h; exact .inl h
  | y :: l, x, z, h => by
    simp only [insL] at h
    split at h
    · simp at h ⊢; rcases h with h | h <;> simp [h]
    · split at h
      · simp at h ⊢; exact h
      · simp at h ⊢
        rcases h with h | h
        · exact .inr (.inl h)
        · rcases insL_mem l x z h with h | h <;> simp [h]
theorem insL_ord : ∀ (l : List S38) (x : S38), Ord l → Ord (insL l x)
  | [], x, _ => by simp [insL, Ord]
  | y :: l, x, h => by
    obtain ⟨h1, h2⟩ := List.pairwise_cons.1 h
    simp only [insL]
    split
    · rename_i e
      exact List.pairwise_cons.2 ⟨fun z hz => by rw [e]; exact h1 z hz, h2⟩
    · rename_i ne
      split
      · rename_i lt
        exact List.pairwise_cons.2 ⟨fun z hz => (List.mem_cons.1 hz).elim (fun e => by rw [e]; exact lt) (fun hz => k_trans lt (h1 z hz)), h⟩
      · rename_i nlt
        have gt : kOf y < kOf x := (k_tri (kOf x) (kOf y)).elim (fun h => absurd h nlt) (fun h => h.elim (fun h => absurd h ne) id)
        exact List.pairwise_cons.2 ⟨fun z hz => (insL_mem l x z hz).elim (fun e => by rw [e]; exact gt) (fun hz => h1 z hz), insL_ord l x h2⟩
theorem insL_mid (L R : List S38) (y x : S38) (h : ∀ z ∈ L, kOf z < kOf y) :
    insL (L ++ y :: R) x = if kOf x = kOf y then L ++ x :: R else if kOf x < kOf y then insL L x ++ y :: R else L ++ y :: insL R x := by
  induction L with
  | nil =>
    simp only [List.nil_append, insL]
    repeat' split
    all_goals simp
  | cons z L ih =>
    have hz := h z (by simp)
    have ih := ih fun u hu => h u (by simp [hu])
    simp only [List.cons_append, insL, ih]
    by_cases e : kOf x = kOf y
    · rw [if_neg (by rw [e]; intro k; rw [k] at hz; exact k_irr _ hz), if_neg (by rw [e]; exact k_asymm hz), if_pos e, if_pos e]
    · rw [if_neg e, if_neg e]
      by_cases lt : kOf x < kOf y
      · rw [if_pos lt, if_pos lt]
        repeat' split
        all_goals simp
      · have gt : kOf y < kOf x := (k_tri (kOf x) (kOf y)).elim (fun h => absurd h lt) (fun h => h.elim (fun h => absurd h e) id)
        rw [if_neg lt, if_neg lt, if_neg (by intro k; rw [k] at gt; exact k_asymm hz gt), if_neg (k_asymm (k_trans hz gt))]
theorem ord_node {l r : BT} {y : S38} {lev : Int} (h : Ord (BT.node l y lev r).items) : Ord l.items ∧ Ord r.items ∧ (∀ z ∈ l.items, kOf z < kOf y) ∧ (∀ z ∈ r.items, kOf y < kOf z) := by
  obtain ⟨h1, h2, h3⟩ := List.pairwise_append.1 h
  obtain ⟨h4, h5⟩ := List.pairwise_cons.1 h2
  exact ⟨h1, h5, fun z hz => h3 z hz y (by simp), h4⟩
/-- Putting into a tree in order is putting into its items. -/
theorem putT_items : ∀ (T : BT) (x : S38), Ord T.items → (putT T x).items = insL T.items x
  | .nil, x, _ => by simp [putT, BT.items, insL]
  | .node l y lev r, x, h => by
    obtain ⟨hl, hr, hly, hyr⟩ := ord_node h
    simp only [BT.items]
    rw [insL_mid _ _ _ _ hly]
    simp only [putT]
    by_cases e : x.f0.toList = y.f0.toList
    · rw [if_pos e, if_pos (show kOf x = kOf y from e)]
      simp [BT.items]
    · rw [if_neg e, if_neg (show ¬ kOf x = kOf y from e)]
      by_cases lt : kOf x < kOf y
      · rw [if_pos (show Op.bytesLess x.f0.toList y.f0.toList = true from (less_iff _ _).2 lt), if_pos lt, splitT_items, skewT_items]
        simp only [BT.items]
        rw [putT_items l x hl]
      · rw [if_neg (show ¬ Op.bytesLess x.f0.toList y.f0.toList = true from fun k => lt ((less_iff _ _).1 k)), if_neg lt, splitT_items, skewT_items]
        simp only [BT.items]
        rw [putT_items r x hr]
theorem sizeT_items : ∀ T : BT, sizeT T = T.items.length
  | .nil => rfl
  | .node l y lev r => by simp only [sizeT, BT.items, List.length_append, List.length_cons, sizeT_items l, sizeT_items r]; omega
/-- The item of a key. -/
def getL (l : List S38) (key : List UInt8) : Option S38 := l.find? fun y => kOf y == key
theorem getL_none {l : List S38} {key : List UInt8} (h : ∀ z ∈ l, kOf z ≠ key) : getL l key = none := by
  simpa [getL] using h
theorem findT_getL : ∀ (T : BT) (key : ByteArray), Ord T.items → findT T key = getL T.items key.toList
  | .nil, key, _ => rfl
  | .node l y lev r, key, h => by
    obtain ⟨hl, hr, hly, hyr⟩ := ord_node h
    simp only [findT, BT.items]
    have e0 : getL (l.items ++ y :: r.items) key.toList = (getL l.items key.toList).or (if kOf y == key.toList then some y else getL r.items key.toList) := by
      simp only [getL, List.find?_append, List.find?_cons]
      cases kOf y == key.toList <;> rfl
    rw [e0]
    by_cases e : key.toList = y.f0.toList
    · rw [if_pos e, getL_none (fun z hz k => by have := hly z hz; rw [k, e] at this; exact k_irr _ this), if_pos (show (kOf y == key.toList) = true from beq_iff_eq.2 e.symm)]
      rfl
    · have ne : (kOf y == key.toList) = false := beq_eq_false_iff_ne.2 (fun k => e k.symm)
      rw [if_neg e, ne]
      by_cases lt : Op.bytesLess key.toList y.f0.toList = true
      · rw [if_pos lt, findT_getL l key hl, getL_none (l := r.items) (fun z hz k => by have := hyr z hz; rw [k] at this; exact k_asymm this ((less_iff _ _).1 lt))]
        simp
      · rw [if_neg lt, findT_getL r key hr, getL_none (l := l.items) (fun z hz k => by have := hly z hz; rw [k] at this; exact lt ((less_iff _ _).2 this))]
        simp
/-- In the range? -/
def inR (lo hi : ByteArray) (x : S38) : Bool := !(Op.bytesLess x.f0.toList lo.toList) && inHi x hi
theorem scanT_take : ∀ (T : BT) (lo hi : ByteArray) (most : Int) (out : List S38), Ord T.items → scanT T lo hi most out = out ++ (T.items.filter (inR lo hi)).take (most - out.length).toNat
  | .nil, lo, hi, most, out, _ => by simp [scanT, BT.items]
  | .node l x lev r, lo, hi, most, out, h => by
    obtain ⟨hl, hr, hlx, hxr⟩ := ord_node h
    have il := scanT_take l lo hi most out hl
    have ir := fun o => scanT_take r lo hi most o hr
    simp only [scanT, BT.items, List.filter_append, List.filter_cons]
    by_cases hm : most ≤ (out.length : Int)
    · rw [if_pos hm, show (most - out.length).toNat = 0 by omega]; simp
    rw [if_neg hm]
    have rhi : inHi x hi = false → r.items.filter (inR lo hi) = [] := fun hx => by
      unfold inHi at hx
      rw [Bool.or_eq_false_iff] at hx
      refine List.filter_eq_nil_iff.2 fun z hz => ?_
      have hnz : Op.bytesLess z.f0.toList hi.toList = false := (less_not _ _).2 fun k => (less_not _ _).1 hx.2 (k_trans (hxr z hz) k)
      simp [inR, inHi, hnz, beq_eq_false_iff_ne.1 hx.1]
    by_cases lt : Op.bytesLess x.f0.toList lo.toList = true
    · have hfl : l.items.filter (inR lo hi) = [] := List.filter_eq_nil_iff.2 fun z hz => by
        have : Op.bytesLess z.f0.toList lo.toList = true := (less_iff _ _).2 (k_trans (hlx z hz) ((less_iff _ _).1 lt))
        simp [inR, this]
      have hfx : inR lo hi x = false := by simp [inR, lt]
      rw [if_pos lt, hfl, hfx]
      by_cases hx : inHi x hi = true
      · rw [if_pos hx, ir]; simp
      · rw [if_neg hx, rhi (by simpa using hx)]; simp
    · rw [if_neg lt, il]
      have lt' : Op.bytesLess x.f0.toList lo.toList = false := by simpa using lt
      by_cases hx : inHi x hi = true
      · have hfx : inR lo hi x = true := by simp [inR, lt', hx]
        rw [if_pos hx, hfx]
        simp only [if_true]
        split
        · rename_i hn
          simp only [List.length_append, List.length_take] at hn
          have hfull : (l.items.filter (inR lo hi)).length ≤ (most - out.length).toNat := by omega
          rw [ir, List.take_of_length_le hfull]
          simp only [List.append_assoc, List.length_append, List.length_cons, List.length_nil, List.take_append]
          rw [List.take_of_length_le hfull]
          congr 2
          have e1 : ∃ n, (most - out.length).toNat - (l.items.filter (inR lo hi)).length = n + 1 := ⟨(most - out.length).toNat - (l.items.filter (inR lo hi)).length - 1, by omega⟩
          obtain ⟨n, hn1⟩ := e1
          rw [hn1, List.take_succ_cons]
          simp only [List.singleton_append, List.cons_append, List.nil_append]
          congr 2
          omega
        · rename_i hn
          simp only [List.length_append, List.length_take] at hn
          rw [ir]
          simp only [List.length_append, List.length_take, List.append_assoc, List.take_append]
          congr 2
          rw [show (most - ((out.length + min (most - out.length).toNat (l.items.filter (inR lo hi)).length : Nat) : Int)).toNat = 0 by omega, show (most - out.length).toNat - (l.items.filter (inR lo hi)).length = 0 by omega]
          simp
      · have hfx : inR lo hi x = false := by simp [inR, lt', hx]
        rw [if_neg hx, hfx, rhi (by simpa using hx)]
        simp
end Go.Proofs.Ytgoidimipchejaa.Tr
