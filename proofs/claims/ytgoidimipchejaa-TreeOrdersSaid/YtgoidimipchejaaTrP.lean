/- Layer 10: plain laws of trees of items in order; no program here. -/
import Derived.Test.YtgoidimipchejaaTrF
namespace Go.Proofs.Ytgoidimipchejaa.Tr
open Go.RowKit Go.Proofs.Ytgoidimipchejaa.PT
set_option linter.unusedVariables false
set_option linter.unusedSimpArgs false

theorem ord_node {l r : BT} {y : S38} {lev : Int} (h : Ord (BT.node l y lev r).items) : Ord l.items ∧ Ord r.items ∧ (∀ z ∈ l.items, kOf z < kOf y) ∧ (∀ z ∈ r.items, kOf y < kOf z) := by
  obtain ⟨h1, h2, h3⟩ := List.pairwise_append.1 h
  obtain ⟨h4, h5⟩ := List.pairwise_cons.1 h2
  exact ⟨h1, h5, fun z hz => h3 z hz y (by simp), h4⟩
/-- Putting into a tree in order is putting into its items. -/
theorem putT_items : ∀ (T : BT) (x : S38), Ord T.items → (putT T x).items = insL T.items x
  | .nil, x, _ => by simp [putT, BT.items, insL]
  | .node l y lev r, x, h => by
    obtain ⟨hl, hr, hly, hyr⟩ := ord_node h
    simp only [BT.items]
    rw [insL_mid _ _ _ _ hly]
    simp only [putT]
    by_cases e : x.f0.toList = y.f0.toList
    · rw [if_pos e, if_pos (show kOf x = kOf y from e)]
      simp [BT.items]
    · rw [if_neg e, if_neg (show ¬ kOf x = kOf y from e)]
      by_cases lt : kOf x < kOf y
      · rw [if_pos (show Op.bytesLess x.f0.toList y.f0.toList = true from (less_iff _ _).2 lt), if_pos lt, splitT_items, skewT_items]
        simp only [BT.items]
        rw [putT_items l x hl]
      · rw [if_neg (show ¬ Op.bytesLess x.f0.toList y.f0.toList = true from fun k => lt ((less_iff _ _).1 k)), if_neg lt, splitT_items, skewT_items]
        simp only [BT.items]
        rw [putT_items r x hr]
theorem sizeT_items : ∀ T : BT, sizeT T = T.items.length
  | .nil => rfl
  | .node l y lev r => by simp only [sizeT, BT.items, List.length_append, List.length_cons, sizeT_items l, sizeT_items r]; omega
theorem findT_getL : ∀ (T : BT) (key : ByteArray), Ord T.items → findT T key = getL T.items key.toList
  | .nil, key, _ => rfl
  | .node l y lev r, key, h => by
    obtain ⟨hl, hr, hly, hyr⟩ := ord_node h
    simp only [findT, BT.items]
    have e0 : getL (l.items ++ y :: r.items) key.toList = (getL l.items key.toList).or (if kOf y == key.toList then some y else getL r.items key.toList) := by
      simp only [getL, List.find?_append, List.find?_cons]
      cases kOf y == key.toList <;> rfl
    rw [e0]
    by_cases e : key.toList = y.f0.toList
    · rw [if_pos e, getL_none (fun z hz k => by have := hly z hz; rw [k, e] at this; exact k_irr _ this), if_pos (show (kOf y == key.toList) = true from beq_iff_eq.2 e.symm)]
      rfl
    · have ne : (kOf y == key.toList) = false := beq_eq_false_iff_ne.2 (fun k => e k.symm)
      rw [if_neg e, ne]
      by_cases lt : Op.bytesLess key.toList y.f0.toList = true
      · rw [if_pos lt, findT_getL l key hl, getL_none (l := r.items) (fun z hz k => by have := hyr z hz; rw [k] at this; exact k_asymm this ((less_iff _ _).1 lt))]
        simp
      · rw [if_neg lt, findT_getL r key hr, getL_none (l := l.items) (fun z hz k => by have := hly z hz; rw [k] at this; exact lt ((less_iff _ _).2 this))]
        simp
theorem scanT_take : ∀ (T : BT) (lo hi : ByteArray) (most : Int) (out : List S38), Ord T.items → scanT T lo hi most out = out ++ (T.items.filter (inR lo hi)).take (most - out.length).toNat
  | .nil, lo, hi, most, out, _ => by simp [scanT, BT.items]
  | .node l x lev r, lo, hi, most, out, h => by
    obtain ⟨hl, hr, hlx, hxr⟩ := ord_node h
    have il := scanT_take l lo hi most out hl
    have ir := fun o => scanT_take r lo hi most o hr
    simp only [scanT, BT.items, List.filter_append, List.filter_cons]
    by_cases hm : most ≤ (out.length : Int)
    · rw [if_pos hm, show (most - out.length).toNat = 0 by omega]; simp
    rw [if_neg hm]
    have rhi : inHi x hi = false → r.items.filter (inR lo hi) = [] := fun hx => by
      unfold inHi at hx
      rw [Bool.or_eq_false_iff] at hx
      refine List.filter_eq_nil_iff.2 fun z hz => ?_
      have hnz : Op.bytesLess z.f0.toList hi.toList = false := (less_not _ _).2 fun k => (less_not _ _).1 hx.2 (k_trans (hxr z hz) k)
      simp [inR, inHi, hnz, beq_eq_false_iff_ne.1 hx.1]
    by_cases lt : Op.bytesLess x.f0.toList lo.toList = true
    · have hfl : l.items.filter (inR lo hi) = [] := List.filter_eq_nil_iff.2 fun z hz => by
        have : Op.bytesLess z.f0.toList lo.toList = true := (less_iff _ _).2 (k_trans (hlx z hz) ((less_iff _ _).1 lt))
        simp [inR, this]
      have hfx : inR lo hi x = false := by simp [inR, lt]
      rw [if_pos lt, hfl, hfx]
      by_cases hx : inHi x hi = true
      · rw [if_pos hx, ir]; simp
      · rw [if_neg hx, rhi (by simpa using hx)]; simp
    · rw [if_neg lt, il]
      have lt' : Op.bytesLess x.f0.toList lo.toList = false := by simpa using lt
      by_cases hx : inHi x hi = true
      · have hfx : inR lo hi x = true := by simp [inR, lt', hx]
        rw [if_pos hx, hfx]
        simp only [if_true]
        split
        · rename_i hn
          simp only [List.length_append, List.length_take] at hn
          have hfull : (l.items.filter (inR lo hi)).length ≤ (most - out.length).toNat := by omega
          rw [ir, List.take_of_length_le hfull]
          simp only [List.append_assoc, List.length_append, List.length_cons, List.length_nil, List.take_append]
          rw [List.take_of_length_le hfull]
          congr 2
          have e1 : ∃ n, (most - out.length).toNat - (l.items.filter (inR lo hi)).length = n + 1 := ⟨(most - out.length).toNat - (l.items.filter (inR lo hi)).length - 1, by omega⟩
          obtain ⟨n, hn1⟩ := e1
          rw [hn1, List.take_succ_cons]
          simp only [List.singleton_append, List.cons_append, List.nil_append]
          congr 2
          omega
        · rename_i hn
          simp only [List.length_append, List.length_take] at hn
          rw [ir]
          simp only [List.length_append, List.length_take, List.append_assoc, List.take_append]
          congr 2
          rw [show (most - ((out.length + min (most - out.length).toNat (l.items.filter (inR lo hi)).length : Nat) : Int)).toNat = 0 by omega, show (most - out.length).toNat - (l.items.filter (inR lo hi)).length = 0 by omega]
          simp
      · have hfx : inR lo hi x = false := by simp [inR, lt', hx]
        rw [if_neg hx, hfx, rhi (by simpa using hx)]
        simp
end Go.Proofs.Ytgoidimipchejaa.Tr
