/- Plain values: which are in order; no program here. -/
import Derived.Test.YtgoidimipchejaaTrQ
import Derived.Test.YtgoidimipchejaaPTx4
import Derived.Test.YtgoidimipchejaaPTx8
namespace Go.Proofs.Ytgoidimipchejaa.Tr
open Go.RowKit Go.Proofs.Ytgoidimipchejaa.PT Go.Proofs.YtgoidimipchejaaW.PrintWords
set_option linter.unusedVariables false
set_option linter.unusedSimpArgs false

/-- Whole numbers that are bytes. -/
def By (l : List Int) : Prop := ∀ z ∈ l, (Lit.int .u8 z).wf = true
theorem by_range {z : Int} (h : (Lit.int .u8 z).wf = true) : 0 ≤ z ∧ z ≤ 255 := by
  simp only [Lit.wf, Bool.and_eq_true, decide_eq_true_eq, IntKind.min, IntKind.max, IntKind.signed, IntKind.bits, Bool.false_eq_true, if_false] at h
  omega
theorem bytesOf_inj : ∀ (a b : List Int), By a → By b → (a.map fun n => UInt8.ofNat n.toNat) = (b.map fun n => UInt8.ofNat n.toNat) → a = b
  | [], [], _, _, _ => rfl
  | [], _ :: _, _, _, h => by simp at h
  | _ :: _, [], _, _, h => by simp at h
  | x :: a, y :: b, ha, hb, h => by
    simp only [List.map_cons, List.cons.injEq] at h
    obtain ⟨h1, h2⟩ := h
    obtain ⟨a0, a1⟩ := by_range (ha x (by simp))
    obtain ⟨b0, b1⟩ := by_range (hb y (by simp))
    have hh := congrArg UInt8.toNat h1
    simp only [UInt8.toNat_ofNat'] at hh
    rw [bytesOf_inj a b (fun z hz => ha z (by simp [hz])) (fun z hz => hb z (by simp [hz])) h2, show x = y by omega]
theorem equal_fg (a b : List Int) (ha : By a) (hb : By b) : bytes_Equal.f a b = some (decide (a = b)) := by
  unfold bytes_Equal.f
  have e : ((strOfNums a).toList == (strOfNums b).toList) = decide (a = b) := by
    by_cases e : a = b
    · rw [e]; simp
    · rw [decide_eq_false e, beq_eq_false_iff_ne]
      intro h
      refine e (bytesOf_inj a b ha hb ?_)
      have := congrArg List.length h
      simpa [strOfNums, ByteArray.toList_eq] using h
  rw [e]

/-! ### in order -/
theorem sorted_t : ∀ (rest pre : List S38) (k : Nat) (p : Option S38), (p = none ↔ pre = []) → (∀ q, p = some q → ∃ pre0, pre = pre0 ++ [q]) → rest.length < k → (pre ++ rest).length ≤ 1000000 → tree_Sorted.l0 k (pre ++ rest) (pre ++ rest) ((pre ++ rest).length : Int) (pre.length : Int) = some (sortedFrom p rest)
  | [], pre, k + 1, p, _, _, _, _ => by simp [tree_Sorted.l0, sortedFrom]
  | x :: rest, pre, k + 1, p, hp0, hp1, hk, hl => by
    have ih := sorted_t rest (pre ++ [x]) k (some x) (by simp) (fun q hq => ⟨pre, by injection hq with hq; rw [hq]⟩) (by simpa using hk) (by simpa using hl)
    rw [← append_one, len_one] at ih
    have h1 : (pre.length : Int) < ((pre ++ x :: rest).length : Int) := by simp; omega
    have hw : wrap64 ((pre.length : Int) + 1) = ((pre.length + 1 : Nat) : Int) := wrap_succ _ (by simp at hl; omega)
    obtain ⟨r, hr, hr0⟩ := check_code x
    unfold chkF at hr
    simp only [tree_Sorted.l0]
    rw [if_pos h1, if_pos (by omega), if_pos h1, rd_mid, hr, Option.bind_some, hw, ih]
    simp only [sortedFrom]
    cases hm : mayB x with
    | false => rw [if_neg (fun e => by rw [hr0, hm] at e; cases e)]; simp
    | true =>
      rw [if_pos (hr0.2 hm)]
      cases p with
      | none =>
        have : pre = [] := hp0.1 rfl
        subst this
        rw [if_neg (by simp)]
        simp
      | some q =>
        obtain ⟨pre0, rfl⟩ := hp1 q rfl
        have hw2 : wrap64 (((pre0 ++ [q]).length : Int) - 1) = (pre0.length : Int) := by rw [wrap_small (by simp) (by simp at hl ⊢; omega)]; simp
        have hrd : rd_T38 (pre0 ++ [q] ++ x :: rest) (pre0.length : Int) = q := by rw [List.append_assoc]; exact rd_mid pre0 _ q
        rw [if_pos (by simp; first | done | omega), hw2, if_pos (by omega), if_pos (by simp; omega), hrd]
        show (if Op.bytesLess (kOf q) (kOf x) = true then _ else _) = _
        by_cases hlt : kOf q < kOf x
        · rw [if_pos ((less_iff _ _).2 hlt)]; simp [hlt]
        · rw [if_neg (fun e => hlt ((less_iff _ _).1 e))]; simp [hlt]
theorem tree_sorted_f (k : Nat) (l : List S38) (hk : l.length < k) (hl : l.length ≤ 1000000) : tree_Sorted.f k l = some (sortedB l) := by
  have := sorted_t l [] k none (by simp) (by simp) hk (by simpa using hl)
  simpa [tree_Sorted.f, sortedB] using this
theorem sorted_r : ∀ (rest pre : List S38) (k : Nat) (p : Option S38), (p = none ↔ pre = []) → (∀ q, p = some q → ∃ pre0, pre = pre0 ++ [q]) → rest.length + 2000 < k → (pre ++ rest).length ≤ 1000000 → garnerref10_Sorted.l0 k (pre ++ rest) (pre.length : Int) = some (sortedFrom p rest)
  | [], pre, k + 1, p, _, _, _, _ => by simp [garnerref10_Sorted.l0, sortedFrom]
  | x :: rest, pre, k + 1, p, hp0, hp1, hk, hl => by
    have hk' : rest.length + 2000 < k := by simp at hk; omega
    have ih := sorted_r rest (pre ++ [x]) k (some x) (by simp) (fun q hq => ⟨pre, by injection hq with hq; rw [hq]⟩) hk' (by simpa using hl)
    rw [← append_one, len_one] at ih
    have h1 : (pre.length : Int) < ((pre ++ x :: rest).length : Int) := by simp; omega
    have hw : wrap64 ((pre.length : Int) + 1) = ((pre.length + 1 : Nat) : Int) := wrap_succ _ (by simp at hl; omega)
    have hm := may_mayB k x (by omega)
    unfold mayF at hm
    simp only [garnerref10_Sorted.l0]
    rw [if_pos h1, if_pos (by omega), rd_mid, hm, Option.bind_some, hw, ih]
    simp only [sortedFrom]
    cases hm : mayB x with
    | false => rw [if_neg (by simp)]; simp
    | true =>
      rw [if_pos rfl]
      cases p with
      | none =>
        have : pre = [] := hp0.1 rfl
        subst this
        rw [if_neg (by simp)]
        simp
      | some q =>
        obtain ⟨pre0, rfl⟩ := hp1 q rfl
        have hw2 : wrap64 (((pre0 ++ [q]).length : Int) - 1) = (pre0.length : Int) := by rw [wrap_small (by simp) (by simp at hl ⊢; omega)]; simp
        have hrd : rd_T38 (pre0 ++ [q] ++ x :: rest) (pre0.length : Int) = q := by rw [List.append_assoc]; exact rd_mid pre0 _ q
        rw [if_pos (by simp; first | done | omega), hw2, if_pos (by omega), if_pos (by simp; omega), hrd]
        show (if Op.bytesLess (kOf q) (kOf x) = true then _ else _) = _
        by_cases hlt : kOf q < kOf x
        · rw [if_pos ((less_iff _ _).2 hlt)]; simp [hlt]
        · rw [if_neg (fun e => hlt ((less_iff _ _).1 e))]; simp [hlt]
theorem ref_sorted_f (k : Nat) (l : List S38) (hk : l.length + 2000 < k) (hl : l.length ≤ 1000000) : garnerref10_Sorted.f k l = some (sortedB l) := by
  have := sorted_r l [] k none (by simp) (by simp) hk (by simpa using hl)
  simpa [garnerref10_Sorted.f, sortedB] using this
end Go.Proofs.Ytgoidimipchejaa.Tr
