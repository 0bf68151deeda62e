/- Layer 10: what the document's functions tell, in plain words; no program here. -/
import Derived.Test.YtgoidimipchejaaTrL
import Derived.Test.YtgoidimipchejaaPTx2
import Derived.Test.YtgoidimipchejaaPTx3
import Derived.Test.YtgoidimipchejaaPTx5
namespace Go.Proofs.Ytgoidimipchejaa.Tr
open Go.RowKit Go.Proofs.Ytgoidimipchejaa.PT Go.Proofs.YtgoidimipchejaaW.PrintWords
set_option linter.unusedVariables false
set_option linter.unusedSimpArgs false

theorem rd_mid (pre rest : List S38) (y : S38) : rd_T38 (pre ++ y :: rest) (pre.length : Int) = y := by
  simp [rd_T38]
theorem rdb_mid (pre rest : List Int) (y : Int) : rd (pre ++ y :: rest) (pre.length : Int) = y := by
  simp [rd]
theorem wrap_small {n : Int} (h0 : -9223372036854775808 ≤ n) (h1 : n ≤ 9223372036854775807) : wrap64 n = n := by unfold wrap64; omega
theorem wrap_succ (n : Nat) (h : n ≤ 1000000000000) : wrap64 ((n : Int) + 1) = ((n + 1 : Nat) : Int) := by
  unfold wrap64; omega
theorem append_one {α : Type} (pre rest : List α) (y : α) : pre ++ y :: rest = (pre ++ [y]) ++ rest := by simp
theorem len_one {α : Type} (pre : List α) (y : α) : (pre ++ [y]).length = pre.length + 1 := by simp

/-! ### bytes alike -/
theorem same_l0 : ∀ (rest pre : List Int) (k : Nat), rest.length < k → (pre ++ rest).length ≤ 1000000 → garnerref02_same.l0 k (pre ++ rest) (pre ++ rest) (pre.length : Int) = some true
  | [], pre, k + 1, _, _ => by simp [garnerref02_same.l0]
  | y :: rest, pre, k + 1, hk, hl => by
    have hk' : rest.length < k := by simpa using hk
    have ih := same_l0 rest (pre ++ [y]) k hk' (by simpa using hl)
    rw [← append_one, len_one] at ih
    simp only [garnerref02_same.l0]
    have h1 : (pre.length : Int) < ((pre ++ y :: rest).length : Int) := by simp; omega
    rw [if_pos h1, if_pos (by omega), if_pos h1, if_pos trivial, wrap_succ _ (by simp at hl; omega)]
    exact ih
theorem same_f (k : Nat) (l : List Int) (h : l.length < k) (hl : l.length ≤ 1000000) : garnerref02_same.f k l l = some true := by
  unfold garnerref02_same.f
  rw [if_pos rfl]
  exact same_l0 l [] k h hl
theorem ref05_same (k : Nat) (a : Bool) (l : List Int) (b c d e : Int) (h : l.length < k) (hl : l.length ≤ 1000000) : garnerref05_Same.f k a l b c d e a l b c d e = some true := by
  unfold garnerref05_Same.f garnerref02_Bytes.f
  rw [same_f k l h hl]
  simp
/-- One's word on S38s. -/
def oneF (k : Nat) (x y : S38) : Option Bool := garnerref10_One.f k x.f0 x.f1 x.f2.f0 x.f2.f1 x.f2.f2.f0 x.f2.f2.f1 x.f2.f2.f2 x.f2.f2.f3 y.f0 y.f1 y.f2.f0 y.f2.f1 y.f2.f2.f0 y.f2.f2.f1 y.f2.f2.f2 y.f2.f2.f3
theorem one_self (k : Nat) (x : S38) (h : x.f2.f1.length < k) (hl : x.f2.f1.length ≤ 1000000) : oneF k x x = some true := by
  unfold oneF garnerref10_One.f
  rw [ref05_same k _ _ _ _ _ _ h hl]
  simp
/-! ### which items there may be -/
def mayF (k : Nat) (x : S38) : Option Bool := garnerref10_May.f k x.f0 x.f1 x.f2.f0 x.f2.f1 x.f2.f2.f0 x.f2.f2.f1 x.f2.f2.f2 x.f2.f2.f3
def chkF (x : S38) : Option Int := tree_Check.f x.f0 x.f1 x.f2.f0 x.f2.f1 x.f2.f2.f0 x.f2.f2.f1 x.f2.f2.f2 x.f2.f2.f3
theorem strOf_nil (l : List Int) : ((strOfNums l).toList == (strOfNums ([] : List Int)).toList) = decide (l = []) := by
  cases l with
  | nil => simp
  | cons x l =>
    simp only [reduceCtorEq, decide_false]
    rw [beq_eq_false_iff_ne]
    intro h
    have := congrArg List.length h
    simp [strOfNums] at this
def mayB (x : S38) : Bool := decide (chkF x = some 0)
def CellOk (far : Bool) (l : List Int) (a b c d : Int) : Prop :=
  if far = true then l.length = 0 ∧ 1 ≤ a ∧ a ≤ 2147483647 ∧ 0 ≤ b ∧ b ≤ 2147483647 ∧ 0 ≤ c ∧ c ≤ 4096 else l.length ≤ 32 ∧ a = 0 ∧ b = 0 ∧ c = 0 ∧ d = 0
theorem all_zero (a b c d : Int) : (a == 0 && (b == 0 && (c == 0 && (d == 0)))) = decide (a = 0 ∧ b = 0 ∧ c = 0 ∧ d = 0) := by
  by_cases e : a = 0 ∧ b = 0 ∧ c = 0 ∧ d = 0
  · rw [decide_eq_true e]
    obtain ⟨rfl, rfl, rfl, rfl⟩ := e
    rfl
  · rw [decide_eq_false e, Bool.eq_false_iff]
    intro k
    simp only [Bool.and_eq_true, beq_iff_eq] at k
    exact e k
theorem some_zero (a b c d : Int) : (!(a == 0) || (!(b == 0) || (!(c == 0) || (!(d == 0))))) = !decide (a = 0 ∧ b = 0 ∧ c = 0 ∧ d = 0) := by
  rw [← all_zero]
  simp only [Bool.not_and]
theorem cell_yes {far : Bool} {l : List Int} {a b c d : Int} (h : CellOk far l a b c d) : cell_Check.f far l a b c d = some 0 ∧ garnerref05_May.f far l a b c d = some true := by
  unfold CellOk at h
  unfold cell_Check.f garnerref05_May.f point_Check.f garnerref04_May.f
  rw [all_zero, some_zero]
  cases far
  · simp only [Bool.false_eq_true, if_false] at h ⊢
    rw [decide_eq_true h.2]
    refine ⟨?_, ?_⟩
    · split
      · omega
      · rfl
    · split
      · rfl
      · omega
  · simp only [if_true] at h ⊢
    refine ⟨?_, ?_⟩
    · repeat' split
      all_goals first | omega | rfl
    · repeat' split
      all_goals first | omega | (simp; omega)
theorem cell_no {far : Bool} {l : List Int} {a b c d : Int} (h : ¬ CellOk far l a b c d) : cell_Check.f far l a b c d = some 1 ∧ garnerref05_May.f far l a b c d = some false := by
  unfold CellOk at h
  unfold cell_Check.f garnerref05_May.f point_Check.f garnerref04_May.f
  rw [all_zero, some_zero]
  cases far
  · simp only [Bool.false_eq_true, if_false] at h ⊢
    by_cases h2 : l.length ≤ 32
    · have e : ¬ (a = 0 ∧ b = 0 ∧ c = 0 ∧ d = 0) := fun e => h ⟨h2, e⟩
      rw [decide_eq_false e]
      refine ⟨?_, ?_⟩
      · split <;> rfl
      · split <;> rfl
    · refine ⟨?_, ?_⟩
      · split
        · rfl
        · omega
      · split
        · omega
        · rfl
  · simp only [if_true] at h ⊢
    refine ⟨?_, ?_⟩
    · repeat' split
      all_goals first | rfl | omega
    · repeat' split
      all_goals first | rfl | omega | (simp; omega)
theorem cell_same_zero (far : Bool) (l : List Int) (a b c d : Int) (k : Nat) : cell_Same.f far l a b c d false ([] : List Int) 0 0 0 0 = some (decide (far = false ∧ l = [] ∧ a = 0 ∧ b = 0 ∧ c = 0 ∧ d = 0)) ∧ garnerref05_Same.f (k + 1) far l a b c d false ([] : List Int) 0 0 0 0 = some (decide (far = false ∧ l = [] ∧ a = 0 ∧ b = 0 ∧ c = 0 ∧ d = 0)) := by
  unfold cell_Same.f bytes_Equal.f garnerref05_Same.f garnerref02_Bytes.f garnerref02_same.f
  rw [strOf_nil]
  cases far
  · by_cases e : a = 0 ∧ b = 0 ∧ c = 0 ∧ d = 0
    · obtain ⟨rfl, rfl, rfl, rfl⟩ := e
      cases l with
      | nil => simp [garnerref02_same.l0]
      | cons y l => simp; omega
    · have hb : (a == 0 && (b == 0 && (c == 0 && (d == 0)))) = false := by rw [all_zero]; exact decide_eq_false e
      rw [hb]
      have : ¬ (false = false ∧ l = [] ∧ a = 0 ∧ b = 0 ∧ c = 0 ∧ d = 0) := fun k => e k.2.2
      simp [this]
      exact fun _ h1 h2 h3 h4 => e ⟨h1, h2, h3, h4⟩
  · simp
theorem may_check (k : Nat) (x : S38) (hk : 1 ≤ k) : ∃ c, chkF x = some c ∧ mayF k x = some (decide (c = 0)) := by
  obtain ⟨k, rfl⟩ : ∃ j, k = j + 1 := ⟨k - 1, by omega⟩
  obtain ⟨key, dead, far, l, a, b, c, d⟩ := x
  unfold chkF mayF tree_Check.f garnerref10_May.f
  dsimp only
  by_cases h0 : key.toList = ([] : List UInt8)
  · rw [if_pos h0, if_pos h0]; exact ⟨1, rfl, rfl⟩
  rw [if_neg h0, if_neg h0]
  by_cases h1 : (key.size : Int) ≤ 64
  · rw [if_pos h1, if_neg (by omega)]
    rw [(cell_same_zero far l a b c d k).1, (cell_same_zero far l a b c d k).2]
    by_cases hc : CellOk far l a b c d
    · rw [(cell_yes hc).1, (cell_yes hc).2]
      cases dead
      · exact ⟨0, rfl, rfl⟩
      · by_cases hz : far = false ∧ l = [] ∧ a = 0 ∧ b = 0 ∧ c = 0 ∧ d = 0
        · rw [decide_eq_true hz]; exact ⟨0, rfl, rfl⟩
        · rw [decide_eq_false hz]; exact ⟨1, rfl, rfl⟩
    · rw [(cell_no hc).1, (cell_no hc).2]
      cases dead
      · exact ⟨1, rfl, rfl⟩
      · by_cases hz : far = false ∧ l = [] ∧ a = 0 ∧ b = 0 ∧ c = 0 ∧ d = 0
        · rw [decide_eq_true hz]; exact ⟨1, rfl, rfl⟩
        · rw [decide_eq_false hz]; exact ⟨1, rfl, rfl⟩
  · rw [if_neg h1, if_pos (by omega)]; exact ⟨1, rfl, rfl⟩
theorem may_mayB (k : Nat) (x : S38) (hk : 1 ≤ k) : mayF k x = some (mayB x) := by
  obtain ⟨c, h1, h2⟩ := may_check k x hk
  rw [h2]
  unfold mayB
  rw [h1]
  simp

theorem insL_len (l : List S38) (x : S38) : (insL l x).length ≤ l.length + 1 := by
  induction l with
  | nil => simp [insL]
  | cons y l ih =>
    simp only [insL]
    repeat' split
    all_goals simp
    omega
theorem light_l0 : ∀ (n : Nat) (rest pre : List S38) (k : Nat), 101 ≤ pre.length + n → pre.length ≤ 101 → 2 * n + 1 < k → (pre ++ rest).length ≤ 9223372036854775807 →
    ∃ b, garnerlaw10_Light.l0 k (pre ++ rest) (pre.length : Int) = some b ∧ (b = true → (pre ++ rest).length ≤ 100 ∧ ∀ x ∈ rest, x.f0.size ≤ 200 ∧ x.f2.f1.length ≤ 200)
  | n, [], pre, k + 2, hn, hp, hk, hl => ⟨decide (((pre ++ ([] : List S38)).length : Int) ≤ 100), by simp [garnerlaw10_Light.l0, garnerlaw10_Light.j1], fun h => ⟨by have := of_decide_eq_true h; omega, by simp⟩⟩
  | n, y :: rest, pre, k + 2, hn, hp, hk, hl => by
    have h1 : (pre.length : Int) < ((pre ++ y :: rest).length : Int) := by simp; omega
    have h0 : (0 : Int) ≤ (pre.length : Int) := by omega
    have hw : wrap64 ((pre.length : Int) + 1) = ((pre.length + 1 : Nat) : Int) := wrap_succ _ (by omega)
    simp only [garnerlaw10_Light.l0, garnerlaw10_Light.j1]
    rw [if_pos h1]
    simp only [rd_mid, h0, h1, hw, if_true]
    by_cases hm : (pre.length : Int) ≤ 100
    · rw [if_pos (decide_eq_true hm)]
      obtain ⟨n, rfl⟩ : ∃ m, n = m + 1 := ⟨n - 1, by omega⟩
      obtain ⟨b, hb1, hb2⟩ := light_l0 n rest (pre ++ [y]) k (by simp; omega) (by simp; omega) (by omega) (by simpa using hl)
      simp only [← append_one, len_one] at hb1 hb2
      by_cases c1 : (y.f0.size : Int) > 200
      · rw [if_pos c1]; exact ⟨false, rfl, by simp⟩
      · rw [if_neg c1]
        by_cases c2 : (y.f2.f1.length : Int) > 200
        · rw [if_pos c2]; exact ⟨false, rfl, by simp⟩
        · rw [if_neg c2]
          refine ⟨b, hb1, fun h => ?_⟩
          obtain ⟨h3, h4⟩ := hb2 h
          refine ⟨h3, fun x hx => ?_⟩
          rcases List.mem_cons.1 hx with rfl | hx
          · omega
          · exact h4 x hx
    · rw [if_neg (by simpa using hm)]
      refine ⟨_, rfl, fun h => ?_⟩
      have := of_decide_eq_true h
      omega
theorem light_f (l : List S38) (k : Nat) (hk : 300 ≤ k) (hl : l.length ≤ 9223372036854775807) : ∃ b, garnerlaw10_Light.f k l = some b ∧ (b = true → l.length ≤ 100 ∧ ∀ x ∈ l, x.f0.size ≤ 200 ∧ x.f2.f1.length ≤ 200) := by
  have := light_l0 101 l [] k (by simp) (by simp) (by omega) (by simpa using hl)
  simpa [garnerlaw10_Light.f] using this
/-- In order, behind an item (or none). -/
def sortedFrom : Option S38 → List S38 → Bool
  | _, [] => true
  | p, x :: l => mayB x && ((match p with | none => true | some q => decide (kOf q < kOf x)) && sortedFrom (some x) l)
def sortedB (l : List S38) : Bool := sortedFrom none l
theorem check_code (x : S38) : ∃ r : Int, chkF x = some r ∧ (r = 0 ↔ mayB x = true) := by
  obtain ⟨r, hr, _⟩ := may_check 1 x (by omega)
  have hr' : chkF x = some r := hr
  exact ⟨r, hr', by unfold mayB; rw [hr']; simp⟩
theorem sorted_ord : ∀ (l : List S38) (p : Option S38), sortedFrom p l = true → Ord l ∧ (∀ x ∈ l, mayB x = true) ∧ ∀ q, p = some q → ∀ x ∈ l, kOf q < kOf x
  | [], p, _ => ⟨by simp [Ord], by simp, by simp⟩
  | x :: l, p, h => by
    simp only [sortedFrom, Bool.and_eq_true] at h
    obtain ⟨h1, h2, h3⟩ := h
    obtain ⟨i1, i2, i3⟩ := sorted_ord l (some x) h3
    refine ⟨List.pairwise_cons.2 ⟨i3 x rfl, i1⟩, fun y hy => (List.mem_cons.1 hy).elim (fun e => by rw [e]; exact h1) (i2 y), fun q hq y hy => ?_⟩
    subst hq
    have hqx : kOf q < kOf x := by simpa using h2
    exact (List.mem_cons.1 hy).elim (fun e => by rw [e]; exact hqx) (fun hy => k_trans hqx (i3 x rfl y hy))
end Go.Proofs.Ytgoidimipchejaa.Tr
