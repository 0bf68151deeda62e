/- Layer 10: what the document's functions tell, in plain words; no program here. -/
import Derived.Test.YtgoidimipchejaaTrL
import Derived.Test.YtgoidimipchejaaPTx2
import Derived.Test.YtgoidimipchejaaPTx3
import Derived.Test.YtgoidimipchejaaPTx5
import Derived.Test.YtgoidimipchejaaPTx6
import Derived.Test.YtgoidimipchejaaPTx7
namespace Go.Proofs.Ytgoidimipchejaa.Tr
open Go.RowKit Go.Proofs.Ytgoidimipchejaa.PT Go.Proofs.YtgoidimipchejaaW.PrintWords
set_option linter.unusedVariables false
set_option linter.unusedSimpArgs false

theorem rd_mid (pre rest : List S38) (y : S38) : rd_T38 (pre ++ y :: rest) (pre.length : Int) = y := by
  simp [rd_T38]
theorem rdb_mid (pre rest : List Int) (y : Int) : rd (pre ++ y :: rest) (pre.length : Int) = y := by
  simp [rd]
theorem wrap_small {n : Int} (h0 : -9223372036854775808 ≤ n) (h1 : n ≤ 9223372036854775807) : wrap64 n = n := by unfold wrap64; omega
theorem wrap_succ (n : Nat) (h : n ≤ 1000000000000) : wrap64 ((n : Int) + 1) = ((n + 1 : Nat) : Int) := by
  unfold wrap64; omega
theorem append_one {α : Type} (pre rest : List α) (y : α) : pre ++ y :: rest = (pre ++ [y]) ++ rest := by simp
theorem len_one {α : Type} (pre : List α) (y : α) : (pre ++ [y]).length = pre.length + 1 := by simp

/-! ### bytes alike -/
theorem same_l0 : ∀ (rest pre : List Int) (k : Nat), rest.length < k → (pre ++ rest).length ≤ 1000000 → garnerref02_same.l0 k (pre ++ rest) (pre ++ rest) (pre.length : Int) = some true
  | [], pre, k + 1, _, _ => by simp [garnerref02_same.l0]
  | y :: rest, pre, k + 1, hk, hl => by
    have hk' : rest.length < k := by simpa using hk
    have ih := same_l0 rest (pre ++ [y]) k hk' (by simpa using hl)
    rw [← append_one, len_one] at ih
    simp only [garnerref02_same.l0]
    have h1 : (pre.length : Int) < ((pre ++ y :: rest).length : Int) := by simp; omega
    rw [if_pos h1, if_pos (by omega), if_pos h1, if_pos trivial, wrap_succ _ (by simp at hl; omega)]
    exact ih
theorem same_f (k : Nat) (l : List Int) (h : l.length < k) (hl : l.length ≤ 1000000) : garnerref02_same.f k l l = some true := by
  unfold garnerref02_same.f
  rw [if_pos rfl]
  exact same_l0 l [] k h hl
theorem ref05_same (k : Nat) (a : Bool) (l : List Int) (b c d e : Int) (h : l.length < k) (hl : l.length ≤ 1000000) : garnerref05_Same.f k a l b c d e a l b c d e = some true := by
  unfold garnerref05_Same.f garnerref02_Bytes.f
  rw [same_f k l h hl]
  simp
/-- One's word on S38s. -/
def oneF (k : Nat) (x y : S38) : Option Bool := garnerref10_One.f k x.f0 x.f1 x.f2.f0 x.f2.f1 x.f2.f2.f0 x.f2.f2.f1 x.f2.f2.f2 x.f2.f2.f3 y.f0 y.f1 y.f2.f0 y.f2.f1 y.f2.f2.f0 y.f2.f2.f1 y.f2.f2.f2 y.f2.f2.f3
theorem one_self (k : Nat) (x : S38) (h : x.f2.f1.length < k) (hl : x.f2.f1.length ≤ 1000000) : oneF k x x = some true := by
  unfold oneF garnerref10_One.f
  rw [ref05_same k _ _ _ _ _ _ h hl]
  simp
theorem Same_l0 : ∀ (rest pre : List S38) (k : Nat), rest.length + 1000 < k → (pre ++ rest).length ≤ 1000000 → (∀ x ∈ rest, x.f2.f1.length ≤ 900) → garnerref10_Same.l0 k (pre ++ rest) (pre ++ rest) (pre.length : Int) = some true
  | [], pre, k + 1, _, _, _ => by simp [garnerref10_Same.l0]
  | y :: rest, pre, k + 1, hk, hl, hx => by
    have hk' : rest.length + 1000 < k := by simp at hk; omega
    have ih := Same_l0 rest (pre ++ [y]) k hk' (by simpa using hl) (fun x hxx => hx x (by simp [hxx]))
    rw [← append_one, len_one] at ih
    have hy := hx y (by simp)
    simp only [garnerref10_Same.l0]
    have h1 : (pre.length : Int) < ((pre ++ y :: rest).length : Int) := by simp; omega
    rw [if_pos h1, if_pos (by omega), if_pos h1, rd_mid]
    have h2 := one_self k y (by omega) (by omega)
    unfold oneF at h2
    rw [h2, Option.bind_some, if_pos rfl, wrap_succ _ (by simp at hl; omega)]
    exact ih
theorem Same_f (k : Nat) (l : List S38) (h : l.length + 1000 < k) (hl : l.length ≤ 1000000) (hx : ∀ x ∈ l, x.f2.f1.length ≤ 900) : garnerref10_Same.f k l l = some true := by
  unfold garnerref10_Same.f
  rw [if_pos rfl]
  exact Same_l0 l [] k h hl hx

/-! ### which items there may be -/
def mayF (k : Nat) (x : S38) : Option Bool := garnerref10_May.f k x.f0 x.f1 x.f2.f0 x.f2.f1 x.f2.f2.f0 x.f2.f2.f1 x.f2.f2.f2 x.f2.f2.f3
def chkF (x : S38) : Option Int := tree_Check.f x.f0 x.f1 x.f2.f0 x.f2.f1 x.f2.f2.f0 x.f2.f2.f1 x.f2.f2.f2 x.f2.f2.f3
theorem strOf_nil (l : List Int) : ((strOfNums l).toList == (strOfNums ([] : List Int)).toList) = decide (l = []) := by
  cases l with
  | nil => simp
  | cons x l =>
    simp only [reduceCtorEq, decide_false]
    rw [beq_eq_false_iff_ne]
    intro h
    have := congrArg List.length h
    simp [strOfNums] at this
def mayB (x : S38) : Bool := decide (chkF x = some 0)
def CellOk (far : Bool) (l : List Int) (a b c d : Int) : Prop :=
  if far = true then l.length = 0 ∧ 1 ≤ a ∧ a ≤ 2147483647 ∧ 0 ≤ b ∧ b ≤ 2147483647 ∧ 0 ≤ c ∧ c ≤ 4096 else l.length ≤ 32 ∧ a = 0 ∧ b = 0 ∧ c = 0 ∧ d = 0
theorem all_zero (a b c d : Int) : (a == 0 && (b == 0 && (c == 0 && (d == 0)))) = decide (a = 0 ∧ b = 0 ∧ c = 0 ∧ d = 0) := by
  by_cases e : a = 0 ∧ b = 0 ∧ c = 0 ∧ d = 0
  · rw [decide_eq_true e]
    obtain ⟨rfl, rfl, rfl, rfl⟩ := e
    rfl
  · rw [decide_eq_false e, Bool.eq_false_iff]
    intro k
    simp only [Bool.and_eq_true, beq_iff_eq] at k
    exact e k
theorem some_zero (a b c d : Int) : (!(a == 0) || (!(b == 0) || (!(c == 0) || (!(d == 0))))) = !decide (a = 0 ∧ b = 0 ∧ c = 0 ∧ d = 0) := by
  rw [← all_zero]
  simp only [Bool.not_and]
theorem cell_yes {far : Bool} {l : List Int} {a b c d : Int} (h : CellOk far l a b c d) : cell_Check.f far l a b c d = some 0 ∧ garnerref05_May.f far l a b c d = some true := by
  unfold CellOk at h
  unfold cell_Check.f garnerref05_May.f point_Check.f garnerref04_May.f
  rw [all_zero, some_zero]
  cases far
  · simp only [Bool.false_eq_true, if_false] at h ⊢
    rw [decide_eq_true h.2]
    refine ⟨?_, ?_⟩
    · split
      · omega
      · rfl
    · split
      · rfl
      · omega
  · simp only [if_true] at h ⊢
    refine ⟨?_, ?_⟩
    · repeat' split
      all_goals first | omega | rfl
    · repeat' split
      all_goals first | omega | (simp; omega)
theorem cell_no {far : Bool} {l : List Int} {a b c d : Int} (h : ¬ CellOk far l a b c d) : cell_Check.f far l a b c d = some 1 ∧ garnerref05_May.f far l a b c d = some false := by
  unfold CellOk at h
  unfold cell_Check.f garnerref05_May.f point_Check.f garnerref04_May.f
  rw [all_zero, some_zero]
  cases far
  · simp only [Bool.false_eq_true, if_false] at h ⊢
    by_cases h2 : l.length ≤ 32
    · have e : ¬ (a = 0 ∧ b = 0 ∧ c = 0 ∧ d = 0) := fun e => h ⟨h2, e⟩
      rw [decide_eq_false e]
      refine ⟨?_, ?_⟩
      · split <;> rfl
      · split <;> rfl
    · refine ⟨?_, ?_⟩
      · split
        · rfl
        · omega
      · split
        · omega
        · rfl
  · simp only [if_true] at h ⊢
    refine ⟨?_, ?_⟩
    · repeat' split
      all_goals first | rfl | omega
    · repeat' split
      all_goals first | rfl | omega | (simp; omega)
theorem cell_same_zero (far : Bool) (l : List Int) (a b c d : Int) (k : Nat) : cell_Same.f far l a b c d false ([] : List Int) 0 0 0 0 = some (decide (far = false ∧ l = [] ∧ a = 0 ∧ b = 0 ∧ c = 0 ∧ d = 0)) ∧ garnerref05_Same.f (k + 1) far l a b c d false ([] : List Int) 0 0 0 0 = some (decide (far = false ∧ l = [] ∧ a = 0 ∧ b = 0 ∧ c = 0 ∧ d = 0)) := by
  unfold cell_Same.f bytes_Equal.f garnerref05_Same.f garnerref02_Bytes.f garnerref02_same.f
  rw [strOf_nil]
  cases far
  · by_cases e : a = 0 ∧ b = 0 ∧ c = 0 ∧ d = 0
    · obtain ⟨rfl, rfl, rfl, rfl⟩ := e
      cases l with
      | nil => simp [garnerref02_same.l0]
      | cons y l => simp; omega
    · have hb : (a == 0 && (b == 0 && (c == 0 && (d == 0)))) = false := by rw [all_zero]; exact decide_eq_false e
      rw [hb]
      have : ¬ (false = false ∧ l = [] ∧ a = 0 ∧ b = 0 ∧ c = 0 ∧ d = 0) := fun k => e k.2.2
      simp [this]
      exact fun _ h1 h2 h3 h4 => e ⟨h1, h2, h3, h4⟩
  · simp
theorem may_check (k : Nat) (x : S38) (hk : 1 ≤ k) : ∃ c, chkF x = some c ∧ mayF k x = some (decide (c = 0)) := by
  obtain ⟨k, rfl⟩ : ∃ j, k = j + 1 := ⟨k - 1, by omega⟩
  obtain ⟨key, dead, far, l, a, b, c, d⟩ := x
  unfold chkF mayF tree_Check.f garnerref10_May.f
  dsimp only
  by_cases h0 : key.toList = ([] : List UInt8)
  · rw [if_pos h0, if_pos h0]; exact ⟨1, rfl, rfl⟩
  rw [if_neg h0, if_neg h0]
  by_cases h1 : (key.size : Int) ≤ 64
  · rw [if_pos h1, if_neg (by omega)]
    rw [(cell_same_zero far l a b c d k).1, (cell_same_zero far l a b c d k).2]
    by_cases hc : CellOk far l a b c d
    · rw [(cell_yes hc).1, (cell_yes hc).2]
      cases dead
      · exact ⟨0, rfl, rfl⟩
      · by_cases hz : far = false ∧ l = [] ∧ a = 0 ∧ b = 0 ∧ c = 0 ∧ d = 0
        · rw [decide_eq_true hz]; exact ⟨0, rfl, rfl⟩
        · rw [decide_eq_false hz]; exact ⟨1, rfl, rfl⟩
    · rw [(cell_no hc).1, (cell_no hc).2]
      cases dead
      · exact ⟨1, rfl, rfl⟩
      · by_cases hz : far = false ∧ l = [] ∧ a = 0 ∧ b = 0 ∧ c = 0 ∧ d = 0
        · rw [decide_eq_true hz]; exact ⟨1, rfl, rfl⟩
        · rw [decide_eq_false hz]; exact ⟨1, rfl, rfl⟩
  · rw [if_neg h1, if_pos (by omega)]; exact ⟨1, rfl, rfl⟩
theorem may_mayB (k : Nat) (x : S38) (hk : 1 ≤ k) : mayF k x = some (mayB x) := by
  obtain ⟨c, h1, h2⟩ := may_check k x hk
  rw [h2]
  unfold mayB
  rw [h1]
  simp

/-! ### putting into a list, as the document does it -/
def putL : Bool → List S38 → S38 → List S38
  | done, [], x => if done = true then [] else [x]
  | done, y :: l, x =>
    if done = true then (if kOf y = kOf x then putL true l x else y :: putL true l x)
    else if Op.bytesLess (kOf y) (kOf x) = true then (if kOf y = kOf x then putL false l x else y :: putL false l x)
    else x :: (if kOf y = kOf x then putL true l x else y :: putL true l x)
def putF (k : Nat) (l acc : List S38) (done : Bool) (i : Int) (x : S38) : Option (List S38) := garnerref10_Put.l0 k l acc done i x.f0 x.f1 x.f2.f0 x.f2.f1 x.f2.f2.f0 x.f2.f2.f1 x.f2.f2.f2 x.f2.f2.f3
theorem put_l0 : ∀ (rest pre acc : List S38) (done : Bool) (x : S38) (k : Nat), 2 * rest.length < k → (pre ++ rest).length ≤ 1000000 → acc.length + 2 * rest.length ≤ 1000000 → putF k (pre ++ rest) acc done (pre.length : Int) x = some (acc ++ putL done rest x)
  | [], pre, acc, done, x, k + 1, _, _, ha => by
    unfold putF
    simp only [garnerref10_Put.l0]
    rw [if_neg (by simp)]
    cases done
    · rw [if_neg (by simp), if_pos (by simp at ha; omega)]
      simp [putL]
    · rw [if_pos rfl]; simp [putL]
  | y :: rest, pre, acc, done, x, k + 2, hk, hl, ha => by
    have hk' : 2 * rest.length < k := by simp at hk; omega
    have ih := fun acc done (h : acc.length + 2 * rest.length ≤ 1000000) => put_l0 rest (pre ++ [y]) acc done x k hk' (by simpa using hl) h
    simp only [← append_one, len_one] at ih
    simp only [putF] at ih ⊢
    simp only [List.length_cons] at ha
    have h1 : (pre.length : Int) < ((pre ++ y :: rest).length : Int) := by simp; omega
    have h0 : (0 : Int) ≤ (pre.length : Int) := by omega
    have hw : wrap64 ((pre.length : Int) + 1) = ((pre.length + 1 : Nat) : Int) := wrap_succ _ (by simp at hl; omega)
    have c1 : acc.length < 1599289640401 := by omega
    have c2 : (acc ++ [x]).length < 1599289640401 := by simp; omega
    have tail : ∀ (acc' : List S38) (done' : Bool), acc'.length + 2 * rest.length + 1 ≤ 1000000 → (if (kOf y) = (kOf x) then (garnerref10_Put.l0 k (pre ++ y :: rest) acc' done' (wrap64 ((pre.length : Int) + 1)) x.f0 x.f1 x.f2.f0 x.f2.f1 x.f2.f2.f0 x.f2.f2.f1 x.f2.f2.f2 x.f2.f2.f3) else (if acc'.length < 1599289640401 then (garnerref10_Put.l0 k (pre ++ y :: rest) (acc' ++ [y]) done' (wrap64 ((pre.length : Int) + 1)) x.f0 x.f1 x.f2.f0 x.f2.f1 x.f2.f2.f0 x.f2.f2.f1 x.f2.f2.f2 x.f2.f2.f3) else none)) = some (acc' ++ (if kOf y = kOf x then putL done' rest x else y :: putL done' rest x)) := by
      intro acc' done' hacc
      by_cases e : kOf y = kOf x
      · rw [if_pos e, if_pos e, hw]
        exact ih acc' done' (by omega)
      · rw [if_neg e, if_neg e, if_pos (by omega), hw, ih (acc' ++ [y]) done' (by simp; omega)]
        simp
    simp only [garnerref10_Put.l0, garnerref10_Put.j1]
    rw [if_pos h1]
    simp only [rd_mid, h0, h1, if_true]
    cases done
    · simp only [Bool.false_eq_true, if_false]
      cases hb : Op.bytesLess y.f0.toList x.f0.toList with
      | true =>
        simp only [Bool.not_true, Bool.false_eq_true, if_false]
        have e1 : putL false (y :: rest) x = if kOf y = kOf x then putL false rest x else y :: putL false rest x := by
          simp only [putL]
          rw [if_neg (by simp), if_pos (show Op.bytesLess (kOf y) (kOf x) = true from hb)]
        rw [e1]
        exact tail acc false (by omega)
      | false =>
        simp only [Bool.not_false, if_true, Option.bind_some]
        have e1 : putL false (y :: rest) x = x :: if kOf y = kOf x then putL true rest x else y :: putL true rest x := by
          simp only [putL]
          rw [if_neg (by simp), if_neg (show ¬ Op.bytesLess (kOf y) (kOf x) = true from by rw [show Op.bytesLess (kOf y) (kOf x) = false from hb]; simp)]
        rw [e1, if_pos c1]
        exact (tail (acc ++ [x]) true (by simp; omega)).trans (by simp)
    · simp only [if_true, Bool.false_eq_true, if_false]
      have e1 : putL true (y :: rest) x = if kOf y = kOf x then putL true rest x else y :: putL true rest x := by
        simp only [putL]
        rw [if_pos trivial]
      rw [e1]
      exact tail acc true (by omega)
theorem putL_true : ∀ (l : List S38) (x : S38), (∀ z ∈ l, kOf x < kOf z) → putL true l x = l
  | [], x, _ => rfl
  | y :: l, x, h => by
    simp only [putL]
    rw [if_pos trivial, if_neg (fun e => by have := h y (by simp); rw [e] at this; exact k_irr _ this), putL_true l x fun z hz => h z (by simp [hz])]
theorem putL_insL : ∀ (l : List S38) (x : S38), Ord l → putL false l x = insL l x
  | [], x, _ => rfl
  | y :: l, x, h => by
    obtain ⟨h1, h2⟩ := List.pairwise_cons.1 h
    have ih := putL_insL l x h2
    simp only [putL, insL]
    rw [if_neg (by simp)]
    by_cases e : kOf x = kOf y
    · rw [if_pos e, if_neg (fun k => k_irr _ (by have := (less_iff _ _).1 k; rwa [e] at this)), if_pos e.symm, putL_true l x (fun z hz => by rw [e]; exact h1 z hz)]
    · rw [if_neg e]
      by_cases lt : kOf x < kOf y
      · rw [if_pos lt, if_neg (fun k => k_asymm lt ((less_iff _ _).1 k)), if_neg (fun k => e k.symm), putL_true l x (fun z hz => k_trans lt (h1 z hz))]
      · have gt : kOf y < kOf x := (k_tri (kOf x) (kOf y)).elim (fun h => absurd h lt) (fun h => h.elim (fun h => absurd h e) id)
        rw [if_neg lt, if_pos ((less_iff _ _).2 gt), if_neg (fun k => e k.symm), ih]
theorem insL_len (l : List S38) (x : S38) : (insL l x).length ≤ l.length + 1 := by
  induction l with
  | nil => simp [insL]
  | cons y l ih =>
    simp only [insL]
    repeat' split
    all_goals simp
    omega
/-- Items put one behind the other, those that may be. -/
def allFrom (acc : List S38) (l : List S38) : List S38 := l.foldl (fun out x => if mayB x = true then insL out x else out) acc
def allL (l : List S38) : List S38 := allFrom [] l
theorem allFrom_cons (acc : List S38) (x : S38) (l : List S38) : allFrom acc (x :: l) = allFrom (if mayB x = true then insL acc x else acc) l := rfl
theorem all_l0 : ∀ (rest pre acc : List S38) (k : Nat), Ord acc → rest.length + 4000 < k → (pre ++ rest).length ≤ 1000 → acc.length + rest.length ≤ 1000 → garnerref10_All.l0 k (pre ++ rest) acc (pre.length : Int) = some (allFrom acc rest)
  | [], pre, acc, k + 1, _, _, _, _ => by simp [garnerref10_All.l0, allFrom]
  | y :: rest, pre, acc, k + 1, ho, hk, hl, ha => by
    simp only [List.length_cons] at hk ha
    have ih := fun acc (h : Ord acc) (h2 : acc.length + rest.length ≤ 1000) => all_l0 rest (pre ++ [y]) acc k h (by omega) (by simpa using hl) h2
    simp only [← append_one, len_one] at ih
    have h1 : (pre.length : Int) < ((pre ++ y :: rest).length : Int) := by simp; omega
    have hw : wrap64 ((pre.length : Int) + 1) = ((pre.length + 1 : Nat) : Int) := wrap_succ _ (by simp at hl; omega)
    simp only [garnerref10_All.l0]
    rw [if_pos h1, if_pos (by omega), rd_mid]
    have hm := may_mayB k y (by omega)
    unfold mayF at hm
    rw [hm, Option.bind_some, allFrom_cons, hw]
    by_cases hb : mayB y = true
    · rw [if_pos hb, if_pos hb]
      have hp := put_l0 acc [] [] false y k (by omega) (by simp; omega) (by simp; omega)
      simp only [List.nil_append, putF] at hp
      unfold garnerref10_Put.f
      rw [show ((([] : List S38).length : Nat) : Int) = 0 from rfl] at hp
      rw [hp, Option.bind_some, putL_insL acc y ho]
      exact ih _ (insL_ord acc y ho) (by have := insL_len acc y; omega)
    · rw [if_neg hb, if_neg hb]
      exact ih acc ho (by omega)
theorem all_f (l : List S38) (k : Nat) (hk : l.length + 4000 < k) (hl : l.length ≤ 1000) : garnerref10_All.f k l = some (allL l) :=
  all_l0 l [] [] k (by simp [Ord]) hk (by simpa using hl) (by simpa using hl)
theorem allFrom_ord : ∀ (l acc : List S38), Ord acc → Ord (allFrom acc l)
  | [], acc, h => h
  | x :: l, acc, h => by
    rw [allFrom_cons]
    split
    · exact allFrom_ord l _ (insL_ord acc x h)
    · exact allFrom_ord l _ h
theorem allFrom_mem : ∀ (l acc : List S38) (z : S38), z ∈ allFrom acc l → z ∈ acc ∨ z ∈ l
  | [], acc, z, h => .inl h
  | x :: l, acc, z, h => by
    rw [allFrom_cons] at h
    rcases allFrom_mem l _ z h with h | h
    · split at h
      · rcases insL_mem _ _ _ h with h | h
        · exact .inr (by simp [h])
        · exact .inl h
      · exact .inl h
    · exact .inr (by simp [h])
theorem allFrom_len : ∀ (l acc : List S38), (allFrom acc l).length ≤ acc.length + l.length
  | [], acc => by simp [allFrom]
  | x :: l, acc => by
    rw [allFrom_cons]
    have := allFrom_len l (if mayB x = true then insL acc x else acc)
    have h2 := insL_len acc x
    simp only [List.length_cons]
    split at this <;> rename_i hb <;> simp only [hb, if_true, if_false] <;> first | omega | (simp; omega)

/-! ### weights, keys' items, ranges, lightness -/
def wtL : List S38 → Nat
  | [] => 0
  | x :: l => wN x + wtL l
theorem weight_l0 : ∀ (rest pre : List S38) (acc k : Nat), rest.length < k → (pre ++ rest).length ≤ 1000000 → acc + wtL rest ≤ 1000000000000 → garnerref10_Weight.l0 k (pre ++ rest) (acc : Int) (pre.length : Int) = some ((acc + wtL rest : Nat) : Int)
  | [], pre, acc, k + 1, _, _, _ => by simp [garnerref10_Weight.l0, wtL]
  | y :: rest, pre, acc, k + 1, hk, hl, ha => by
    simp only [List.length_cons] at hk
    simp only [wtL] at ha ⊢
    have ih := weight_l0 rest (pre ++ [y]) (acc + wN y) k (by omega) (by simpa using hl) (by omega)
    simp only [← append_one, len_one] at ih
    have h1 : (pre.length : Int) < ((pre ++ y :: rest).length : Int) := by simp; omega
    have hw : wrap64 ((pre.length : Int) + 1) = ((pre.length + 1 : Nat) : Int) := wrap_succ _ (by simp at hl; omega)
    simp only [garnerref10_Weight.l0]
    rw [if_pos h1, if_pos (by omega), rd_mid, hw]
    have e : wrap64 (wrap64 (wrap64 ((acc : Int) + (y.f0.size : Int)) + 16) + (y.f2.f1.length : Int)) = ((acc + wN y : Nat) : Int) := by
      unfold wN at ha ⊢
      rw [wrap_small (n := (acc : Int) + (y.f0.size : Int)) (by omega) (by omega), wrap_small (n := (acc : Int) + (y.f0.size : Int) + 16) (by omega) (by omega), wrap_small (by omega) (by omega)]
      omega
    rw [e, ih, Nat.add_assoc]
theorem weight_f (l : List S38) (k : Nat) (hk : l.length < k) (hl : l.length ≤ 1000000) (hw : wtL l ≤ 1000000000000) : garnerref10_Weight.f k l = some (wtL l : Int) := by
  have := weight_l0 l [] 0 k hk (by simpa using hl) (by simpa using hw)
  simpa [garnerref10_Weight.f] using this
def tup (x : S38) : ByteArray × Bool × Bool × List Int × Int × Int × Int × Int := (x.f0, x.f1, x.f2.f0, x.f2.f1, x.f2.f2.f0, x.f2.f2.f1, x.f2.f2.f2, x.f2.f2.f3)
theorem get_l0 : ∀ (rest pre : List S38) (key : ByteArray) (k : Nat), rest.length < k → (pre ++ rest).length ≤ 1000000 → garnerref10_Get.l0 k (pre ++ rest) key (pre.length : Int) = some (tup ((getL rest key.toList).getD zeroS))
  | [], pre, key, k + 1, _, _ => by simp [garnerref10_Get.l0, getL, tup, zeroS]
  | y :: rest, pre, key, k + 1, hk, hl => by
    simp only [List.length_cons] at hk
    have ih := get_l0 rest (pre ++ [y]) key k (by omega) (by simpa using hl)
    simp only [← append_one, len_one] at ih
    have h1 : (pre.length : Int) < ((pre ++ y :: rest).length : Int) := by simp; omega
    have hw : wrap64 ((pre.length : Int) + 1) = ((pre.length + 1 : Nat) : Int) := wrap_succ _ (by simp at hl; omega)
    simp only [garnerref10_Get.l0]
    rw [if_pos h1, if_pos (by omega), rd_mid, hw]
    by_cases e : kOf y = key.toList
    · rw [if_pos (show y.f0.toList = key.toList from e)]
      have : getL (y :: rest) key.toList = some y := by simp [getL, e]
      rw [this]; rfl
    · rw [if_neg (show ¬ y.f0.toList = key.toList from e), ih]
      have : getL (y :: rest) key.toList = getL rest key.toList := by simp [getL, e]
      rw [this]
theorem get_f (l : List S38) (key : ByteArray) (k : Nat) (hk : l.length < k) (hl : l.length ≤ 1000000) : garnerref10_Get.f k l key = some (tup ((getL l key.toList).getD zeroS)) := by
  have := get_l0 l [] key k hk (by simpa using hl)
  simpa [garnerref10_Get.f] using this
theorem scan_l0 : ∀ (rest pre acc : List S38) (lo hi : ByteArray) (most : Int) (k : Nat), 2 * rest.length + 1 < k → (pre ++ rest).length ≤ 1000000 → acc.length + rest.length ≤ 1000000 →
    garnerref10_Scan.l0 k (pre ++ rest) lo hi most acc (pre.length : Int) = some (acc ++ (rest.filter (inR lo hi)).take (most - acc.length).toNat)
  | [], pre, acc, lo, hi, most, k + 2, _, _, _ => by simp [garnerref10_Scan.l0, garnerref10_Scan.j1]
  | y :: rest, pre, acc, lo, hi, most, k + 2, hk, hl, ha => by
    simp only [List.length_cons] at hk ha
    have ih := fun acc (h : acc.length + rest.length ≤ 1000000) => scan_l0 rest (pre ++ [y]) acc lo hi most k (by omega) (by simpa using hl) h
    simp only [← append_one, len_one] at ih
    have h1 : (pre.length : Int) < ((pre ++ y :: rest).length : Int) := by simp; omega
    have h0 : (0 : Int) ≤ (pre.length : Int) := by omega
    have hw : wrap64 ((pre.length : Int) + 1) = ((pre.length + 1 : Nat) : Int) := wrap_succ _ (by simp at hl; omega)
    have c1 : acc.length < 1599289640401 := by omega
    simp only [garnerref10_Scan.l0, garnerref10_Scan.j1]
    rw [if_pos h1]
    simp only [rd_mid, h0, h1, hw, if_true]
    by_cases hm : (acc.length : Int) < most
    · rw [if_pos (decide_eq_true hm)]
      have go : (acc ++ [y]).length + rest.length ≤ 1000000 := by simp; omega
      have e1 : (most - (acc.length : Int)).toNat = (most - ((acc ++ [y]).length : Int)).toNat + 1 := by simp; omega
      cases hq : Op.bytesLess y.f0.toList lo.toList with
      | true =>
        rw [if_pos rfl, ih acc (by omega), List.filter_cons_of_neg (by simp [inR, hq])]
      | false =>
        rw [if_neg (by simp)]
        by_cases hh : hi.toList = ([] : List UInt8)
        · have hin : inR lo hi y = true := by simp [inR, inHi, hq, hh]
          rw [if_pos hh, if_pos c1, List.filter_cons_of_pos hin, e1, List.take_succ_cons]
          exact (ih (acc ++ [y]) go).trans (by simp)
        · rw [if_neg hh]
          cases hx : Op.bytesLess y.f0.toList hi.toList with
          | true =>
            have hin : inR lo hi y = true := by simp [inR, inHi, hq, hx]
            rw [if_pos rfl, if_pos c1, List.filter_cons_of_pos hin, e1, List.take_succ_cons]
            exact (ih (acc ++ [y]) go).trans (by simp)
          | false =>
            rw [if_neg (by simp), ih acc (by omega), List.filter_cons_of_neg (by simp [inR, inHi, hq, hx, hh])]
    · rw [if_neg (by simpa using hm), show (most - acc.length).toNat = 0 by omega]
      simp
theorem scan_f (l : List S38) (lo hi : ByteArray) (most : Int) (k : Nat) (hk : 2 * l.length + 1 < k) (hl : l.length ≤ 1000000) : garnerref10_Scan.f k l lo hi most = some ((l.filter (inR lo hi)).take most.toNat) := by
  have := scan_l0 l [] [] lo hi most k hk (by simpa using hl) (by simpa using hl)
  simpa [garnerref10_Scan.f] using this
theorem light_l0 : ∀ (n : Nat) (rest pre : List S38) (k : Nat), 101 ≤ pre.length + n → pre.length ≤ 101 → 2 * n + 1 < k → (pre ++ rest).length ≤ 9223372036854775807 →
    ∃ b, garnerlaw10_Light.l0 k (pre ++ rest) (pre.length : Int) = some b ∧ (b = true → (pre ++ rest).length ≤ 100 ∧ ∀ x ∈ rest, x.f0.size ≤ 200 ∧ x.f2.f1.length ≤ 200)
  | n, [], pre, k + 2, hn, hp, hk, hl => ⟨decide (((pre ++ ([] : List S38)).length : Int) ≤ 100), by simp [garnerlaw10_Light.l0, garnerlaw10_Light.j1], fun h => ⟨by have := of_decide_eq_true h; omega, by simp⟩⟩
  | n, y :: rest, pre, k + 2, hn, hp, hk, hl => by
    have h1 : (pre.length : Int) < ((pre ++ y :: rest).length : Int) := by simp; omega
    have h0 : (0 : Int) ≤ (pre.length : Int) := by omega
    have hw : wrap64 ((pre.length : Int) + 1) = ((pre.length + 1 : Nat) : Int) := wrap_succ _ (by omega)
    simp only [garnerlaw10_Light.l0, garnerlaw10_Light.j1]
    rw [if_pos h1]
    simp only [rd_mid, h0, h1, hw, if_true]
    by_cases hm : (pre.length : Int) ≤ 100
    · rw [if_pos (decide_eq_true hm)]
      obtain ⟨n, rfl⟩ : ∃ m, n = m + 1 := ⟨n - 1, by omega⟩
      obtain ⟨b, hb1, hb2⟩ := light_l0 n rest (pre ++ [y]) k (by simp; omega) (by simp; omega) (by omega) (by simpa using hl)
      simp only [← append_one, len_one] at hb1 hb2
      by_cases c1 : (y.f0.size : Int) > 200
      · rw [if_pos c1]; exact ⟨false, rfl, by simp⟩
      · rw [if_neg c1]
        by_cases c2 : (y.f2.f1.length : Int) > 200
        · rw [if_pos c2]; exact ⟨false, rfl, by simp⟩
        · rw [if_neg c2]
          refine ⟨b, hb1, fun h => ?_⟩
          obtain ⟨h3, h4⟩ := hb2 h
          refine ⟨h3, fun x hx => ?_⟩
          rcases List.mem_cons.1 hx with rfl | hx
          · omega
          · exact h4 x hx
    · rw [if_neg (by simpa using hm)]
      refine ⟨_, rfl, fun h => ?_⟩
      have := of_decide_eq_true h
      omega
theorem light_f (l : List S38) (k : Nat) (hk : 300 ≤ k) (hl : l.length ≤ 9223372036854775807) : ∃ b, garnerlaw10_Light.f k l = some b ∧ (b = true → l.length ≤ 100 ∧ ∀ x ∈ l, x.f0.size ≤ 200 ∧ x.f2.f1.length ≤ 200) := by
  have := light_l0 101 l [] k (by simp) (by simp) (by omega) (by simpa using hl)
  simpa [garnerlaw10_Light.f] using this
end Go.Proofs.Ytgoidimipchejaa.Tr
