/- Layer 14: the statement MergeScans: its plain values, merge.Scan and merge.Get by contract, the walk; no condition beyond what a value's form says. -/
import Derived.Test.YtgoidimipchejaaTrQ
import Derived.Test.YtgoidimipchejaaPTx12
import Derived.Test.YtgoidimipchejaaPTx10
import Derived.Test.YtgoidimipchejaaPTx16
import Derived.Test.YtgoidimipchejaaMgJ
import Derived.Test.YtgoidimipchejaaMgI
import Derived.Test.YtgoidimipchejaaMgPa
import Derived.Deep.RegionHeld3
import Derived.Test.YtgoidimipchejaaTrV
import Derived.Test.YtgoidimipchejaaMgG
import Derived.Deep.Slices
import Derived.ChangeSame
import Derived.Lib.SmallJoins
import Derived.ProofKit
import Derived.ChangeOld
import Derived.OpenShut
namespace Go.Proofs.Ytgoidimipchejaa.Tr
open Go.RowKit Go.Proofs.Ytgoidimipchejaa.PT Go.Proofs.YtgoidimipchejaaW.PrintWords
set_option linter.unusedVariables false
set_option linter.unusedSimpArgs false

theorem scan_l0 : ∀ (rest pre acc : List S38) (lo hi : ByteArray) (most : Int) (k : Nat), 2 * rest.length + 1 < k → (pre ++ rest).length ≤ 1000000 → acc.length + rest.length ≤ 1000000 →
    garnerref10_Scan.l0 k (pre ++ rest) lo hi most acc (pre.length : Int) = some (acc ++ (rest.filter (inR lo hi)).take (most - acc.length).toNat)
  | [], pre, acc, lo, hi, most, k + 2, _, _, _ => by simp [garnerref10_Scan.l0, garnerref10_Scan.j1]
  | y :: rest, pre, acc, lo, hi, most, k + 2, hk, hl, ha => by
    simp only [List.length_cons] at hk ha
    have ih := fun acc (h : acc.length + rest.length ≤ 1000000) => scan_l0 rest (pre ++ [y]) acc lo hi most k (by omega) (by simpa using hl) h
    simp only [← append_one, len_one] at ih
    have h1 : (pre.length : Int) < ((pre ++ y :: rest).length : Int) := by simp; omega
    have h0 : (0 : Int) ≤ (pre.length : Int) := by omega
    have hw : wrap64 ((pre.length : Int) + 1) = ((pre.length + 1 : Nat) : Int) := wrap_succ _ (by simp at hl; omega)
    have c1 : acc.length < 1599289640401 := by omega
    simp only [garnerref10_Scan.l0, garnerref10_Scan.j1]
    rw [if_pos h1]
    simp only [rd_mid, h0, h1, hw, if_true]
    by_cases hm : (acc.length : Int) < most
    · rw [if_pos (decide_eq_true hm)]
      have go : (acc ++ [y]).length + rest.length ≤ 1000000 := by simp; omega
      have e1 : (most - (acc.length : Int)).toNat = (most - ((acc ++ [y]).length : Int)).toNat + 1 := by simp; omega
      cases hq : Op.bytesLess y.f0.toList lo.toList with
      | true =>
        rw [if_pos rfl, ih acc (by omega), List.filter_cons_of_neg (by simp [inR, hq])]
      | false =>
        rw [if_neg (by simp)]
        by_cases hh : hi.toList = ([] : List UInt8)
        · have hin : inR lo hi y = true := by simp [inR, inHi, hq, hh]
          rw [if_pos hh, if_pos c1, List.filter_cons_of_pos hin, e1, List.take_succ_cons]
          exact (ih (acc ++ [y]) go).trans (by simp)
        · rw [if_neg hh]
          cases hx : Op.bytesLess y.f0.toList hi.toList with
          | true =>
            have hin : inR lo hi y = true := by simp [inR, inHi, hq, hx]
            rw [if_pos rfl, if_pos c1, List.filter_cons_of_pos hin, e1, List.take_succ_cons]
            exact (ih (acc ++ [y]) go).trans (by simp)
          | false =>
            rw [if_neg (by simp), ih acc (by omega), List.filter_cons_of_neg (by simp [inR, inHi, hq, hx, hh])]
    · rw [if_neg (by simpa using hm), show (most - acc.length).toNat = 0 by omega]
      simp
theorem scan_f (l : List S38) (lo hi : ByteArray) (most : Int) (k : Nat) (hk : 2 * l.length + 1 < k) (hl : l.length ≤ 1000000) : garnerref10_Scan.f k l lo hi most = some ((l.filter (inR lo hi)).take most.toNat) := by
  have := scan_l0 l [] [] lo hi most k hk (by simpa using hl) (by simpa using hl)
  simpa [garnerref10_Scan.f] using this
end Go.Proofs.Ytgoidimipchejaa.Tr
namespace Go.Proofs.Ytgoidimipchejaa.Tr
open Go.RowKit Go.Proofs.Ytgoidimipchejaa.PT Go.Proofs.YtgoidimipchejaaW.PrintWords
set_option linter.unusedVariables false
set_option linter.unusedSimpArgs false

def tup (x : S38) : ByteArray × Bool × Bool × List Int × Int × Int × Int × Int := (x.f0, x.f1, x.f2.f0, x.f2.f1, x.f2.f2.f0, x.f2.f2.f1, x.f2.f2.f2, x.f2.f2.f3)
theorem get_l0 : ∀ (rest pre : List S38) (key : ByteArray) (k : Nat), rest.length < k → (pre ++ rest).length ≤ 1000000 → garnerref10_Get.l0 k (pre ++ rest) key (pre.length : Int) = some (tup ((getL rest key.toList).getD zeroS))
  | [], pre, key, k + 1, _, _ => by simp [garnerref10_Get.l0, getL, tup, zeroS]
  | y :: rest, pre, key, k + 1, hk, hl => by
    simp only [List.length_cons] at hk
    have ih := get_l0 rest (pre ++ [y]) key k (by omega) (by simpa using hl)
    simp only [← append_one, len_one] at ih
    have h1 : (pre.length : Int) < ((pre ++ y :: rest).length : Int) := by simp; omega
    have hw : wrap64 ((pre.length : Int) + 1) = ((pre.length + 1 : Nat) : Int) := wrap_succ _ (by simp at hl; omega)
    simp only [garnerref10_Get.l0]
    rw [if_pos h1, if_pos (by omega), rd_mid, hw]
    by_cases e : kOf y = key.toList
    · rw [if_pos (show y.f0.toList = key.toList from e)]
      have : getL (y :: rest) key.toList = some y := by simp [getL, e]
      rw [this]; rfl
    · rw [if_neg (show ¬ y.f0.toList = key.toList from e), ih]
      have : getL (y :: rest) key.toList = getL rest key.toList := by simp [getL, e]
      rw [this]
theorem get_f (l : List S38) (key : ByteArray) (k : Nat) (hk : l.length < k) (hl : l.length ≤ 1000000) : garnerref10_Get.f k l key = some (tup ((getL l key.toList).getD zeroS)) := by
  have := get_l0 l [] key k hk (by simpa using hl)
  simpa [garnerref10_Get.f] using this
end Go.Proofs.Ytgoidimipchejaa.Tr
namespace Go.Proofs.Ytgoidimipchejaa.Tr
open Go.RowKit Go.Proofs.Ytgoidimipchejaa.PT Go.Proofs.YtgoidimipchejaaW.PrintWords
set_option linter.unusedVariables false
set_option linter.unusedSimpArgs false

theorem Same_l0 : ∀ (rest pre : List S38) (k : Nat), rest.length + 1000 < k → (pre ++ rest).length ≤ 1000000 → (∀ x ∈ rest, x.f2.f1.length ≤ 900) → garnerref10_Same.l0 k (pre ++ rest) (pre ++ rest) (pre.length : Int) = some true
  | [], pre, k + 1, _, _, _ => by simp [garnerref10_Same.l0]
  | y :: rest, pre, k + 1, hk, hl, hx => by
    have hk' : rest.length + 1000 < k := by simp at hk; omega
    have ih := Same_l0 rest (pre ++ [y]) k hk' (by simpa using hl) (fun x hxx => hx x (by simp [hxx]))
    rw [← append_one, len_one] at ih
    have hy := hx y (by simp)
    simp only [garnerref10_Same.l0]
    have h1 : (pre.length : Int) < ((pre ++ y :: rest).length : Int) := by simp; omega
    rw [if_pos h1, if_pos (by omega), if_pos h1, rd_mid]
    have h2 := one_self k y (by omega) (by omega)
    unfold oneF at h2
    rw [h2, Option.bind_some, if_pos rfl, wrap_succ _ (by simp at hl; omega)]
    exact ih
theorem Same_f (k : Nat) (l : List S38) (h : l.length + 1000 < k) (hl : l.length ≤ 1000000) (hx : ∀ x ∈ l, x.f2.f1.length ≤ 900) : garnerref10_Same.f k l l = some true := by
  unfold garnerref10_Same.f
  rw [if_pos rfl]
  exact Same_l0 l [] k h hl hx

/-! ### alike -/
theorem same_l0g : ∀ (a b pre pre' : List Int) (k : Nat), a.length = b.length → pre.length = pre'.length → a.length < k → (pre ++ a).length ≤ 1000000 → garnerref02_same.l0 k (pre ++ a) (pre' ++ b) (pre.length : Int) = some (decide (a = b))
  | [], [], pre, pre', k + 1, _, _, _, _ => by simp [garnerref02_same.l0]
  | x :: a, y :: b, pre, pre', k + 1, hab, hp, hk, hl => by
    have hk' : a.length < k := by simpa using hk
    have hab' : a.length = b.length := by simpa using hab
    have ih := same_l0g a b (pre ++ [x]) (pre' ++ [y]) k hab' (by simp [hp]) hk' (by simpa using hl)
    rw [← append_one, ← append_one, len_one] at ih
    simp only [garnerref02_same.l0]
    have h1 : (pre.length : Int) < ((pre ++ x :: a).length : Int) := by simp; omega
    have h2 : (pre.length : Int) < ((pre' ++ y :: b).length : Int) := by simp; omega
    have r2 : rd (pre' ++ y :: b) (pre.length : Int) = y := by rw [hp]; exact rdb_mid pre' b y
    rw [if_pos h1, if_pos (by omega), if_pos h2, rdb_mid, r2]
    by_cases e : x = y
    · rw [if_pos e, wrap_succ _ (by simp at hl; omega), ih]
      simp [e]
    · rw [if_neg e]
      simp [e]
theorem same_fg (k : Nat) (a b : List Int) (h : a.length < k) (hl : a.length ≤ 1000000) : garnerref02_same.f k a b = some (decide (a = b)) := by
  unfold garnerref02_same.f
  by_cases e : a.length = b.length
  · rw [if_pos (by omega)]
    exact same_l0g a b [] [] k e rfl h hl
  · rw [if_neg (by omega), decide_eq_false (fun h => e (by rw [h]))]
/-- Are two items alike? -/
def sameI (x y : S38) : Bool := decide (kOf x = kOf y) && (x.f1 == y.f1 && (x.f2.f0 == y.f2.f0 && ((x.f2.f2.f0 == y.f2.f2.f0 && (x.f2.f2.f1 == y.f2.f2.f1 && (x.f2.f2.f2 == y.f2.f2.f2 && x.f2.f2.f3 == y.f2.f2.f3))) && decide (x.f2.f1 = y.f2.f1))))
theorem sameI_refl (x : S38) : sameI x x = true := by simp [sameI]
theorem one_fg (k : Nat) (x y : S38) (h : x.f2.f1.length < k) (hl : x.f2.f1.length ≤ 1000000) : oneF k x y = some (sameI x y) := by
  unfold oneF garnerref10_One.f garnerref05_Same.f garnerref02_Bytes.f sameI kOf
  rw [same_fg k _ _ h hl]
  by_cases e : x.f0.toList = y.f0.toList
  · rw [if_pos e, decide_eq_true e]
    cases hb : (x.f1 == y.f1)
    · simp
    · cases hc : (x.f2.f0 == y.f2.f0)
      · simp
      · cases hd : (x.f2.f2.f0 == y.f2.f2.f0 && (x.f2.f2.f1 == y.f2.f2.f1 && (x.f2.f2.f2 == y.f2.f2.f2 && x.f2.f2.f3 == y.f2.f2.f3)))
        · simp
        · simp
  · rw [if_neg e, decide_eq_false e]
    simp
def sameL : List S38 → List S38 → Bool
  | [], [] => true
  | x :: a, y :: b => sameI x y && sameL a b
  | _, _ => false
theorem sameL_len : ∀ (a b : List S38), ¬ a.length = b.length → sameL a b = false
  | [], [], h => absurd rfl h
  | [], _ :: _, _ => rfl
  | _ :: _, [], _ => rfl
  | x :: a, y :: b, h => by
    simp only [sameL]
    rw [sameL_len a b (fun e => h (by simp [e]))]
    simp
theorem sameL_refl : ∀ a : List S38, sameL a a = true
  | [] => rfl
  | x :: a => by simp [sameL, sameI_refl, sameL_refl a]
theorem Same_l0g : ∀ (a b pre pre' : List S38) (k : Nat), a.length = b.length → pre.length = pre'.length → a.length + 1000 < k → (pre ++ a).length ≤ 1000000 → (∀ x ∈ a, x.f2.f1.length ≤ 900) → garnerref10_Same.l0 k (pre ++ a) (pre' ++ b) (pre.length : Int) = some (sameL a b)
  | [], [], pre, pre', k + 1, _, _, _, _, _ => by simp [garnerref10_Same.l0, sameL]
  | x :: a, y :: b, pre, pre', k + 1, hab, hp, hk, hl, hx => by
    have hk' : a.length + 1000 < k := by simp at hk; omega
    have hab' : a.length = b.length := by simpa using hab
    have ih := Same_l0g a b (pre ++ [x]) (pre' ++ [y]) k hab' (by simp [hp]) hk' (by simpa using hl) (fun z hz => hx z (by simp [hz]))
    rw [← append_one, ← append_one, len_one] at ih
    have hxx := hx x (by simp)
    simp only [garnerref10_Same.l0]
    have h1 : (pre.length : Int) < ((pre ++ x :: a).length : Int) := by simp; omega
    have h2 : (pre.length : Int) < ((pre' ++ y :: b).length : Int) := by simp; omega
    have r2 : rd_T38 (pre' ++ y :: b) (pre.length : Int) = y := by rw [hp]; exact rd_mid pre' b y
    rw [if_pos h1, if_pos (by omega), if_pos h2, rd_mid, r2]
    have h3 := one_fg k x y (by omega) (by omega)
    unfold oneF at h3
    rw [h3, Option.bind_some, wrap_succ _ (by simp at hl; omega)]
    simp only [sameL]
    cases sameI x y
    · rw [if_neg (by simp)]; simp
    · rw [if_pos rfl, ih]; simp
theorem Same_fg (k : Nat) (a b : List S38) (h : a.length + 1000 < k) (hl : a.length ≤ 1000000) (hx : ∀ x ∈ a, x.f2.f1.length ≤ 900) : garnerref10_Same.f k a b = some (sameL a b) := by
  unfold garnerref10_Same.f
  by_cases e : a.length = b.length
  · rw [if_pos (by omega)]
    exact Same_l0g a b [] [] k e rfl h hl hx
  · rw [if_neg (by omega), sameL_len a b e]

/-! ### bytes as the program holds them -/
end Go.Proofs.Ytgoidimipchejaa.Tr
namespace Go.Proofs.Ytgoidimipchejaa.Mg
open Go.RowKit Go.Proofs.Ytgoidimipchejaa.PT Go.Proofs.Ytgoidimipchejaa.Tr Go.Proofs.YtgoidimipchejaaW.PrintWords Go.Proofs.YtgoidimipchejaaW.PrintLast Go.Proofs.YtgoidimipchejaaW.PrintMore
set_option linter.unusedVariables false
set_option linter.unusedSimpArgs false
attribute [local go_sem ↓] Go.wp_at_zero Go.wp_at_succ

/-- What a range's items are, some of them told. -/
def scanR (lo hi : ByteArray) (most : Int) (out L : List S38) : List S38 := out ++ ((selL true L).filter (inR lo hi)).take (most - (out.length : Int)).toNat
theorem scanR_nil (lo hi : ByteArray) (most : Int) (out : List S38) : scanR lo hi most out [] = out := by simp [scanR, selL]
theorem scanR_full {lo hi : ByteArray} {most : Int} {out : List S38} (L : List S38) (h : ¬ (out.length : Int) < most) : scanR lo hi most out L = out := by
  unfold scanR
  rw [show (most - (out.length : Int)).toNat = 0 by omega]
  simp
theorem inHi_gt {hi : ByteArray} {x y : S38} (h0 : (hi.toList == ([] : List UInt8)) = false) (h1 : Op.bytesLess x.f0.toList hi.toList = false) (h : kOf x = kOf y ∨ kOf x < kOf y) : inHi y hi = false := by
  unfold inHi
  rw [h0, Bool.false_or]
  rw [less_not] at h1 ⊢
  intro k
  rcases h with h | h
  · exact h1 (by rw [show x.f0.toList = y.f0.toList from h]; exact k)
  · exact h1 (k_trans h k)
theorem scanR_hi {lo hi : ByteArray} {most : Int} {out : List S38} {x : S38} {L : List S38} (h0 : (hi.toList == ([] : List UInt8)) = false) (h1 : Op.bytesLess x.f0.toList hi.toList = false) (ho : Tr.Ord (x :: L)) : scanR lo hi most out (x :: L) = out := by
  have e : (selL true (x :: L)).filter (inR lo hi) = [] := by
    rw [List.filter_eq_nil_iff]
    intro y hy
    have hm := (List.mem_filter.1 hy).1
    have hk : kOf x = kOf y ∨ kOf x < kOf y := by
      rcases List.mem_cons.1 hm with rfl | hm
      · exact .inl rfl
      · exact .inr ((List.pairwise_cons.1 ho).1 y hm)
    unfold inR
    rw [inHi_gt h0 h1 hk]
    simp
  unfold scanR
  rw [e]
  simp
theorem scanR_skip {lo hi : ByteArray} {most : Int} {out : List S38} {x : S38} {L : List S38} (h : Op.bytesLess x.f0.toList lo.toList = true ∨ x.f1 = true) : scanR lo hi most out (x :: L) = scanR lo hi most out L := by
  unfold scanR selL
  rcases h with h | h
  · cases hd : x.f1
    · rw [List.filter_cons_of_pos (by simp [hd]), List.filter_cons_of_neg (by simp [inR, h])]
    · rw [List.filter_cons_of_neg (by simp [hd])]
  · rw [List.filter_cons_of_neg (by simp [h])]
theorem scanR_take {lo hi : ByteArray} {most : Int} {out : List S38} {x : S38} {L : List S38} (h1 : Op.bytesLess x.f0.toList lo.toList = false) (h2 : x.f1 = false) (h3 : inHi x hi = true) (h4 : (out.length : Int) < most) : scanR lo hi most out (x :: L) = scanR lo hi most (out ++ [x]) L := by
  unfold scanR selL
  rw [List.filter_cons_of_pos (by simp [h2]), List.filter_cons_of_pos (by simp [inR, h1, h3]), show (most - (out.length : Int)).toNat = (most - ((out ++ [x]).length : Int)).toNat + 1 by simp; omega, List.take_succ_cons]
  simp
theorem scanR_le (lo hi : ByteArray) (most : Int) (out L : List S38) : (scanR lo hi most out L).length ≤ out.length + L.length := by
  unfold scanR
  rw [List.length_append]
  have h1 := List.length_take_le' ((most - (out.length : Int)).toNat) ((selL true L).filter (inR lo hi))
  have h2 := List.length_filter_le (inR lo hi) (selL true L)
  have h3 := sel_le true L
  omega
structure ScanAt (w wr : World) (Bd H : Nat) (lo hi : ByteArray) (most : Int) (R : List S38) (ls' : List (List S38)) (out : List S38) (A : Option Addr) (c : Nat) (cur : Option S38) (B B0 : Nat) (A' : Option Addr) (c' kq : Nat) : Prop where
  st : St wr w.heap.size Bd H ls'
  row : Kd.N k38 38 wr w.heap.size (fun k => Bd ≤ k ∧ k < B0 ∧ k ≠ B) (.slice A out.length c) out
  item : wr.heap[B]? = some (.cells (itemCells (cur.getD zeroS) A' c') 38 (0, 0))
  cap : (cur.getD zeroS).f2.f1.length ≤ c'
  bytes : Kd.F (Kd.int .u8) wr (fun k => B0 ≤ k ∧ k ≠ B) A' (cur.getD zeroS).f2.f1.length (cur.getD zeroS).f2.f1
  sum : scanR lo hi most out (cur.toList ++ mergeL ls') = R
  ord : Tr.Ord (cur.toList ++ mergeL ls')
  lenR : out.length ≤ 100000000
  left : (cur.toList ++ mergeL ls').length ≤ kq
  sumlen : out.length + (cur.toList ++ mergeL ls').length ≤ 100000000
  done : cur = none → mergeL ls' = []
  small : SmallLs ls'
  at1 : Bd ≤ B ∧ B < wr.heap.size
  at0 : Bd ≤ B0 ∧ B0 ≤ wr.heap.size
  below : Below w.heap.size w wr
theorem scan_go {lo hi : ByteArray} {most : Int} {out : List S38} {x : S38} {L : List S38} (hin : inHi x hi = true) (h4 : (out.length : Int) < most) :
    (Op.bytesLess x.f0.toList lo.toList = true ∧ scanR lo hi most out (x :: L) = scanR lo hi most out L) ∨ (Op.bytesLess x.f0.toList lo.toList = false ∧ x.f1 = true ∧ scanR lo hi most out (x :: L) = scanR lo hi most out L) ∨ (Op.bytesLess x.f0.toList lo.toList = false ∧ x.f1 = false ∧ scanR lo hi most out (x :: L) = scanR lo hi most (out ++ [x]) L) := by
  cases h : Op.bytesLess x.f0.toList lo.toList with
  | true => exact .inl ⟨rfl, scanR_skip (.inl h)⟩
  | false =>
    cases hd : x.f1 with
    | true => exact .inr (.inl ⟨rfl, rfl, scanR_skip (.inr hd)⟩)
    | false => exact .inr (.inr ⟨rfl, rfl, scanR_take h hd hin h4⟩)
set_option maxHeartbeats 4000000 in
set_option maxRecDepth 100000 in
theorem scan_yes (A0 : Option Addr) (c0 : Nat) (ls : List (List S38)) (lo hi : ByteArray) (most : Int) (w : World) (hC : Kd.C kL w A0 ls.length ls) (hc : ls.length ≤ c0) (hl : LiteLs ls) (h1 : decide (100 < (ls.length : Int)) = false) (hs : allSorted ls = true) (hsm : SmallLs ls) (hM : (mergeL ls).length ≤ 100000000) (hO : Tr.Ord (mergeL ls)) :
    Calls Try.prog 37 #[.slice A0 ls.length c0, .string lo, .string hi, .int .i64 most] w fun e w' => ∃ vo, e = .returned (.tuple #[vo, .int .i64 0]) ∧ Kd.N k38 38 w' w.heap.size (fun k => w.heap.size ≤ k) vo (scanR lo hi most [] (mergeL ls)) ∧ Below w.heap.size w w' := by
  have H := Lib.hid (begin_st A0 c0 ls w hC hc hl h1 hs)
  have HSM := Lib.hid hsm
  have HM := Lib.hid hM
  have HO := Lib.hid hO
  generalize hR : scanR lo hi most [] (mergeL ls) = R
  have HR := Lib.hid hR
  clear hC hl hs hsm hM hO hR
  go_enter Try.func37, Try.ntmps37
  go_wp2_with (first
    | (go_at_call 15; refine H.out.mono ?_; rintro e w1 ⟨HH, rfl, hS1, hb1⟩; have HS1 := Lib.hid hS1; have HB1 := Lib.hid hb1; have hsz1 := hb1.size; generalize hBd : w1.heap.size = Bd at HS1; have HBD := Lib.hid hBd; clear hS1 hb1 hBd)
    | (go_at_call 17; refine (next_q _ w.heap.size Bd HH ls HS1.out HSM.out).mono ?_; rintro e w2 ⟨cur, ls', A', c', fr, rfl, ⟨hc2, hF2⟩, hS2, hm2, hn2, _, hsm2, hT2⟩; have HF2 := Lib.hid hF2; have HS2 := Lib.hid hS2; have HM2 := Lib.hid hm2; have HN2 := Lib.hid hn2; have HSM2 := Lib.hid hsm2; have HB2 := Lib.hid (HB1.out.trans (hT2.since (Nat.le_refl _) hsz1)); have hsz2 := hT2.size; unfold itemCells; generalize hy : cur.getD zeroS = y at hc2 HF2 ⊢; have HY := Lib.hid hy; clear hF2 hS2 hm2 hn2 hsm2 hT2 hy))
  have hBd2 : Bd ≤ w2.heap.size := by rw [← HBD.out]; exact hsz2
  have HA : Hid (ScanAt w (w2.alloc (.cells (itemCells y A' c') 38)) Bd HH lo hi most R ls' [] none 0 cur w2.heap.size Bd A' c' (mergeL ls).length) := Lib.hid
    ⟨HS2.out.alloc _, Kd.N_nil _ _ _ _ _, by rw [HY.out]; exact heap_alloc_new w2 _, by rw [HY.out]; exact hc2, by rw [HY.out]; exact Kd.F_alloc (Kd.F_mono (Kd.F_bound HF2.out) (fun k hk => ⟨by rw [← HBD.out]; exact hk.1, by have := hk.2; omega⟩)) _, by rw [← HM2.out]; exact HR.out, by rw [← HM2.out]; exact HO.out, by simp, by rw [← HM2.out]; exact Nat.le_refl _, by rw [← HM2.out]; have := HM.out; simp; omega, fun h => (HN2.out h).1, HSM2.out, ⟨hBd2, by simp⟩, ⟨Nat.le_refl _, by simp; omega⟩, below_alloc HB2.out _⟩
  clear hc2 HF2 HS2 HM2 HN2 HSM2 HB2 HR HO
  unfold itemCells at HA
  generalize (w2.alloc (.cells #[.string y.f0, .bool y.f1, .bool y.f2.f0, .slice A' y.f2.f1.length c', .int .i64 y.f2.f2.f0, .int .i64 y.f2.f2.f1, .int .i64 y.f2.f2.f2, .int .u32 y.f2.f2.f3] 38)) = w3 at HA ⊢
  generalize hB0 : w2.heap.size = B at HA ⊢
  go_loopg [12, 13, 15] (mergeL ls).length (fun kq v8 v9 v11 wr => ∃ (ls' : List (List S38)) (out : List S38) (A : Option Addr) (c : Nat) (cur : Option S38) (B B0 : Nat) (A' : Option Addr) (c' : Nat) (b : Bool), v8 = .slice A out.length c ∧ v9 = .pointer (some ⟨B, 0, none⟩) ∧ v11 = .bool b ∧ Aside0 (cur.isSome = b) ∧ Aside0 (ScanAt w wr Bd HH lo hi most R ls' out A c cur B B0 A' c' kq))
  case atStart => exact ⟨ls', [], none, 0, cur, B, Bd, A', c', _, rfl, rfl, rfl, ⟨rfl⟩, ⟨HA.out⟩⟩
  case round =>
    clear HA HY hB0
    obtain ⟨ls', out, A, c, cur, B, B0, A', c', b, rfl, rfl, rfl, hb, hA⟩ := hrel
    have HA := Lib.hid hA.out
    have HCB := Lib.hid hb.out
    clear hb hA
    have HEND : Hid (out = R → Kd.N k38 38 wr w.heap.size (fun k => w.heap.size ≤ k) (.slice A out.length c) R) := Lib.hid (fun e => by
        rw [← e]
        refine Kd.N_mono HA.out.row (fun k hk => ?_)
        have := hsz1
        rw [HBD.out] at this
        exact Nat.le_trans this hk.1)
    cases b with
    | false =>
      have HRR : Hid (out = R) := Lib.hid (by
        have hcn : cur = none := by
          cases cur with
          | none => rfl
          | some y => exact absurd HCB.out (by simp)
        have h1 := HA.out.sum
        rw [hcn, HA.out.done hcn] at h1
        exact (scanR_nil lo hi most out).symm.trans h1)
      go_wp2
      go_ret2
      exact ⟨_, rfl, HEND.out HRR.out, HA.out.below⟩
    | true =>
      obtain ⟨x, hx⟩ : ∃ x, cur = some x := by
        cases cur with
        | none => exact absurd HCB.out (by simp)
        | some y => exact ⟨y, rfl⟩
      subst hx
      have HIT := Lib.hid HA.out.item
      simp only [Option.getD_some] at HIT
      obtain ⟨d0, d1, d2, d3, d4, d5, d6, d7⟩ := cells8 HIT.out
      have hout : out.length ≤ 100000000 := HA.out.lenR
      have hwB : w.heap.size ≤ Bd := by rw [← HBD.out]; exact hsz1
      have HLT := Lib.hid (lt_of_block HIT.out)
      by_cases hm : (out.length : Int) < most
      case neg =>
        have HRR : Hid (out = R) := Lib.hid ((scanR_full _ hm).symm.trans HA.out.sum)
        have hmd : decide ((out.length : Int) < most) = false := decide_eq_false hm
        clear hm
        go_wp2
        go_ret2
        exact ⟨_, rfl, HEND.out HRR.out, HA.out.below⟩
      have hmd : decide ((out.length : Int) < most) = true := decide_eq_true hm
      have HMD := Lib.hid hm
      clear hm
      have hgo : ((hi.toList == ([] : List UInt8)) = false ∧ Op.bytesLess x.f0.toList hi.toList = false) ∨ ((hi.toList == ([] : List UInt8)) = true ∨ ((hi.toList == ([] : List UInt8)) = false ∧ Op.bytesLess x.f0.toList hi.toList = true)) := by
        cases (hi.toList == ([] : List UInt8)) <;> cases Op.bytesLess x.f0.toList hi.toList <;> simp
      rcases hgo with ⟨hh0, hh1⟩ | hgo
      · have HRR : Hid (out = R) := Lib.hid ((scanR_hi hh0 hh1 HA.out.ord).symm.trans HA.out.sum)
        go_wp2
        go_ret2
        exact ⟨_, rfl, HEND.out HRR.out, HA.out.below⟩
      have HIN : Hid (inHi x hi = true) := Lib.hid (by
        unfold inHi
        rcases hgo with h | ⟨_, h⟩ <;> rw [h] <;> simp)
      clear HEND
      rcases hgo with hh0 | ⟨hh0, hh1⟩
      all_goals (
        go_upto_block 1 with (fail)
        go_cut [12] (fun s8 wx => ∃ (out2 : List S38) (A2 : Option Addr) (c2 : Nat), s8 = .slice A2 out2.length c2 ∧ Aside0 (scanR lo hi most out (x :: mergeL ls') = scanR lo hi most out2 (mergeL ls')) ∧ Aside0 (out2.length ≤ out.length + 1) ∧ Aside0 (Kd.N k38 38 wx w.heap.size (fun k => Bd ≤ k ∧ k ≠ B) (.slice A2 out2.length c2) out2) ∧ Aside0 (∀ k, k < wr.heap.size → k < Bd ∨ k = B → wx.heap[k]? = wr.heap[k]?) ∧ Aside0 (Below w.heap.size w wx) ∧ Aside0 (wr.heap.size ≤ wx.heap.size))
        case first =>
          clear hh0 hmd
          try clear hh1
          have HRW : Hid (Kd.N k38 38 wr w.heap.size (fun k => Bd ≤ k ∧ k ≠ B) (.slice A out.length c) out) := Lib.hid (Kd.N_mono HA.out.row (fun k hk => ⟨hk.1, hk.2.2⟩))
          rcases scan_go (lo := lo) (L := mergeL ls') HIN.out HMD.out with ⟨hq, hsk⟩ | ⟨hq, hf, hsk⟩ | ⟨hq, hf, hsk⟩
          · have HSK := Lib.hid hsk
            clear hsk
            go_wp2_with fail
            go_meet
            exact ⟨out, A, c, rfl, ⟨HSK.out⟩, ⟨by omega⟩, ⟨HRW.out⟩, ⟨fun _ _ _ => rfl⟩, ⟨HA.out.below⟩, ⟨Nat.le_refl _⟩⟩
          · have HSK := Lib.hid hsk
            rw [hf] at d1
            clear hsk hf
            go_wp2_with fail
            go_meet
            exact ⟨out, A, c, rfl, ⟨HSK.out⟩, ⟨by omega⟩, ⟨HRW.out⟩, ⟨fun _ _ _ => rfl⟩, ⟨HA.out.below⟩, ⟨Nat.le_refl _⟩⟩
          · have HSK := Lib.hid hsk
            have HFK : Hid (Kd.FK k38 wr (fun k => B0 ≤ k ∧ k ≠ B) x [.string x.f0, .bool x.f1, .bool x.f2.f0, .slice A' x.f2.f1.length c', .int .i64 x.f2.f2.f0, .int .i64 x.f2.f2.f1, .int .i64 x.f2.f2.f2, .int .u32 x.f2.f2.f3]) := Lib.hid (k38_mkF _ _ x HA.out.cap HA.out.bytes)
            have hB1 := HA.out.at1
            have hB0 := HA.out.at0
            have HR0 := Lib.hid HA.out.row.1
            rw [hf] at d1 HFK
            clear hsk hf
            go_wp2_with (first
              | (at_builtin; refine Kd.N_append (w0 := w) k38 w.heap.size rfl (.tmp 62) (.tmp 64) 29 38 _ _ rfl (by kernel_rfl) info38 rfl (by decide) (by decide) (.slice A out.length c) out x _ (fun k => Bd ≤ k ∧ k ≠ B) (fun k => B0 ≤ k ∧ k ≠ B) rfl rfl HFK.out (fun k hk => ⟨⟨by omega, hk.2⟩, fun e => by have := HR0.out k e.symm; omega⟩) (fun k hk => by omega) HRW.out HA.out.below HA.out.below.size (by omega) ?_; intro v5 w5 hN5 hb5 hg5 _; generalize hZZ : out ++ [x] = ZZ at hN5; have HZZ := Lib.hid hZZ; clear hZZ; obtain ⟨A5, c5, rfl⟩ := Kd.N_slice hN5; have HN5 := Lib.hid hN5; have HB5 := Lib.hid hb5; have HG5 := Lib.hid hg5; clear hN5 hb5 hg5))
            go_meet
            exact ⟨ZZ, A5, c5, rfl, ⟨by rw [← HZZ.out]; exact HSK.out⟩, ⟨by rw [← HZZ.out]; simp⟩, ⟨HN5.out⟩, ⟨fun k hk h => HG5.out.block k hk (fun e => by have := HR0.out k e.symm; omega)⟩, ⟨HB5.out⟩, ⟨HG5.out.size⟩⟩
        case rest =>
          obtain ⟨out2, A2, c2, rfl, ho2, hol2, hN2, hk2, hb2, hs2⟩ := hcut
          have HO2 := Lib.hid ho2.out
          have HOL2 := Lib.hid hol2.out
          have HN2 := Lib.hid hN2.out
          have HB2 := Lib.hid hb2.out
          have hsz3 := hs2.out
          have hB1 := HA.out.at1
          have HST : Hid (St wc w.heap.size Bd HH ls') := Lib.hid (HA.out.st.step hs2.out (fun k hk => hk2.out k (Nat.lt_of_lt_of_le hk HA.out.st.size) (.inl hk)))
          have HIT2 := Lib.hid ((hk2.out B HLT.out (.inr rfl)).trans HIT.out)
          have HSUM := Lib.hid HA.out.sum
          have HORD := Lib.hid HA.out.ord
          have HLEFT := Lib.hid HA.out.left
          have HSL := Lib.hid HA.out.sumlen
          have HSML := Lib.hid HA.out.small
          clear ho2 hol2 hN2 hb2 hk2 hs2 d0 d1 d2 d3 d4 d5 d6 d7 HA HIT hh0 hmd
          try clear hh1
          obtain ⟨d0, d1, d2, d3, d4, d5, d6, d7⟩ := cells8 HIT2.out
          go_wp2_with (first
            | (go_at_call 17; refine (next_q _ w.heap.size Bd HH ls' (HST.out.alloc _) HSML.out).mono ?_; rintro e w6 ⟨cur2, ls2, A6, c6, fr6, rfl, ⟨hc6, hF6⟩, hS6, hm6, hn6, _, hsm6, hT6⟩; have h8 := (hT6.block wc.heap.size (by simp) (fun h => by have := h.2; omega)).trans (heap_alloc_new wc _); obtain ⟨g0, g1, g2, g3, g4, g5, g6, g7⟩ := cells8 h8; have gf := frees h8; have hsz6 : wc.heap.size + 1 ≤ w6.heap.size := (by have := hT6.size; simpa using this); have HN6 : Hid (Kd.N k38 38 w6 w.heap.size (fun k => Bd ≤ k ∧ k < wc.heap.size) (.slice A2 out2.length c2) out2) := Lib.hid (Kd.N_step (Kd.N_alloc (Kd.N_mono (Kd.N_bound HN2.out) (ok' := fun k => Bd ≤ k ∧ k < wc.heap.size) (fun k hk => ⟨hk.1.1, hk.2⟩)) _) (fun k hk hlt => hT6.block k hlt (fun h => by have := h.2; omega))); have HB6 : Hid (Below w.heap.size w w6) := Lib.hid ((below_alloc HB2.out _).trans (hT6.since (Nat.le_refl _) (by simp; omega))); have H8 := Lib.hid h8; have HF6 : Hid (Kd.F (Kd.int .u8) w6 (fun k => wc.heap.size + 1 ≤ k) A6 (cur2.getD zeroS).f2.f1.length (cur2.getD zeroS).f2.f1) := Lib.hid (Kd.F_mono hF6 (fun k hk => by simpa using hk)); have HS6 := Lib.hid hS6; have HM6 := Lib.hid hm6; have HNN6 := Lib.hid hn6; have HSM6 := Lib.hid hsm6; unfold itemCells; generalize hy6 : cur2.getD zeroS = y6 at hc6 HF6 ⊢; have HY6 := Lib.hid hy6; clear hF6 hS6 hm6 hn6 hsm6 hT6 hy6 h8))
          have hst := store8 w6 wc.heap.size H8.out (.string y6.f0) (.bool y6.f1) (.bool y6.f2.f0) (.slice A6 y6.f2.f1.length c6) (.int .i64 y6.f2.f2.f0) (.int .i64 y6.f2.f2.f1) (.int .i64 y6.f2.f2.f2) (.int .u32 y6.f2.f2.f3)
          have hfar := store8_far w6 wc.heap.size (.string y6.f0) (.bool y6.f1) (.bool y6.f2.f0) (.slice A6 y6.f2.f1.length c6) (.int .i64 y6.f2.f2.f0) (.int .i64 y6.f2.f2.f1) (.int .i64 y6.f2.f2.f2) (.int .u32 y6.f2.f2.f3)
          have hleft := HLEFT.out
          have hord := HORD.out
          have hsl := HSL.out
          have hol := HOL2.out
          have hsum : scanR lo hi most out2 (cur2.toList ++ mergeL ls2) = R := by
            rw [← HM6.out, ← HSUM.out]
            exact HO2.out.symm
          rw [HM6.out] at hleft hord hsl
          simp only [Option.toList, List.length_append, List.length_cons, List.length_nil] at hleft hsl
          go_roundg (gk - 1)
          case measure => omega
          case rel => exact ⟨ls2, out2, A2, c2, cur2, wc.heap.size, wc.heap.size + 1, A6, c6, _, rfl, rfl, rfl, ⟨rfl⟩, ⟨
            ⟨HS6.out.step (hst.2 0 (Nat.zero_le _)).size (fun k hk => hfar k (by omega)),
             Kd.N_mono (Kd.N_step HN6.out (fun k hk _ => hfar k (by omega))) (fun k hk => ⟨hk.1, by omega, by omega⟩),
             by rw [HY6.out]; exact hst.1, by rw [HY6.out]; exact hc6,
             by rw [HY6.out]; exact Kd.F_mono (Kd.F_step HF6.out (fun k hk _ => hfar k (by omega))) (fun k hk => ⟨hk, by omega⟩),
             hsum, (List.pairwise_cons.1 hord).2, by omega, by simp only [Option.toList, List.length_append]; omega, by simp only [Option.toList, List.length_append]; omega, fun h => (HNN6.out h).1, HSM6.out,
             ⟨by omega, Nat.lt_of_lt_of_le (by omega) (hst.2 0 (Nat.zero_le _)).size⟩, ⟨by omega, Nat.le_trans hsz6 (hst.2 0 (Nat.zero_le _)).size⟩,
             HB6.out.trans (hst.2 w.heap.size (by omega))⟩⟩⟩)
end Go.Proofs.Ytgoidimipchejaa.Mg
namespace Go.Proofs.Ytgoidimipchejaa.Mg
open Go.RowKit Go.Proofs.Ytgoidimipchejaa.PT Go.Proofs.Ytgoidimipchejaa.Tr Go.Proofs.YtgoidimipchejaaW.PrintWords Go.Proofs.YtgoidimipchejaaW.PrintLast Go.Proofs.YtgoidimipchejaaW.PrintMore
set_option linter.unusedVariables false
set_option linter.unusedSimpArgs false
attribute [local go_sem ↓] Go.wp_at_zero Go.wp_at_succ

/-- What Get tells of a key's item. -/
def GetQ (w : World) (o : Option S38) (e : Ending) (w' : World) : Prop :=
  ∃ A' c', e = .returned (.tuple #[.agg (itemCells (o.getD zeroS) A' c'), .bool o.isSome, .int .i64 0]) ∧ ((o.getD zeroS).f2.f1.length ≤ c' ∧ Kd.F (Kd.int .u8) w' (fun k => w.heap.size ≤ k) A' (o.getD zeroS).f2.f1.length (o.getD zeroS).f2.f1) ∧ Below w.heap.size w w'
theorem first_cons (l : List S38) (ls : List (List S38)) (key : List UInt8) : firstL (l :: ls) key = (getL l key).or (firstL ls key) := by
  unfold firstL
  rw [List.findSome?_cons]
  cases getL l key <;> rfl
theorem getL_cons_ne {y : S38} {l : List S38} {key : List UInt8} (h : ¬ kOf y = key) : getL (y :: l) key = getL l key := by simp [getL, h]
theorem getL_cons_eq {y : S38} {l : List S38} {key : List UInt8} (h : kOf y = key) : getL (y :: l) key = some y := by simp [getL, h]
set_option maxHeartbeats 4000000 in
set_option maxRecDepth 100000 in
theorem get_yes (A0 : Option Addr) (c0 : Nat) (ls : List (List S38)) (key : ByteArray) (w : World) (hC : Kd.C kL w A0 ls.length ls) (hc : ls.length ≤ c0) (hl : LiteLs ls) (h1 : decide (100 < (ls.length : Int)) = false) (hs : allSorted ls = true) (hsm : SmallLs ls) (hL : ls.length ≤ 1000000 ∧ ∀ l ∈ ls, l.length ≤ 1000000) :
    Calls Try.prog 38 #[.slice A0 ls.length c0, .string key] w (GetQ w (firstL ls key.toList)) := by
  have H := Lib.hid (fun W h => begin_st A0 c0 ls W h hc hl h1 hs)
  have HC := Lib.hid hC
  have HSM := Lib.hid hsm
  have HL := Lib.hid hL
  generalize hR : firstL ls key.toList = R
  have HR := Lib.hid hR
  clear hC hl hs hsm hL hR
  go_enter Try.func38, Try.ntmps38
  go_wp2_with (first
    | (go_at_call 15; refine (H.out _ (Kd.C_alloc HC.out _)).mono ?_; rintro e w1 ⟨HH, rfl, _, hb1⟩; have hX := one_new w _ hb1; have HX := Lib.hid hX; have HB1 := Lib.hid (below_step (below_alloc (Below.refl w.heap.size w) _) hb1); clear hb1 hX))
  have hs1 := lt_of_block HX.out
  clear H
  go_loopg [24] ls.length (fun kq v wr => ∃ (i : Nat) (z : Int), v = .int .i64 z ∧ Aside0 (z = (i : Int)) ∧ Aside0 (i + kq = ls.length) ∧ Aside0 (firstL (ls.drop i) key.toList = R) ∧ Aside0 (Below w1.heap.size w1 wr))
  case atStart => exact ⟨0, 0, rfl, ⟨rfl⟩, ⟨by omega⟩, ⟨by simpa using HR.out⟩, ⟨Below.refl _ _⟩⟩
  case round =>
    obtain ⟨i, z, rfl, hz, hi, hF, hBr⟩ := hrel
    have HZ := Lib.hid hz.out
    have HI := Lib.hid hi.out
    have HF := Lib.hid hF.out
    have HBR := Lib.hid hBr.out
    have HCR := Lib.hid (Kd.C_below (Kd.C_below HC.out HB1.out) ((Below.refl _ _).trans (HBR.out.mono (by have := HB1.out.size; omega))))
    by_cases hlt : i < ls.length
    · have p1 : 0 ≤ z := by have := hz.out; omega
      have q1 : z < (ls.length : Int) := by have := hz.out; omega
      have d1 : decide (z < (ls.length : Int)) = true := decide_eq_true q1
      have hrd : rd_L9 ls z = ls[i] := by rw [hz.out]; simp [rd_L9, hlt]
      have HFD : Hid ((getL (rd_L9 ls z) key.toList).or (firstL (ls.drop (i + 1)) key.toList) = R) := Lib.hid (by
        rw [hrd, ← first_cons, ← List.drop_eq_getElem_cons hlt]; exact HF.out)
      have HLL : Hid ((rd_L9 ls z).length ≤ 1000000) := Lib.hid (by rw [hrd]; exact HL.out.2 _ (List.getElem_mem hlt))
      have HLS : Hid (∀ x ∈ rd_L9 ls z, x.f2.f1.length ≤ 1000000) := Lib.hid (by rw [hrd]; exact HSM.out _ (List.getElem_mem hlt))
      obtain ⟨ad, A1, c1, eL, x0, hl1, hC1⟩ := at_L9 HCR.out z p1 q1
      subst eL
      have HC1 := Lib.hid hC1
      clear hrd hz hi hF hBr hC1 HF
      generalize rd_L9 ls z = L at x0 hl1 HC1 HFD HLL HLS
      go_upto_region 8 with (fail)
      generalize hko : gk = ko at *
      generalize hwo : wr = wo at *
      clear hko hwo
      go_loopg [30] L.length (fun kq v wx => ∃ (j : Nat) (y : Int), v = .int .i64 y ∧ Aside0 (y = (j : Int)) ∧ Aside0 (j + kq = L.length) ∧ Aside0 ((getL (L.drop j) key.toList).or (firstL (ls.drop (i + 1)) key.toList) = R) ∧ Aside0 (Below wo.heap.size wo wx))
      case atStart => exact ⟨0, 0, rfl, ⟨rfl⟩, ⟨by omega⟩, ⟨by simpa using HFD.out⟩, ⟨Below.refl _ _⟩⟩
      case round =>
        obtain ⟨j, y, rfl, hy, hj, hG, hBx⟩ := hrel
        have HY := Lib.hid hy.out
        have HJ := Lib.hid hj.out
        have HG := Lib.hid hG.out
        have HBX := Lib.hid hBx.out
        by_cases hlj : j < L.length
        · have p2 : 0 ≤ y := by have := hy.out; omega
          have q2 : y < (L.length : Int) := by have := hy.out; omega
          have d2 : decide (y < (L.length : Int)) = true := decide_eq_true q2
          have hrd : rd_T38 L y = L[j] := by rw [hy.out]; simp [rd_T38, hlj]
          have HD : Hid (L.drop j = rd_T38 L y :: L.drop (j + 1)) := Lib.hid (by rw [hrd]; exact List.drop_eq_getElem_cons hlj)
          have HQB : Hid ((rd_T38 L y).f2.f1.length ≤ 1000000) := Lib.hid (HLS.out _ (by rw [hrd]; exact List.getElem_mem hlj))
          have hC1x := Kd.C_below HC1.out HBX.out
          obtain ⟨ad2, A3, c3, eA, x0', x1', x2', x3', x4', x5', x6', x7', hl3, hC3⟩ := at_T38 hC1x y p2 q2
          subst eA
          have HC3 := Lib.hid hC3
          clear hrd hy hj hG hBx hC1x hC3 hlj
          generalize hq : rd_T38 L y = q at *
          have v0 := fun o => Lib.cell?_alloc_some o x0'
          go_upto_region 10 with (fail)
          have HX6 := Lib.hid (heap_alloc_new wr (.cells (itemCells q A3 c3) 38))
          have HC6 := Lib.hid (Kd.C_alloc HC3.out (.cells (itemCells q A3 c3) 38))
          have HB6 := Lib.hid (below_alloc HBX.out (.cells (itemCells q A3 c3) 38))
          have HWX := Lib.hid HBX.out.size
          unfold itemCells at HX6 HC6 HB6
          generalize wr.alloc (.cells #[.string q.f0, .bool q.f1, .bool q.f2.f0, .slice A3 q.f2.f1.length c3, .int .i64 q.f2.f2.f0, .int .i64 q.f2.f2.f1, .int .i64 q.f2.f2.f2, .int .u32 q.f2.f2.f3] 38) = w6 at *
          generalize hB6 : wr.heap.size = B6 at *
          have HWB : Hid (w.heap.size < B6) := Lib.hid (by have := HWX.out; have := HBR.out.size; omega)
          have hX6 := HX6.out
          obtain ⟨b0, b1, b2, b3, b4, b5, b6, b7⟩ := cells8 hX6
          have hlt6 := lt_of_block hX6
          clear v0 x0' x1' x2' x3' x4' x5' x6' x7' hB6 hX6
          by_cases hk : kOf q = key.toList
          · have dk : (q.f0.toList == key.toList) = true := by rw [show q.f0.toList = key.toList from hk]; simp
            have HRQ : Hid (R = some q) := Lib.hid (by
              have h := HG.out
              rw [HD.out, getL_cons_eq hk] at h
              exact h.symm)
            clear hk
            go_upto_region 11 with (fail)
            go_wp2_with fail
            have hs0 := HB1.out.size
            have hso := HBR.out.size
            have HXR := Lib.hid ((HB6.out.block w.heap.size (by omega)).trans ((HBR.out.block w.heap.size hs1).trans HX.out))
            have HBW := Lib.hid (HB1.out.trans ((HBR.out.mono (by omega)).trans (HB6.out.mono (by omega : w.heap.size ≤ wo.heap.size))))
            refine (clone_calls A3 c3 q.f2.f1 w6 HC6.out (by have := HQB.out; omega)).mono ?_
            rintro e w8 ⟨v8, rfl, hR8, hb8⟩
            obtain ⟨A', c', rfl⟩ := Kd.R_slice hR8
            have hl8 := (Kd.R_reads' hR8).2.1
            have HF8 := Lib.hid (Kd.R_F hR8)
            have hs8 := hb8.size
            have hwb := HWB.out
            have hX8 := (hb8.block B6 hlt6).trans HX6.out
            have hR8' := (hb8.block w.heap.size (by omega)).trans HXR.out
            have HB8 := Lib.hid (HBW.out.trans (hb8.mono (by omega)))
            have hfx := frees hX8
            have hfr := frees hR8'
            have hlx := lt_of_block hX8
            have hlr := lt_of_block hR8'
            obtain ⟨d0, d1', d2', d3, d4, d5, d6, d7⟩ := cells8 hX8
            obtain ⟨r0, r1, r2, r3, r4, r5, r6, r7⟩ := cells8 hR8'
            clear hR8 hb8 hX8 hR8' b0 b1 b2 b3 b4 b5 b6 b7 HX6 HXR
            go_wp2
            refine bodyPost_ret (v := .tuple #[.agg (itemCells q A' c'), .bool true, .int .i64 0]) (by simp [results, itemCells, Try.results38, go_sem, d0, d1', d2', d3, d4, d5, d6, d7, r0, r1, r2, r3, r4, r5, r6, r7]) rfl ⟨A', c', by rw [HRQ.out]; rfl, ⟨by rw [HRQ.out]; exact hl8, ?_⟩, ?_⟩
            · rw [HRQ.out]
              refine Kd.F_mono (ok := fun k => w6.heap.size ≤ k) ?_ (fun k hk => by omega)
              repeat (refine Kd.F_far ?_ (by intro k hk; simp at hk ⊢; omega) _)
              exact HF8.out
            · repeat (refine Below.setCell ?_ (by simp; try omega) _)
              exact HB8.out
          · have dk : (q.f0.toList == key.toList) = false := by exact beq_eq_false_iff_ne.2 hk
            have HGN : Hid ((getL (L.drop (j + 1)) key.toList).or (firstL (ls.drop (i + 1)) key.toList) = R) := Lib.hid (by
              have h := HG.out
              rw [HD.out, getL_cons_ne hk] at h
              exact h)
            clear hk
            go_wp2
            have hy9 := HY.out
            have hj9 := HJ.out
            have hl9 := HLL.out
            go_roundg (gk - 1)
            case measure => omega
            case rel => exact ⟨j + 1, _, rfl, ⟨by rw [hy9]; first | exact wrap_succ j (by omega) | omega | (simp only [IntKind.wrap_i64]; omega)⟩, ⟨by omega⟩, ⟨HGN.out⟩, ⟨HB6.out⟩⟩
        · have d2 : decide (y < (L.length : Int)) = false := decide_eq_false (by have := hy.out; omega)
          have HFN : Hid (firstL (ls.drop (i + 1)) key.toList = R) := Lib.hid (by
            have h := HG.out
            rw [List.drop_eq_nil_of_le (by omega)] at h
            exact h)
          clear hy hj hG hBx hlj
          go_wp2
          have hz9 := HZ.out
          have hi9 := HI.out
          have hl9 := HL.out.1
          go_roundg (ko - 1)
          case measure => omega
          case rel => exact ⟨i + 1, _, rfl, ⟨by rw [hz9]; first | exact wrap_succ i (by omega) | omega | (simp only [IntKind.wrap_i64]; omega)⟩, ⟨by omega⟩, ⟨HFN.out⟩, ⟨HBR.out.trans (HBX.out.mono (by have := HBR.out.size; omega))⟩⟩
    · have d1 : decide (z < (ls.length : Int)) = false := decide_eq_false (by have := hz.out; omega)
      have HRN : Hid (R = none) := Lib.hid (by
        have h := HF.out
        rw [List.drop_eq_nil_of_le (by omega)] at h
        exact h.symm)
      have hX := (HBR.out.block w.heap.size hs1).trans HX.out
      have HX2 := Lib.hid hX
      obtain ⟨d0', d1', d2', d3', d4', d5', d6', d7'⟩ := cells8 hX
      have hfx := frees hX
      have hltx := lt_of_block hX
      clear hz hi hF hBr hlt hX
      go_wp2
      refine bodyPost_ret (v := .tuple #[.agg (itemCells zeroS none 0), .bool false, .int .i64 0]) (by simp [results, itemCells, zeroS, Try.results38, go_sem, d0', d1', d2', d3', d4', d5', d6', d7']) rfl ⟨none, 0, by rw [HRN.out]; rfl, ⟨by rw [HRN.out]; simp [zeroS], by rw [HRN.out]; exact Kd.F_nil _ _ _⟩, ?_⟩
      repeat (refine Below.setCell ?_ (by simp) _)
      exact HB1.out.trans (HBR.out.mono (by have := HB1.out.size; omega))
end Go.Proofs.Ytgoidimipchejaa.Mg
namespace Go.Proofs.Ytgoidimipchejaa.Mg
open Go.RowKit Go.Proofs.Ytgoidimipchejaa.PT Go.Proofs.Ytgoidimipchejaa.Tr Go.Proofs.YtgoidimipchejaaW.PrintWords Go.Proofs.YtgoidimipchejaaW.PrintLast Go.Proofs.YtgoidimipchejaaW.PrintMore
set_option linter.unusedVariables false
set_option linter.unusedSimpArgs false
attribute [local go_sem ↓] Go.wp_at_zero Go.wp_at_succ

theorem may_key {x : S38} (h : mayB x = true) : ¬ kOf x = [] := by
  intro e
  unfold mayB chkF tree_Check.f at h
  rw [if_pos (show x.f0.toList = ([] : List UInt8) from e)] at h
  simp at h
theorem cells3 {w : World} {b : Nat} {v0 v1 v2 : Value} {t : TypeId} {fr : Nat × Nat} (h : w.heap[b]? = some (.cells #[v0, v1, v2] t fr)) :
    w.cell? ⟨b, 0, none⟩ = some v0 ∧ w.cell? ⟨b, 1, none⟩ = some v1 ∧ w.cell? ⟨b, 2, none⟩ = some v2 := by
  simp [World.cell?, h]
theorem scanR_ref (lo hi : ByteArray) (most : Int) (M : List S38) : ((selL true M).filter (inR lo hi)).take most.toNat = scanR lo hi most [] M := by simp [scanR]
set_option maxHeartbeats 2000000 in
set_option maxRecDepth 100000 in
theorem scans14_not (A0 : Option Addr) (c0 : Nat) (ls : List (List S38)) (lo hi : ByteArray) (most : Int) (w : World) (hC : Kd.C kL w A0 ls.length ls) (hc : ls.length ≤ c0)
    (gone : garnerlaw14_light.f 1000 ls = some false ∨ (garnerlaw14_light.f 1000 ls = some true ∧ (garnerref14_May.f 10000 ls = some false ∨ (garnerref14_May.f 10000 ls = some true ∧ (decide (200 < (lo.size : Int)) = true ∨ (decide (200 < (lo.size : Int)) = false ∧ decide (200 < (hi.size : Int)) = true)))))) :
    Calls Try.prog 10 #[.slice A0 ls.length c0, .agg #[.string lo, .string hi, .int .i64 most]] w fun e w' => e = .returned (.bool true) ∧ Below w.heap.size w w' := by
  have HC := Lib.hid hC
  clear hC
  rcases gone with hL | ⟨hL, hM | ⟨hM, h1 | ⟨h1, h2⟩⟩⟩
  all_goals (
    have HL := Lib.hid hL
    try have HM := Lib.hid hM
    clear hL
    try clear hM
    go_enter Try.func10, Try.ntmps10
    go_wp2_with (first
      | (go_at_call 12; refine (light14_calls 1000 A0 c0 ls _ _ (Kd.C_alloc HC.out _) hc HL.out).mono ?_; rintro e w1 ⟨rfl, hb1⟩; have HB1 := Lib.hid (below_step (below_alloc (Below.refl w.heap.size w) _) hb1); have hbx := one_new w _ hb1; obtain ⟨d0, d1, d2⟩ := cells3 hbx; have hlx := lt_of_block hbx; clear hbx hb1)
      | (go_at_call 13; refine (garnerref14_May.calls 10000 A0 c0 ls _ _ (Kd.C_below HC.out HB1.out) hc HM.out).mono ?_; rintro e w3 ⟨rfl, hb3⟩; have HB3 := Lib.hid (below_step HB1.out hb3); have e0 := (hb3.cell (p := ⟨w.heap.size, 0, none⟩) hlx).trans d0; have e1 := (hb3.cell (p := ⟨w.heap.size, 1, none⟩) hlx).trans d1; clear hb3)
      | (go_at_call 14; refine (awake14_calls _).mono ?_; rintro e w9 ⟨rfl, hb9⟩; have HB9 := Lib.hid (below_step (by first | exact HB3.out | exact HB1.out) hb9); clear hb9))
    go_ret
    exact ⟨rfl, HB9.out⟩)
set_option maxHeartbeats 4000000 in
set_option maxRecDepth 100000 in
theorem scans14_yes (A0 : Option Addr) (c0 : Nat) (ls : List (List S38)) (lo hi : ByteArray) (most : Int) (w : World) (hC : Kd.C kL w A0 ls.length ls) (hc : ls.length ≤ c0) (hb : garnerlaw14_light.f 1000 ls = some true) (hlt : Lt ls) (hm : garnerref14_May.f 10000 ls = some true) (h1 : decide (100 < (ls.length : Int)) = false) (hs : allSorted ls = true)
    (hlo : decide (200 < (lo.size : Int)) = false) (hhi : decide (200 < (hi.size : Int)) = false) :
    Calls Try.prog 10 #[.slice A0 ls.length c0, .agg #[.string lo, .string hi, .int .i64 most]] w fun e w' => e = .returned (.bool true) ∧ Below w.heap.size w w' := by
  have HC := Lib.hid hC
  have HL := Lib.hid hb
  have HM := Lib.hid hm
  have hML := merge_len ls 30 hlt.each
  have hlen := hlt.len
  have hso := sorted_all hs
  have hIM := merge_is ls (fun l hl => (hso l hl).1)
  have HXB : ∀ x ∈ mergeL ls, x.f2.f1.length ≤ 900 := fun x hx => by
    obtain ⟨l, hl, hxl⟩ := merge_mem ls x hx
    have := (hlt.small l hl x hxl).2
    omega
  have hAF := all14_f ls false 400000 hlt (fun l hl => (hso l hl).1) (by omega)
  rw [sel_MM, show selL false (mergeL ls) = mergeL ls from List.filter_eq_self.2 (by simp)] at hAF
  have hAT := all14_f ls true 400000 hlt (fun l hl => (hso l hl).1) (by omega)
  rw [sel_MM] at hAT
  have hsl := sel_le true (mergeL ls)
  have hSF := scan_f (selL true (mergeL ls)) lo hi most 10000 (by omega) (by omega)
  rw [scanR_ref] at hSF
  have hRle := scanR_le lo hi most [] (mergeL ls)
  have HMF := Lib.hid (Same_f 10000 (scanR lo hi most [] (mergeL ls)) (by simp at hRle; omega) (by simp at hRle; omega) (fun x hx => by
    rw [← scanR_ref] at hx
    exact HXB x (List.mem_filter.1 (List.mem_filter.1 (List.mem_of_mem_take hx)).1).1))
  have hGF := get_f (mergeL ls) lo 10000 (by omega) (by omega)
  rw [hIM.get] at hGF
  have HSC := Lib.hid (fun W h => scan_yes A0 c0 ls lo hi most W h hc hlt.lite h1 hs hlt.small2 (by omega) hIM.ord)
  have HGT := Lib.hid (fun W h => get_yes A0 c0 ls lo W h hc hlt.lite h1 hs hlt.small2 ⟨by omega, fun l hl => by have := hlt.each l hl; omega⟩)
  have hXl : ((firstL ls lo.toList).getD zeroS).f2.f1.length ≤ 900 ∧ (((firstL ls lo.toList).getD zeroS).f0.toList == ([] : List UInt8)) = !(firstL ls lo.toList).isSome := by
    cases hf : firstL ls lo.toList with
    | none => simp [zeroS]
    | some q =>
      rw [← hIM.get] at hf
      have hmem : q ∈ mergeL ls := List.mem_of_find?_eq_some hf
      obtain ⟨l, hl, hxl⟩ := merge_mem ls q hmem
      refine ⟨HXB q hmem, ?_⟩
      have hk := may_key ((hso l hl).2 q hxl)
      have hk2 : ¬ q.f0.toList = [] := hk
      simpa using hk2
  have HAF := Lib.hid hAF
  have HAT := Lib.hid hAT
  have HSF := Lib.hid hSF
  have HGF := Lib.hid hGF
  unfold GetQ at HGT
  generalize scanR lo hi most [] (mergeL ls) = R at *
  generalize (firstL ls lo.toList).getD zeroS = X at *
  generalize (firstL ls lo.toList).isSome = bb at *
  have HON : Hid (oneF 10000 X X = some true) := Lib.hid (one_self 10000 X (by have := hXl.1; omega) (by have := hXl.1; omega))
  obtain ⟨_, hXe⟩ := hXl
  generalize selL true (mergeL ls) = T at *
  generalize mergeL ls = M at *
  clear hC hb hm hlt hs h1 hML hlen hso hIM HXB hAF hAT hsl hSF hRle hGF
  unfold tup at HGF
  go_enter Try.func10, Try.ntmps10
  go_wp2_with (first
    | (go_at_call 12; refine (light14_calls 1000 A0 c0 ls _ _ (Kd.C_alloc HC.out _) hc HL.out).mono ?_; rintro e w1 ⟨rfl, hb1⟩; have HB1 := Lib.hid (below_step (below_alloc (Below.refl w.heap.size w) _) hb1); have HX1 := Lib.hid (one_new w _ hb1); have hlx1 := lt_of_block HX1.out; clear hb1)
    | (go_at_call 13; refine (garnerref14_May.calls 10000 A0 c0 ls _ _ (Kd.C_below HC.out HB1.out) hc HM.out).mono ?_; rintro e w2 ⟨rfl, hb2⟩; have HB2 := Lib.hid (below_step HB1.out hb2); have HX2 := Lib.hid ((hb2.block _ hlx1).trans HX1.out); have hlx2 := lt_of_block HX2.out; obtain ⟨d0, d1, d2⟩ := cells3 HX2.out; clear hb2)
    | (go_at_call 37; refine (HSC.out _ (Kd.C_below HC.out HB2.out)).mono ?_; rintro e w3 ⟨v3, rfl, hN3, hb3⟩; obtain ⟨A3, c3, rfl⟩ := Kd.N_slice hN3; have HN3 := Lib.hid hN3; have HB3 := Lib.hid (below_step HB2.out hb3); have HX3 := Lib.hid ((hb3.block _ hlx2).trans HX2.out); have hlx3 := lt_of_block HX3.out; obtain ⟨e0, e1, e2⟩ := cells3 HX3.out; clear hN3 hb3)
    | (go_at_call 38; refine (HGT.out _ (Kd.C_below HC.out HB3.out)).mono ?_; rintro e w4 ⟨A4, c4, rfl, ⟨hc4, hF4⟩, hb4⟩; have HF4 := Lib.hid hF4; have HN4 := Lib.hid (Kd.N_below HN3.out hb4); have HB4 := Lib.hid (below_step HB3.out hb4); have HX4 := Lib.hid ((hb4.block _ hlx3).trans HX3.out); have hlx4 := lt_of_block HX4.out; clear hF4 hb4; unfold itemCells)
    | (go_at_call 16; refine (garnerref14_All.calls 400000 (fun _ => True) A0 c0 ls false M _ (V_ls (Kd.C_alloc (Kd.C_below HC.out HB4.out) _) hc _) HAF.out).mono ?_; rintro e w5 ⟨v5, rfl, hN5, hb5⟩; obtain ⟨A5, c5, rfl⟩ := Kd.N_slice hN5; have HN5 := Lib.hid hN5; have HY5 := Lib.hid (one_new w4 _ hb5); have hbb := below_step (below_alloc (Below.refl w4.heap.size w4) _) hb5; have HF5 := Lib.hid (Kd.F_below HF4.out hbb); have HM5 := Lib.hid (Kd.N_below HN4.out hbb); have HB5 := Lib.hid (below_step HB4.out hbb); have HX5 := Lib.hid ((hbb.block _ hlx4).trans HX4.out); have hlx5 := lt_of_block HX5.out; have hly5 := lt_of_block HY5.out; obtain ⟨f0, f1, f2⟩ := cells3 HX5.out; clear hN5 hb5 hbb)
    | (go_at_call 35; refine (garnerref10_Get.calls 10000 _ A5 c5 M lo X.f0 X.f1 X.f2.f0 X.f2.f1 X.f2.f2.f0 X.f2.f2.f1 X.f2.f2.f2 X.f2.f2.f3 _ (Kd.N_V HN5.out) HGF.out).mono ?_; rintro e w6 ⟨v6, rfl, hV6, hb6⟩; obtain ⟨A6, c6, rfl⟩ := Kd.V_slice hV6; have HV6 := Lib.hid hV6; have HY6 := Lib.hid ((hb6.block _ hly5).trans HY5.out); have HF6 := Lib.hid (Kd.F_below HF5.out hb6); have HM6 := Lib.hid (Kd.N_below HM5.out hb6); have HB6 := Lib.hid (below_step HB5.out hb6); have HX6 := Lib.hid ((hb6.block _ hlx5).trans HX5.out); clear hV6 hb6))
  have HZ7 := Lib.hid (heap_alloc_new w6 (.cells #[.string X.f0, .bool X.f1, .bool X.f2.f0, .slice A6 X.f2.f1.length c6, .int .i64 X.f2.f2.f0, .int .i64 X.f2.f2.f1, .int .i64 X.f2.f2.f2, .int .u32 X.f2.f2.f3] 38))
  have hbb := below_alloc (Below.refl w6.heap.size w6) (.cells #[.string X.f0, .bool X.f1, .bool X.f2.f0, .slice A6 X.f2.f1.length c6, .int .i64 X.f2.f2.f0, .int .i64 X.f2.f2.f1, .int .i64 X.f2.f2.f2, .int .u32 X.f2.f2.f3] 38)
  generalize w6.alloc (.cells #[.string X.f0, .bool X.f1, .bool X.f2.f0, .slice A6 X.f2.f1.length c6, .int .i64 X.f2.f2.f0, .int .i64 X.f2.f2.f1, .int .i64 X.f2.f2.f2, .int .u32 X.f2.f2.f3] 38) = w7 at *
  have HY7 := Lib.hid ((hbb.block _ (lt_of_block HY6.out)).trans HY6.out)
  have HX7 := Lib.hid ((hbb.block _ (lt_of_block HX6.out)).trans HX6.out)
  have HC7 := Lib.hid (Kd.F_now (Kd.F_below HF6.out hbb))
  have HV7 := Lib.hid (Kd.C_below (Kd.V_reads' HV6.out).2.2 hbb)
  have hc6 := (Kd.V_reads' HV6.out).2.1
  have HM7 := Lib.hid (Kd.N_below HM6.out hbb)
  have HB7 := Lib.hid (below_step HB6.out hbb)
  obtain ⟨a0, a1, a2⟩ := cells3 HX7.out
  obtain ⟨b0, b1, b2, b3, b4, b5, b6, b7⟩ := cells8 HY7.out
  obtain ⟨g0, g1, g2, g3, g4, g5, g6, g7⟩ := cells8 HZ7.out
  have l1 := lt_of_block HX7.out
  have l2 := lt_of_block HY7.out
  have l3 := lt_of_block HZ7.out
  generalize w4.heap.size = Bb at *
  generalize w6.heap.size = Bc at *
  clear HL HM HSC HGT HGF HAF HF4 HN4 HF5 HM5 HF6 HM6 HV6 HN3 HN5 HB1 HB2 HB3 HB4 HB5 HB6 HX1 HX2 HX3 HX4 HX5 HX6 HX7 HY5 HY6 HY7 HZ7 d0 d1 d2 e0 e1 e2 f0 f1 f2 hbb
  have hX0 : (X.f0.toList == ([] : List UInt8)) = false ∧ bb = true ∨ (X.f0.toList == ([] : List UInt8)) = true ∧ bb = false := by
    rw [hXe]
    cases bb <;> simp
  clear hXe
  rcases hX0 with ⟨hX0, rfl⟩ | ⟨hX0, rfl⟩
  all_goals (
    go_region_held3 (fun w' => w'.cell? ⟨w.heap.size, 0, none⟩ = some (.string lo) ∧ w'.cell? ⟨w.heap.size, 1, none⟩ = some (.string hi) ∧ w'.cell? ⟨w.heap.size, 2, none⟩ = some (.int .i64 most) ∧ w'.cell? ⟨Bb, 0, none⟩ = some (.string X.f0) ∧ w'.cell? ⟨Bb, 1, none⟩ = some (.bool X.f1) ∧ w'.cell? ⟨Bb, 2, none⟩ = some (.bool X.f2.f0) ∧ w'.cell? ⟨Bb, 3, none⟩ = some (.slice A4 X.f2.f1.length c4) ∧ w'.cell? ⟨Bb, 4, none⟩ = some (.int .i64 X.f2.f2.f0) ∧ w'.cell? ⟨Bb, 5, none⟩ = some (.int .i64 X.f2.f2.f1) ∧ w'.cell? ⟨Bb, 6, none⟩ = some (.int .i64 X.f2.f2.f2) ∧ w'.cell? ⟨Bb, 7, none⟩ = some (.int .u32 X.f2.f2.f3) ∧ w'.cell? ⟨Bc, 0, none⟩ = some (.string X.f0) ∧ w'.cell? ⟨Bc, 1, none⟩ = some (.bool X.f1) ∧ w'.cell? ⟨Bc, 2, none⟩ = some (.bool X.f2.f0) ∧ w'.cell? ⟨Bc, 3, none⟩ = some (.slice A6 X.f2.f1.length c6) ∧ w'.cell? ⟨Bc, 4, none⟩ = some (.int .i64 X.f2.f2.f0) ∧ w'.cell? ⟨Bc, 5, none⟩ = some (.int .i64 X.f2.f2.f1) ∧ w'.cell? ⟨Bc, 6, none⟩ = some (.int .i64 X.f2.f2.f2) ∧ w'.cell? ⟨Bc, 7, none⟩ = some (.int .u32 X.f2.f2.f3)) ((refine ⟨?_, ?_, ?_, ?_, ?_, ?_, ?_, ?_, ?_, ?_, ?_, ?_, ?_, ?_, ?_, ?_, ?_, ?_, ?_⟩ <;> (first | (rw [hb12.cell (by first | omega | (simp <;> omega))]; go_keep) | (rw [hb11.cell (by first | omega | (simp <;> omega))]; go_keep) | (rw [hb10.cell (by first | omega | (simp <;> omega))]; go_keep) | (rw [hb9.cell (by first | omega | (simp <;> omega))]; go_keep) | (rw [hb8.cell (by first | omega | (simp <;> omega))]; go_keep) | go_keep)))
      (first
        | (go_at_call 16; refine (garnerref14_All.calls 400000 (fun _ => True) A0 c0 ls true T _ (V_ls (Kd.C_below HC.out (HB7.out.trans (Go.Joins.below_draws _ _ 1))) hc _) HAT.out).mono ?_; rintro e w8 ⟨v8, rfl, hN8, hb8⟩; obtain ⟨A8, c8, rfl⟩ := Kd.N_slice hN8; have hs8 : w7.heap.size ≤ w8.heap.size := hb8.size; have HM8 := Lib.hid (Kd.N_below HM7.out (below_step (Go.Joins.below_draws _ _ 1) hb8)); have HD8 := Lib.hid (Kd.C_below HC7.out (below_step (Go.Joins.below_draws _ _ 1) hb8)); have HE8 := Lib.hid (Kd.C_below HV7.out (below_step (Go.Joins.below_draws _ _ 1) hb8)); have HN8 := Lib.hid hN8; have HB8 := Lib.hid (below_step (HB7.out.trans (Go.Joins.below_draws _ _ 1)) hb8); clear hN8)
        | (go_at_call 26; refine (garnerref10_Scan.calls 10000 _ A8 c8 T lo hi most _ _ (Kd.N_V HN8.out) HSF.out).mono ?_; rintro e w9 ⟨v9, rfl, hN9, hb9⟩; obtain ⟨A9, c9, rfl⟩ := Kd.N_slice hN9; have hs9 : w8.heap.size ≤ w9.heap.size := hb9.size; have HM9 := Lib.hid (Kd.N_below HM8.out hb9); have HD9 := Lib.hid (Kd.C_below HD8.out hb9); have HE9 := Lib.hid (Kd.C_below HE8.out hb9); have HN9 := Lib.hid hN9; have HB9 := Lib.hid (below_step HB8.out hb9); clear hN9)
        | (go_at_call 21; refine (garnerref10_Same.calls 10000 A3 c3 _ A9 c9 _ true _ (Kd.N_reads' HM9.out).2.2 (Kd.N_reads' HM9.out).2.1 (Kd.N_reads' HN9.out).2.2 (Kd.N_reads' HN9.out).2.1 HMF.out).mono ?_; rintro e w10 ⟨rfl, hb10⟩; have hs10 : w9.heap.size ≤ w10.heap.size := hb10.size; have HD10 := Lib.hid (Kd.C_below HD9.out hb10); have HE10 := Lib.hid (Kd.C_below HE9.out hb10); have HB10 := Lib.hid (below_step HB9.out hb10))
        | (go_at_call 18; refine (garnerref10_One.calls 10000 X.f0 X.f1 X.f2.f0 A4 c4 X.f2.f1 X.f2.f2.f0 X.f2.f2.f1 X.f2.f2.f2 X.f2.f2.f3 X.f0 X.f1 X.f2.f0 A6 c6 X.f2.f1 X.f2.f2.f0 X.f2.f2.f1 X.f2.f2.f2 X.f2.f2.f3 true _ HD10.out hc4 HE10.out hc6 HON.out).mono ?_; rintro e w11 ⟨rfl, hb11⟩; have hs11 : w10.heap.size ≤ w11.heap.size := hb11.size; have HB11 := Lib.hid (below_step HB10.out hb11))
        | (go_at_call 14; refine (awake14_calls _).mono ?_; rintro e w12 ⟨rfl, hb12⟩; have HB12 := Lib.hid (below_step HB11.out hb12)))
    go_wp2
    go_ret
    exact ⟨rfl, HB12.out⟩)
theorem scans14_any {w0 : World} (A0 : Option Addr) (c0 : Nat) (ls : List (List S38)) (hC : Kd.C kL w0 A0 ls.length ls) (hc : ls.length ≤ c0) (hm : ls.length ≤ maxLen) (hx : ∀ l ∈ ls, l.length ≤ maxLen) (lo hi : ByteArray) (most : Int) (w : World) (he : w = w0 := by rfl) :
    Calls Try.prog 10 #[.slice A0 ls.length c0, .agg #[.string lo, .string hi, .int .i64 most]] w fun e w' => e = .returned (.bool true) ∧ Below w.heap.size w w' := by
  subst he
  rcases ways ls hm hx with h | ⟨h1, h2, ⟨h3, h4⟩ | ⟨h3, h4, h5⟩⟩
  · exact scans14_not A0 c0 ls lo hi most w hC hc (.inl h)
  · exact scans14_not A0 c0 ls lo hi most w hC hc (.inr ⟨h1, .inl h3⟩)
  · cases hlo : decide (200 < (lo.size : Int)) with
    | true => exact scans14_not A0 c0 ls lo hi most w hC hc (.inr ⟨h1, .inr ⟨h3, .inl hlo⟩⟩)
    | false =>
      cases hhi : decide (200 < (hi.size : Int)) with
      | true => exact scans14_not A0 c0 ls lo hi most w hC hc (.inr ⟨h1, .inr ⟨h3, .inr ⟨hlo, hhi⟩⟩⟩)
      | false => exact scans14_yes A0 c0 ls lo hi most w hC hc h1 h2 h3 h4 h5 hlo hhi
end Go.Proofs.Ytgoidimipchejaa.Mg
namespace Go.Proofs.Ytgoidimipchejaa.Mg
open Go.ChangeShapes Go.WideShapes Go.ChangeAt Go.RowKit Go.Deep Go.Proofs.Ytgoidimipchejaa.PT Go.Proofs.Ytgoidimipchejaa.Tr Go.Proofs.YtgoidimipchejaaW.PrintWords Go.Proofs.YtgoidimipchejaaW.PrintLast Go.Proofs.YtgoidimipchejaaW.PrintMore
set_option linter.unusedVariables false
set_option linter.unusedSimpArgs false

section
variable {H : Type} {enc : TypeId × Value → H} {w : World} {base : Nat} {held : Bool}
theorem one_of {cs : List Value} (h : cs.length = 1) : ∃ c, cs = [c] := by
  match cs, h with
  | [c], _ => exact ⟨c, rfl⟩
theorem lists_open {fuel : Nat} {v : Value} {y : DataW H × List MemPlace} (h : DataW.trod enc Try.prog w base (fun _ => true) held fuel 22 [v] = some y) :
    ∃ A c ls, v = .slice A (List.length ls) c ∧ ls.length ≤ c ∧ c ≤ maxLen ∧ Kd.C kL w A ls.length ls ∧ ∀ l ∈ ls, l.length ≤ maxLen := by
  rcases open_slice Try.underlying22 h with ⟨hcs, _⟩ | ⟨a, len, cap, m, n, D, Pl, hcs, _, hl, hm, hmm, _, hi⟩
  · simp at hcs
    subst hcs
    exact ⟨none, 0, [], rfl, Nat.le_refl _, by decide, Kd.C_nil _ _, by simp⟩
  · simp at hcs
    subst hcs
    have e1 : Try.prog.cellsOf 29 = 1 := by kernel_rfl
    have hi' : ∀ i, i < len → ∃ l cs, w.cells? base (a.add (i * 1)) 1 = some cs ∧ kL.K w l cs ∧ l.length ≤ maxLen := fun i hil => by
      obtain ⟨cs, h1, h2⟩ := hi i (by rw [hmm]; simp; omega)
      rw [e1] at h1
      obtain ⟨_, hcl, _⟩ := World.cells?_some h1
      obtain ⟨c0, rfl⟩ := one_of hcl
      obtain ⟨A, c, l, rfl, h3, h4, h5, _⟩ := items_open h2
      exact ⟨l, _, h1, ⟨A, c, rfl, h3, h5⟩, Nat.le_trans h3 h4⟩
    have hall : ∀ k, k ≤ len → ∃ ls : List (List S38), ls.length = k ∧ ∀ i l, ls[i]? = some l → (∃ cs, w.cells? base (a.add (i * 1)) 1 = some cs ∧ kL.K w l cs) ∧ l.length ≤ maxLen := by
      intro k
      induction k with
      | zero => exact fun _ => ⟨[], rfl, by simp⟩
      | succ k ih =>
        intro hk
        obtain ⟨l, h1, h2⟩ := ih (by omega)
        obtain ⟨x, cs, h3, h4, h5⟩ := hi' k (by omega)
        refine ⟨l ++ [x], by simp [h1], fun i z hz => ?_⟩
        by_cases hik : i < l.length
        · rw [List.getElem?_append_left hik] at hz
          exact h2 i z hz
        · rw [List.getElem?_append_right (by omega)] at hz
          have : i - l.length = 0 := by
            rcases hd : i - l.length with _ | j
            · rfl
            · rw [hd] at hz; simp at hz
          rw [this] at hz
          simp at hz
          subst hz
          have hik2 : i = k := by omega
          subst hik2
          exact ⟨⟨cs, h3, h4⟩, h5⟩
    obtain ⟨ls, hlen, hel⟩ := hall len (Nat.le_refl _)
    subst hlen
    refine ⟨some a, cap, ls, rfl, hl, hm, ⟨rfl, by unfold maxLen at hm; omega, fun _ => ⟨a, rfl, fun j p hp => ?_⟩⟩, fun x hx => ?_⟩
    · obtain ⟨⟨cs, h1, h2⟩, _⟩ := hel j p hp
      obtain ⟨_, hcl, hat⟩ := World.cells?_some h1
      refine ⟨cs, hcl, h2, fun i u hu => ?_⟩
      have hil : i < 1 := by
        have := (List.getElem?_eq_some_iff.1 hu).1
        omega
      have := hat i hil
      rw [hu, Go.Deep.add_add] at this
      exact this
    · obtain ⟨i, hil, rfl⟩ := List.getElem_of_mem hx
      exact (hel i _ (List.getElem?_eq_getElem hil)).2
end
end Go.Proofs.Ytgoidimipchejaa.Mg
