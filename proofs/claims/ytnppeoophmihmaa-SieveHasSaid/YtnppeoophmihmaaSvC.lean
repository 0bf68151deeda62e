/- Layer 11: whether a key may be there, by the sieve's own function; no condition beyond the bounds that each lemma names. -/
import Derived.Test.YtnppeoophmihmaaSvB
namespace Go.Proofs.Ytnppeoophmihmaa.Sv
open Go.RowKit Go.Proofs.Ytnppeoophmihmaa.CrcP Go.Proofs.Ytnppeoophmihmaa.PCrc Go.Proofs.YtnppeoophmihmaaW.PrintWords Go.Proofs.YtnppeoophmihmaaW.PrintLast Go.Proofs.YtnppeoophmihmaaW.PrintMore
set_option linter.unusedVariables false

def allSet (b : List Nat) (key : ByteArray) : Bool := (List.range 6).all fun i => bitOf b (bitN b.length key i)
def hasB (b : List Nat) (key : ByteArray) : Bool := decide (b.length = 0) || (decide (1048576 < b.length) || allSet b key)

/-- What stands in memory while the bits are gone through: the bytes' own box, and what is told so far. -/
structure HasInv (w : World) (A : Option Addr) (n c : Nat) (v : Bool) (wr : World) : Prop where
  all : wr.heap[w.heap.size + 1]? = some (.cells #[.bool v] 4 (0, 0))
  box : wr.heap[w.heap.size]? = some (.cells #[.slice A n c] 23 (0, 0))
  below : Below w.heap.size w wr
theorem HasInv.start {w : World} {A : Option Addr} {n c : Nat} {wr : World} (h : Below ((w.alloc (Obj.cells #[Value.slice A n c] 23)).alloc (Obj.cells #[Value.bool true] 4)).heap.size ((w.alloc (Obj.cells #[Value.slice A n c] 23)).alloc (Obj.cells #[Value.bool true] 4)) wr) : HasInv w A n c true wr where
  all := (h.block _ (by simp)).trans (by
    have := heap_alloc_new (w.alloc (Obj.cells #[Value.slice A n c] 23)) (Obj.cells #[Value.bool true] 4)
    simpa using this)
  box := (h.block _ (by simp; omega)).trans (((below_alloc (Below.refl _ _) _).block _ (by simp)).trans (heap_alloc_new _ _))
  below := below_step (below_alloc (below_alloc (Below.refl _ _) _) _) h
theorem HasInv.step {w : World} {A : Option Addr} {n c : Nat} {v : Bool} {wr : World} (h : HasInv w A n c v wr) (u : Bool) : HasInv w A n c u (wr.setCell ⟨w.heap.size + 1, 0, none⟩ (.bool u)) where
  all := one_setCell h.all
  box := (Below.heap_setCell _ _ _ _ (by simp)).trans h.box
  below := h.below.setCell (by simp) _

theorem allSet_true {b : List Nat} {key : ByteArray} (h : ∀ i, i < 6 → bitOf b (bitN b.length key i) = true) : allSet b key = true := List.all_eq_true.2 fun i hi => h i (List.mem_range.1 hi)
theorem allSet_false {b : List Nat} {key : ByteArray} {i : Nat} (hi : i < 6) (h : bitOf b (bitN b.length key i) = false) : allSet b key = false := by
  cases e : allSet b key with
  | false => rfl
  | true =>
    have := List.all_eq_true.1 e i (List.mem_range.2 hi)
    rw [h] at this
    simp at this

set_option maxHeartbeats 4000000 in
set_option maxRecDepth 100000 in
theorem has_calls (b : List Nat) (hb : ∀ x ∈ b, x < 256) (hl : b.length ≤ 9223372036854775807) (key : ByteArray) (hkey : key.size ≤ 140737488351232) (A : Option Addr) (c : Nat) (w : World) (hc : (Kd.int .u8).C w A b.length (B b)) :
    Calls Try.prog 15 #[.slice A b.length c, .string key] w fun e w' => e = .returned (.bool (hasB b key)) ∧ Below w.heap.size w w' := by
  by_cases h0 : b.length = 0
  · have hr : hasB b key = true := by unfold hasB; rw [decide_eq_true h0]; rfl
    have HR := Lib.hid hr
    have hz : ((b.length : Int) == 0) = true := by rw [h0]; rfl
    clear hr h0 hc
    generalize b.length = n at hz hl ⊢
    go_enter Try.func15, Try.ntmps15
    go_wp2
    go_ret
    exact ⟨by rw [HR.out]; rfl, below_alloc (Below.refl _ _) _⟩
  · by_cases h1 : 1048576 < b.length
    · have hr : hasB b key = true := by unfold hasB; rw [decide_eq_true h1]; simp
      have HR := Lib.hid hr
      have hz : ((b.length : Int) == 0) = false := beq_eq_false_iff_ne.2 (by omega)
      have hy : decide (1048576 < (b.length : Int)) = true := decide_eq_true (by omega)
      clear hr
      go_enter Try.func15, Try.ntmps15
      go_wp2
      go_ret
      exact ⟨by rw [HR.out]; rfl, below_alloc (Below.refl _ _) _⟩
    · have hr : hasB b key = allSet b key := by unfold hasB; rw [decide_eq_false h0, decide_eq_false h1]; rfl
      have HR := Lib.hid hr
      have hz : ((b.length : Int) == 0) = false := beq_eq_false_iff_ne.2 (by omega)
      have hy : decide (1048576 < (b.length : Int)) = false := decide_eq_false (by omega)
      clear hr
      go_enter Try.func15, Try.ntmps15
      go_wp2_with fail
      refine (each_has b.length (by omega) (by omega) key hkey _ _ _
        (fun k wr => HasInv w A b.length c true wr ∧ ∀ i, i < k → bitOf b (bitN b.length key i) = true)
        (fun wr => HasInv w A b.length c false wr ∧ ∃ i, i < 6 ∧ bitOf b (bitN b.length key i) = false)
        (fun w' h => ⟨HasInv.start h, fun i hi => by omega⟩)
        (fun i w' hi hI => (has1_calls w' w.heap.size (w.heap.size + 1) A c b _ (bitN b.length key i) (bitN_lt (by omega) key i) (by omega) hb (cell_of_one hI.1.box) hI.1.all (Kd.C_below hc hI.1.below)).mono ?_)).mono ?_
      · rintro e w'' ⟨rfl, rfl⟩
        refine ⟨_, rfl, fun hg => ?_, fun hg => ?_⟩
        · rw [hg]
          refine ⟨hI.1.step true, fun j hj => ?_⟩
          rcases Nat.lt_or_ge j i with h | h
          · exact hI.2 j h
          · obtain rfl : j = i := by omega
            exact hg
        · rw [hg]
          exact ⟨hI.1.step false, i, hi, hg⟩
      · rintro e w' ⟨rfl, hI⟩
        obtain ⟨v, hv, ha, hbl⟩ : ∃ v, allSet b key = v ∧ w'.heap[w.heap.size + 1]? = some (.cells #[.bool v] 4 (0, 0)) ∧ Below w.heap.size w w' := by
          rcases hI with hI | hI
          · exact ⟨true, allSet_true hI.2, hI.1.all, hI.1.below⟩
          · obtain ⟨h, i, hi, hb⟩ := hI
            exact ⟨false, allSet_false hi hb, h.all, h.below⟩
        have hcell := cell_of_one ha
        have HV := Lib.hid (HR.out.trans hv)
        clear hI hv ha
        go_wp2
        go_ret
        exact ⟨by rw [HV.out]; rfl, hbl⟩
end Go.Proofs.Ytnppeoophmihmaa.Sv
