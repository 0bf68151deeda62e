/- Layer 11: whether a key may be there, by the reference; no condition beyond the bounds that each lemma names. -/
import Derived.Test.YtnppeoophmihmaaSvD
namespace Go.Proofs.Ytnppeoophmihmaa.Sv
open Go.RowKit Go.Proofs.Ytnppeoophmihmaa.CrcP Go.Proofs.Ytnppeoophmihmaa.PCrc Go.Proofs.YtnppeoophmihmaaW.PrintWords Go.Proofs.YtnppeoophmihmaaW.PrintLast Go.Proofs.YtnppeoophmihmaaW.PrintMore
set_option linter.unusedVariables false

theorem refBits_get (n : Nat) (key : ByteArray) (k j : Nat) (hj : j < k) : (refBits n key k).getD j 0 = (bitN n key j : Int) := by
  unfold refBits
  rw [List.getD_eq_getElem?_getD, List.getElem?_map, List.getElem?_range hj]
  rfl
/-- The list of bits, as it is read. -/
theorem refBits_row {w : World} {B : Nat} {v : Value} {n : Nat} {key : ByteArray} (h : w.ownsRow B 3 1 v (refBits n key 6).length (nums .i64 (refBits n key 6))) :
    ∃ g c, v = .slice (some ⟨g, 0, none⟩) 6 c ∧ ∀ j, j < 6 → w.cell? ⟨g, j, none⟩ = some (.int .i64 (bitN n key j : Int)) := by
  rw [refBits_length] at h
  obtain ⟨g, c, rfl, _⟩ := h.form (by decide)
  refine ⟨g, c, rfl, fun j hj => ?_⟩
  obtain ⟨A, c', he, hr⟩ := own_reads (k := .i64) (xs := refBits n key 6) h
  obtain ⟨ad, hA, hc⟩ := hr.2.2 (by decide)
  injection he with e1
  rw [hA] at e1
  injection e1 with e1
  have := hc j hj
  rw [← e1, add_plain, refBits_get n key 6 j hj] at this
  exact this
def halves (x m : Nat) : Nat := x / 2 ^ m
theorem halves_zero (x : Nat) : halves x 0 = x := by simp [halves]
theorem halves_succ (x m : Nat) : ((halves x m : Nat) : Int) / 2 = (halves x (m + 1) : Int) := by
  unfold halves
  rw [Nat.pow_succ, ← Nat.div_div_eq_div_mul]
  rfl
theorem halves_lt (x m : Nat) (hx : x < 256) : halves x m < 256 := Nat.lt_of_le_of_lt (Nat.div_le_self _ _) hx
theorem halves_bit {x m : Nat} {t : Bool} (h : x.testBit m = t) : (((halves x m : Nat) : Int) % 2 == 0) = !t := by
  unfold halves
  rw [← h, Nat.testBit_eq_decide_div_mod_eq]
  generalize x / 2 ^ m = q
  by_cases e : q % 2 = 1
  · rw [decide_eq_true e]
    exact beq_eq_false_iff_ne.2 (by omega)
  · rw [decide_eq_false e]
    exact beq_iff_eq.2 (by omega)

set_option maxHeartbeats 8000000 in
set_option maxRecDepth 100000 in
theorem refHas_calls (b : List Nat) (hb : ∀ x ∈ b, x < 256) (hl : b.length ≤ 9223372036854775807) (key : ByteArray) (hkey : key.size ≤ 140737488351232) (A : Option Addr) (c : Nat) (w : World) (hc : (Kd.int .u8).C w A b.length (B b)) :
    Calls Try.prog 16 #[.slice A b.length c, .string key] w fun e w' => e = .returned (.bool (hasB b key)) ∧ Below w.heap.size w w' := by
  by_cases h0 : b.length = 0
  · have hr : hasB b key = true := by unfold hasB; rw [decide_eq_true h0]; rfl
    have HR := Lib.hid hr
    have hz : ((b.length : Int) == 0) = true := by rw [h0]; rfl
    clear hr h0 hc
    generalize b.length = n at hz hl ⊢
    go_enter Try.func16, Try.ntmps16
    go_wp2
    go_ret
    exact ⟨by rw [HR.out]; rfl, Below.refl _ _⟩
  · by_cases h1 : 1048576 < b.length
    · have hr : hasB b key = true := by unfold hasB; rw [decide_eq_true h1]; simp
      have HR := Lib.hid hr
      have hz : ((b.length : Int) == 0) = false := beq_eq_false_iff_ne.2 (by omega)
      have hy : decide (1048576 < (b.length : Int)) = true := decide_eq_true (by omega)
      clear hr
      go_enter Try.func16, Try.ntmps16
      go_wp2
      go_ret
      exact ⟨by rw [HR.out]; rfl, Below.refl _ _⟩
    · have hr : hasB b key = allSet b key := by unfold hasB; rw [decide_eq_false h0, decide_eq_false h1]; rfl
      have HR := Lib.hid hr
      have hz : ((b.length : Int) == 0) = false := beq_eq_false_iff_ne.2 (by omega)
      have hy : decide (1048576 < (b.length : Int)) = false := decide_eq_false (by omega)
      clear hr
      go_enter Try.func16, Try.ntmps16
      go_wp2_with fail
      refine (bits_calls b.length (by omega) (by omega) key hkey w).mono ?_
      rintro e w1 ⟨v, rfl, hown, hbel⟩
      obtain ⟨g, cg, rfl, hrow⟩ := refBits_row hown
      have HC := Lib.hid (Kd.C_below hc hbel)
      have HROW := Lib.hid hrow
      clear hown hrow hc
      go_wp2
      go_loop [6] (fun i => ∃ k : Nat, k ≤ 6 ∧ i = .int .i64 (k : Int) ∧ Aside0 (∀ j, j < k → bitOf b (bitN b.length key j) = true)) (fun i => 6 - (intOf i).toNat)
      case atStart => exact ⟨0, by omega, rfl, ⟨fun j hj => by omega⟩⟩
      case round =>
        obtain ⟨k, hk6, rfl, hset⟩ := hrel
        by_cases h6 : k < 6
        · have hcl := HROW.out k h6
          have hm := bitN_lt (n := b.length) (by omega) key k
          obtain ⟨ad, rfl, hcb⟩ := Kd.at_int HC.out ((bitN b.length key k / 8 : Nat) : Int) (by omega) (by omega)
          rw [rdB, Int.toNat_natCast] at hcb
          have hx := rdB_lt hb (bitN b.length key k / 8)
          have HT := Lib.hid (show (b.getD (bitN b.length key k / 8) 0).testBit (bitN b.length key k % 8) = bitOf b (bitN b.length key k) from rfl)
          generalize b.getD (bitN b.length key k / 8) 0 = x at hcb hx HT
          generalize hmm : bitN b.length key k = m at *
          have HMM := Lib.hid hmm
          clear hmm
          go_wp2
          go_loop [7, 8] (fun v q => ∃ j : Nat, j ≤ m % 8 ∧ q = .int .i64 (j : Int) ∧ v = .int .u8 (halves x j : Int)) (fun _ q => m % 8 - (intOf q).toNat)
          case atStart => exact ⟨0, by omega, rfl, by rw [halves_zero]⟩
          case round =>
            obtain ⟨j, hj, rfl, rfl⟩ := hrel
            have hlt := halves_lt x j hx
            by_cases hjm : j < m % 8
            · have HS := Lib.hid (halves_succ x j)
              go_wp2
              rw [HS.out]
              go_round
              case rel => exact ⟨j + 1, by omega, by go_num, rfl⟩
              case measure => simp [intOf]; omega
            · obtain rfl : j = m % 8 := by omega
              have hbit := halves_bit HT.out
              cases ht : bitOf b m with
              | true =>
                rw [ht] at hbit
                simp only [Bool.not_true] at hbit
                have HTT := Lib.hid ht
                clear ht
                go_wp2
                go_round
                case rel =>
                  refine ⟨k + 1, by omega, by go_num, ⟨fun i hi => ?_⟩⟩
                  rcases Nat.lt_or_ge i k with h | h
                  · exact hset.out i h
                  · obtain rfl : i = k := by omega
                    rw [HMM.out]
                    exact HTT.out
                case measure => simp [intOf]; omega
              | false =>
                rw [ht] at hbit
                simp only [Bool.not_false] at hbit
                have HV := Lib.hid (HR.out.trans (allSet_false h6 (by rw [HMM.out]; exact ht)))
                clear ht
                go_wp2
                go_ret
                exact ⟨by rw [HV.out]; rfl, hbel⟩
        · obtain rfl : k = 6 := by omega
          have HV := Lib.hid (HR.out.trans (allSet_true hset.out))
          go_wp2
          go_ret
          exact ⟨by rw [HV.out]; rfl, hbel⟩
end Go.Proofs.Ytnppeoophmihmaa.Sv
