/- Layer 11: what a key's bits in a sieve are, in plain numbers, and that the sieve's and the reference's functions tell them; no condition beyond the bounds that each lemma names. -/
import Derived.Test.YtnppeoophmihmaaCrcA
import Derived.Test.YtnppeoophmihmaaPSieveHasx1
import Derived.OneCell
import Derived.LoopN
import Derived.Lib.Hide
namespace Go.Proofs.Ytnppeoophmihmaa.Sv
open Go.RowKit Go.Proofs.Ytnppeoophmihmaa.CrcP Go.Proofs.Ytnppeoophmihmaa.PCrc Go.Proofs.YtnppeoophmihmaaW.PrintWords Go.Proofs.YtnppeoophmihmaaW.PrintLast Go.Proofs.YtnppeoophmihmaaW.PrintMore
set_option linter.unusedVariables false

/-! ### plain numbers -/
def keyBytes (key : ByteArray) : List Nat := key.data.toList.map (fun b => b.toNat)
theorem keyBytes_lt (key : ByteArray) : ∀ x ∈ keyBytes key, x < 256 := by
  intro x hx
  obtain ⟨b, _, rfl⟩ := List.mem_map.1 hx
  exact b.toNat_lt
theorem keyBytes_length (key : ByteArray) : (keyBytes key).length = key.size := by
  unfold keyBytes
  rw [List.length_map, Array.length_toList]
  rfl
def hh (key : ByteArray) : Nat := (sum (keyBytes key)).toNat
theorem hh_lt (key : ByteArray) : hh key < 4294967296 := (sum (keyBytes key)).isLt
def rot (h : Nat) : Nat := h * 131072 % 4294967296 + h / 32768
def odd (d : Nat) : Nat := if d % 2 = 0 then d + 1 else d
def dd (key : ByteArray) : Nat := odd (rot (hh key))
theorem rot_lt (h : Nat) (hb : h < 4294967296) : rot h < 4294967296 := by unfold rot; omega
theorem odd_lt (d : Nat) (hb : d < 4294967296) : odd d < 4294967296 := by unfold odd; split <;> omega
theorem dd_lt (key : ByteArray) : dd key < 4294967296 := odd_lt _ (rot_lt _ (hh_lt key))
def hk (key : ByteArray) (i : Nat) : Nat := (hh key + i * dd key) % 4294967296
theorem hk_lt (key : ByteArray) (i : Nat) : hk key i < 4294967296 := Nat.mod_lt _ (by decide)
theorem hk_succ (key : ByteArray) (i : Nat) : (hk key i + dd key) % 4294967296 = hk key (i + 1) := by
  unfold hk
  rw [Nat.add_mul, Nat.one_mul, ← Nat.add_assoc]
  omega
def bitN (n : Nat) (key : ByteArray) (i : Nat) : Nat := hk key i % (8 * n)
theorem bitN_lt {n : Nat} (hn : 1 ≤ n) (key : ByteArray) (i : Nat) : bitN n key i < 8 * n := Nat.mod_lt _ (by omega)
theorem or32 (a b : Nat) (ha : a < 4294967296) (hb : b < 4294967296) : Go.bits .or .u32 (a : Int) (b : Int) = ((a ||| b : Nat) : Int) := by
  show IntKind.u32.wrap ((BitVec.ofInt 32 (a : Int) ||| BitVec.ofInt 32 (b : Int)).toNat : Int) = _
  have hx : a ||| b < 2 ^ 32 := Nat.or_lt_two_pow ha hb
  rw [BitVec.ofInt_natCast, BitVec.ofInt_natCast, BitVec.toNat_or, BitVec.toNat_ofNat, BitVec.toNat_ofNat, Nat.mod_eq_of_lt ha, Nat.mod_eq_of_lt hb, IntKind.wrap_u32]
  omega
theorem or_one (d : Nat) : d ||| 1 = odd d := by
  unfold odd
  have h : ∀ a : Nat, 2 * a + 1 = 2 * a ||| 1 := fun a => Nat.two_pow_add_eq_or_of_lt (i := 1) (by decide) a
  split
  · have e : d = 2 * (d / 2) := by omega
    rw [e, ← h]
  · have e : d = 2 * (d / 2) + 1 := by omega
    rw [e, h, Nat.or_assoc, Nat.or_self]
theorem rotate (h : Nat) (hb : h < 4294967296) : PSieveHas.bits_RotateLeft32.f (h : Int) 17 = some (rot h : Int) := by
  unfold PSieveHas.bits_RotateLeft32.f
  have e1 : Go.bits .and .u64 (IntKind.u64.wrap 17) 31 = 17 := by decide
  have e2 : IntKind.u64.wrap (32 - 17) = 15 := by decide
  rw [e1, if_pos (by decide), e2, if_pos (by decide)]
  congr 1
  have s1 : shl .u32 (h : Int) 17 = ((h * 131072 % 4294967296 : Nat) : Int) := by
    show IntKind.u32.wrap ((h : Int) * 2 ^ 17) = _
    rw [IntKind.wrap_u32]
    omega
  have s2 : shr .u32 (h : Int) 15 = ((h / 32768 : Nat) : Int) := by
    show (h : Int) / 2 ^ 15 = _
    omega
  rw [s1, s2, or32 _ _ (by omega) (by omega)]
  unfold rot
  have e : h * 131072 % 4294967296 = 2 ^ 17 * (h % 32768) := by omega
  rw [e, Nat.two_pow_add_eq_or_of_lt (i := 17) (by omega)]
/-- The conversion of a text to bytes reads as its bytes. -/
theorem conv_reads (w : World) (e : TypeId) (key : ByteArray) (hk : key.size ≤ 9223372036854775807) : (Kd.int .u8).C (Lib.bytesWorld w e key) (some ⟨w.heap.size, 0, none⟩) (B (keyBytes key)).length (B (keyBytes key)) := by
  refine ⟨rfl, by rw [B_length, keyBytes_length]; exact hk, fun _ => ⟨_, rfl, fun j p hp => ⟨[.int .u8 p], rfl, rfl, fun i u hu => ?_⟩⟩⟩
  cases i with
  | zero =>
    simp only [List.getElem?_cons_zero, Option.some.injEq] at hu
    subst hu
    have hj : j < key.size := by
      have := (List.getElem?_eq_some_iff.1 hp).1
      rwa [B_length, keyBytes_length] at this
    rw [add_plain, show j * (Kd.int IntKind.u8).sz + 0 = j from by show j * 1 + 0 = j; omega, Lib.bytesWorld_cell w e key j hj]
    congr 2
    have hp' : ((key.data.toList.map (fun b => b.toNat)).map (fun (n : Nat) => ((n : Nat) : Int)))[j]? = some p := hp
    rw [List.map_map, List.getElem?_map] at hp'
    rw [List.getD_eq_getElem?_getD]
    cases h : key.data.toList[j]? with
    | none => rw [h] at hp'; simp at hp'
    | some y => rw [h] at hp'; simpa using hp'
  | succ i => simp at hu
theorem conv_below (w : World) (e : TypeId) (key : ByteArray) : Below w.heap.size w (Lib.bytesWorld w e key) where
  os := rfl
  tape := rfl
  output := rfl
  size := by rw [Lib.bytesWorld_size]; omega
  block := fun i hi => Lib.bytesWorld_at_old w e key i hi

/-! ### the closure of Has -/
theorem bit_told (x m : Nat) (hx : x < 256) : (Go.bits .and .u8 ((x : Int) / 2 ^ (m % 8)) 1 == 1) = x.testBit (m % 8) := by
  have e : (x : Int) / 2 ^ (m % 8) = ((x / 2 ^ (m % 8) : Nat) : Int) := by simp
  have hl : x / 2 ^ (m % 8) < 2 ^ 8 := Nat.lt_of_le_of_lt (Nat.div_le_self _ _) hx
  rw [e, Nat.testBit_eq_decide_div_mod_eq]
  generalize x / 2 ^ (m % 8) = q at hl
  have h := (bits_nat .u8 8 (by decide) wraps_u8 q 1 hl (by decide)).1
  rw [show ((1 : Nat) : Int) = 1 from rfl] at h
  rw [h, Nat.and_one_is_mod]
  by_cases h1 : q % 2 = 1
  · rw [decide_eq_true h1, h1]
    rfl
  · have h0 : q % 2 = 0 := by omega
    rw [decide_eq_false h1, h0]
    rfl
set_option maxHeartbeats 4000000 in
set_option maxRecDepth 100000 in
theorem has1_calls (w : World) (bb ba : Nat) (A : Option Addr) (c : Nat) (b : List Nat) (v0 : Value) (m : Nat) (hm : m < 8 * b.length) (hn : b.length ≤ 1048576) (hb : ∀ x ∈ b, x < 256)
    (hB : w.cell? ⟨bb, 0, none⟩ = some (.slice A b.length c)) (hA : w.heap[ba]? = some (.cells #[v0] 4 (0, 0)))
    (hc : (Kd.int .u8).C w A b.length (B b)) :
    Calls Try.prog 21 #[.int .i64 (m : Int), .pointer (some ⟨bb, 0, none⟩), .pointer (some ⟨ba, 0, none⟩)] w fun e w' => e = .returned (.bool (bitOf b m)) ∧ w' = w.setCell ⟨ba, 0, none⟩ (.bool (bitOf b m)) := by
  have hA0 := cell_of_one hA
  have hA1 := free_of_one hA
  obtain ⟨ad, rfl, hcell⟩ := Kd.at_int hc ((m / 8 : Nat) : Int) (by omega) (by omega)
  rw [rdB, Int.toNat_natCast] at hcell
  have hx := rdB_lt hb (m / 8)
  have ht := bit_told (b.getD (m / 8) 0) m hx
  clear hc hA
  rw [show (b.getD (m / 8) 0).testBit (m % 8) = bitOf b m from rfl] at ht
  generalize b.getD (m / 8) 0 = x at *
  have HT := Lib.hid ht
  clear ht
  go_enter Try.func21, Try.ntmps21
  go_wp2
  rw [HT.out]
  go_ret
  exact ⟨rfl, rfl⟩
end Go.Proofs.Ytnppeoophmihmaa.Sv
