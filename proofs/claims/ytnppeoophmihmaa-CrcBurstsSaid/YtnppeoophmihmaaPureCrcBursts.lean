/- Layer 1, the theorem of bursts: bytes some of whose bits are turned, all within 32 in a row, have another sum: of the printed functions, for every input within the bounds that the statement itself names. -/
import Derived.Test.YtnppeoophmihmaaCrcA
import Derived.Test.YtnppeoophmihmaaPCrcx2
namespace Go.Proofs.Ytnppeoophmihmaa.Pure
open Go.RowKit Go.Proofs.Ytnppeoophmihmaa.CrcP Go.Proofs.Ytnppeoophmihmaa.PCrc Go.Proofs.YtnppeoophmihmaaW.PrintWords Go.Proofs.YtnppeoophmihmaaW.PrintLast Go.Proofs.YtnppeoophmihmaaW.PrintMore

/-! ### one bit turned -/
def turnBit (c : List Nat) (n : Nat) : List Nat := c.set (n / 8) (c.getD (n / 8) 0 ^^^ 2 ^ (n % 8))
theorem turnBit_length (c : List Nat) (n : Nat) : (turnBit c n).length = c.length := by simp [turnBit]
theorem turnBit_lt {c : List Nat} (hc : ∀ x ∈ c, x < 256) (n : Nat) : ∀ x ∈ turnBit c n, x < 256 := by
  intro x hx
  unfold turnBit at hx
  rcases List.mem_or_eq_of_mem_set hx with h | rfl
  · exact hc x h
  · refine Nat.xor_lt_two_pow (n := 8) (rdB_lt hc _) ?_
    exact Nat.pow_lt_pow_right (by decide) (by omega)
theorem turnBit_bit {c : List Nat} (n : Nat) (hn : n < 8 * c.length) (j : Nat) : bitOf (turnBit c n) j = (bitOf c j ^^ decide (j = n)) := by
  unfold bitOf turnBit
  rw [List.getD_eq_getElem?_getD, List.getElem?_set]
  by_cases h : n / 8 = j / 8
  · rw [if_pos h, if_pos (by omega), Option.getD_some, Nat.testBit_xor, Nat.testBit_two_pow, h]
    congr 1
    by_cases e : j = n
    · rw [decide_eq_true e, decide_eq_true (by omega)]
    · rw [decide_eq_false e, decide_eq_false (by omega)]
  · rw [if_neg h, ← List.getD_eq_getElem?_getD, decide_eq_false (by omega), Bool.xor_false]
theorem B_turn (c : List Nat) (hc : ∀ x ∈ c, x < 256) (n : Nat) : (B c).set (n / 8) (Go.bits .xor .u8 (rd (B c) ((n / 8 : Nat) : Int)) ((2 ^ (n % 8) : Nat) : Int)) = B (turnBit c n) := by
  rw [rdB, xor8 _ _ (rdB_lt hc _) (show 2 ^ (n % 8) < 2 ^ 8 from Nat.pow_lt_pow_right (by decide) (by omega))]
  unfold turnBit B
  rw [List.map_set]
theorem shl_one (t : Nat) (ht : t < 8) : shl .u8 1 (t : Int) = ((2 ^ t : Nat) : Int) := by
  rcases (show t = 0 ∨ t = 1 ∨ t = 2 ∨ t = 3 ∨ t = 4 ∨ t = 5 ∨ t = 6 ∨ t = 7 by omega) with rfl | rfl | rfl | rfl | rfl | rfl | rfl | rfl <;> decide
theorem shr_bit (p : Nat) (i : Nat) (hi : i < 32) : Int.tmod (shr .u32 (p : Int) (i : Int)) 2 = if p.testBit i then 1 else 0 := by
  have e : shr .u32 (p : Int) (i : Int) = ((p / 2 ^ i : Nat) : Int) := by
    unfold shr
    rw [Int.toNat_natCast, Nat.min_eq_left (show i ≤ IntKind.u32.bits from by show i ≤ 32; omega)]
    simp
  rw [e, Nat.testBit_eq_decide_div_mod_eq]
  generalize p / 2 ^ i = q
  rw [Int.tmod_eq_emod_of_nonneg (by omega)]
  by_cases h : q % 2 = 1
  · rw [decide_eq_true h, if_pos rfl]
    omega
  · rw [decide_eq_false h, if_neg (by simp)]
    omega
theorem wrap_u64 (n : Nat) (h : n < 4294967296) : IntKind.u64.wrap (n : Int) = (n : Int) := by
  simp only [IntKind.wrap, IntKind.bits, IntKind.signed, Bool.false_and, Bool.false_eq_true, if_false]
  omega

/-! ### the loop -/
/-- What the loop has made behind i rounds. -/
structure Made (b : List Nat) (K p i : Nat) (c : List Nat) (t : Bool) : Prop where
  len : c.length = b.length
  lt : ∀ x ∈ c, x < 256
  bit : ∀ j, j < 8 * b.length → bitOf c j = (bitOf b j ^^ (decide (K ≤ j) && (decide (j < K + i) && p.testBit (j - K))))
  told : t = true ↔ ∃ u, u < i ∧ K + u < 8 * b.length ∧ p.testBit u = true
theorem Made.start {b : List Nat} (hb : ∀ x ∈ b, x < 256) (K p : Nat) : Made b K p 0 b false where
  len := rfl
  lt := hb
  bit := fun j hj => by
    by_cases h : K ≤ j
    · rw [decide_eq_false (show ¬ j < K + 0 by omega)]
      simp
    · rw [decide_eq_false h]
      simp
  told := ⟨fun h => by simp at h, fun ⟨u, h, _⟩ => by omega⟩
theorem Made.skip {b : List Nat} {K p i : Nat} {c : List Nat} {t : Bool} (h : Made b K p i c t) (hp : p.testBit i = false) : Made b K p (i + 1) c t where
  len := h.len
  lt := h.lt
  bit := fun j hj => by
    rw [h.bit j hj]
    congr 1
    by_cases e : j = K + i
    · rw [show j - K = i from by omega, hp]
      simp
    · by_cases e2 : j < K + i
      · rw [decide_eq_true e2, decide_eq_true (show j < K + (i + 1) by omega)]
      · rw [decide_eq_false e2, decide_eq_false (show ¬ j < K + (i + 1) by omega)]
  told := by
    rw [h.told]
    constructor
    · rintro ⟨u, h1, h2, h3⟩
      exact ⟨u, by omega, h2, h3⟩
    · rintro ⟨u, h1, h2, h3⟩
      refine ⟨u, ?_, h2, h3⟩
      rcases Nat.lt_or_ge u i with h4 | h4
      · exact h4
      · obtain rfl : u = i := by omega
        rw [hp] at h3
        simp at h3
theorem Made.turn {b : List Nat} {K p i : Nat} {c : List Nat} {t : Bool} (h : Made b K p i c t) (hp : p.testBit i = true) (hi : K + i < 8 * b.length) : Made b K p (i + 1) (turnBit c (K + i)) true where
  len := by rw [turnBit_length, h.len]
  lt := turnBit_lt h.lt _
  bit := fun j hj => by
    rw [turnBit_bit _ (by rw [h.len]; exact hi), h.bit j hj, Bool.xor_assoc]
    congr 1
    by_cases e : j = K + i
    · rw [decide_eq_true e, decide_eq_false (show ¬ j < K + i by omega), decide_eq_true (show j < K + (i + 1) by omega), decide_eq_true (show K ≤ j by omega), show j - K = i from by omega, hp]
      rfl
    · rw [decide_eq_false e, Bool.xor_false]
      by_cases e2 : j < K + i
      · rw [decide_eq_true e2, decide_eq_true (show j < K + (i + 1) by omega)]
      · rw [decide_eq_false e2, decide_eq_false (show ¬ j < K + (i + 1) by omega)]
  told := ⟨fun _ => ⟨i, by omega, hi, hp⟩, fun _ => rfl⟩
theorem Made.fin {b : List Nat} (hb : ∀ x ∈ b, x < 256) {K p i : Nat} {c : List Nat} {t : Bool} (h : Made b K p i c t) (hK : K < 8 * b.length) (hi : i ≤ 32) (hend : i = 32 ∨ 8 * b.length ≤ K + i) :
    ((V (sum b) != V (sum c)) == t) = true := by
  have hbit : ∀ j, j < 8 * b.length → bitOf c j = (bitOf b j ^^ (decide (K ≤ j) && (decide (j < K + 32) && p.testBit (j - K)))) := by
    intro j hj
    rw [h.bit j hj]
    congr 1
    by_cases e : j < K + i
    · rw [decide_eq_true e, decide_eq_true (show j < K + 32 by omega)]
    · rw [decide_eq_false e, decide_eq_false (show ¬ j < K + 32 by omega)]
  have hm := burst b c hb h.lt h.len K p hK hbit (BitVec.allOnes 32)
  have hs : V (sum b) = V (sum c) ↔ run (BitVec.allOnes 32) b = run (BitVec.allOnes 32) c := by
    constructor
    · intro e
      have := V_inj e
      unfold sum at this
      exact BitVec.not_inj.1 this
    · intro e
      unfold sum
      rw [e]
  rw [beq_iff_eq, Bool.eq_iff_iff, bne_iff_ne, h.told]
  constructor
  · intro hne
    refine Decidable.byContradiction fun hno => hne (hs.2 (hm.2 fun u hu1 hu2 => ?_))
    cases hp : p.testBit u with
    | false => rfl
    | true => exact absurd ⟨u, by omega, hu2, hp⟩ hno
  · rintro ⟨u, h1, h2, h3⟩ e
    have := hm.1 (hs.1 e) u (by omega) h2
    rw [h3] at this
    simp at this
theorem bursts_end {b : List Nat} (hb : ∀ x ∈ b, x < 256) (hl : b.length ≤ 2000) {K p i : Nat} {c : List Nat} {t : Bool} (h : Made b K p i c t) (hK : K < 8 * b.length) (hi : i ≤ 32) (hend : i = 32 ∨ 8 * b.length ≤ K + i)
    (k : Nat) (hk : 10 * b.length + 101 ≤ k) (x : Int) (y z : Int) : garnerlaw01_CrcBursts.j2 k (B b) x y (B c) t z false = some true := by
  obtain ⟨k, rfl⟩ : ∃ m, k = m + 1 := ⟨k - 1, by omega⟩
  rw [garnerlaw01_CrcBursts.j2, if_neg (by simp), of_f k b hb (by omega) (by omega), Option.bind_some, of_f k c h.lt (by rw [h.len]; omega) (by rw [h.len]; omega), Option.bind_some, if_pos (h.fin hb hK hi hend), awake_f k (by omega)]
  rfl
theorem bursts_loop {b : List Nat} (hb : ∀ x ∈ b, x < 256) (hl : b.length ≤ 2000) {K p : Nat} (hK : K < 8 * b.length) (d : Nat) :
    ∀ (i k : Nat) (c : List Nat) (t : Bool), i + d = 32 → Made b K p i c t → 2 * d + 10 * b.length + 110 ≤ k → garnerlaw01_CrcBursts.l0 k (B b) (p : Int) (K : Int) (B c) t (i : Int) = some true := by
  induction d with
  | zero =>
    intro i k c t hi h hk
    obtain ⟨k, rfl⟩ : ∃ m, k = m + 1 := ⟨k - 1, by omega⟩
    rw [garnerlaw01_CrcBursts.l0, if_neg (by omega), bursts_end hb hl h hK (by omega) (.inl (by omega)) k (by omega)]
  | succ d ih =>
    intro i k c t hi h hk
    obtain ⟨k, rfl⟩ : ∃ m, k = m + 1 + 1 := ⟨k - 2, by omega⟩
    rw [garnerlaw01_CrcBursts.l0, if_pos (by omega), show ((K : Int) + (i : Int)) = ((K + i : Nat) : Int) from by omega, wrap64_nat _ (by omega), B_length, show (8 * (b.length : Int)) = ((8 * b.length : Nat) : Int) from by omega, wrap64_nat _ (by omega)]
    by_cases e : K + i < 8 * b.length
    · rw [decide_eq_true (by omega), garnerlaw01_CrcBursts.j2, if_pos rfl, wrap_u64 _ (by omega), if_pos (by omega), shr_bit p i (by omega)]
      have hn : ((i : Int) + 1) = ((i + 1 : Nat) : Int) := by omega
      cases hp : p.testBit i with
      | false =>
        rw [if_neg (by decide), hn, wrap64_nat _ (by omega), ih (i + 1) k c t (by omega) (h.skip hp) (by omega)]
      | true =>
        rw [if_pos (by decide), show ((K : Int) + (i : Int)) = ((K + i : Nat) : Int) from by omega, wrap64_nat (K + i) (by omega), show Int.tdiv ((K + i : Nat) : Int) 8 = (((K + i) / 8 : Nat) : Int) from by rw [Int.tdiv_eq_ediv_of_nonneg (by omega)]; omega,
          wrap64_nat _ (by omega), if_pos (by omega), if_pos (by rw [B_length, h.len]; omega), show Int.tmod ((K + i : Nat) : Int) 8 = (((K + i) % 8 : Nat) : Int) from by rw [Int.tmod_eq_emod_of_nonneg (by omega)]; omega,
          wrap_u64 _ (by omega), if_pos (by omega), shl_one _ (by omega), Int.toNat_natCast, B_turn c h.lt, hn, wrap64_nat _ (by omega), ih (i + 1) k _ true (by omega) (h.turn hp e) (by omega)]
    · rw [decide_eq_false (by omega), bursts_end hb hl h hK (by omega) (.inr (by omega)) (k + 1) (by omega)]
theorem bursts_long (k : Nat) (a : List Int) (x y : Int) (hk : 101 ≤ k) : garnerlaw01_CrcBursts.j0 k a x y true = some true := by
  obtain ⟨k, rfl⟩ : ∃ m, k = m + 1 := ⟨k - 1, by omega⟩
  rw [garnerlaw01_CrcBursts.j0, if_pos rfl, awake_f k (by omega)]
  rfl
theorem CrcBursts : garnerlaw01_CrcBursts.Pure := by
  intro l0 a1 a2 _ hr0 hw0 h1 h2
  obtain ⟨b, rfl, hb⟩ := B_of hw0
  rw [B_length] at hr0
  simp only [Lit.wf, IntKind.min, IntKind.max, IntKind.signed, IntKind.bits, Bool.and_eq_true, decide_eq_true_eq, Bool.false_eq_true, if_false] at h1 h2
  obtain ⟨at_, rfl⟩ := Int.eq_ofNat_of_zero_le (show 0 ≤ a1 by omega)
  obtain ⟨p, rfl⟩ := Int.eq_ofNat_of_zero_le (show 0 ≤ a2 by omega)
  obtain ⟨K, hK⟩ : ∃ K, K = 10 * b.length + 300 := ⟨_, rfl⟩
  refine ⟨K + 1, ?_⟩
  unfold garnerlaw01_CrcBursts.f
  by_cases h : ((B b).length : Int) = 0
  · rw [if_pos h, bursts_long _ _ _ _ (by omega)]
  · rw [if_neg h]
    by_cases h3 : ((B b).length : Int) > 2000
    · rw [decide_eq_true h3, bursts_long _ _ _ _ (by omega)]
    · rw [decide_eq_false h3, garnerlaw01_CrcBursts.j0, if_neg (by simp)]
      rw [B_length] at h h3
      rw [B_length, show (8 * (b.length : Int)) = ((8 * b.length : Nat) : Int) from by omega, wrap64_nat _ (by omega), if_neg (by omega), Option.bind_some, if_pos (by simp; omega), wrap64_nat _ (by omega),
        show Int.tmod ((at_ : Nat) : Int) ((8 * b.length : Nat) : Int) = ((at_ % (8 * b.length) : Nat) : Int) from by rw [Int.tmod_eq_emod_of_nonneg (by omega)]; simp, List.nil_append]
      have := bursts_loop hb (by omega) (Nat.mod_lt at_ (show 0 < 8 * b.length by omega)) 32 0 K b false (by omega) (Made.start hb _ p) (by omega)
      simpa using this

end Go.Proofs.Ytnppeoophmihmaa.Pure
