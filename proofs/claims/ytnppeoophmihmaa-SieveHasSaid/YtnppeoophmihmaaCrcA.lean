/- What the sum of bytes is, in plain words of bits (the register, fed bit by bit, is linear and never forgets a bit), and that the printed functions of layer 1 and of its reference tell it; no condition beyond the bounds that each lemma names. -/
import Derived.Test.YtnppeoophmihmaaPCrcx1
namespace Go.Proofs.Ytnppeoophmihmaa.CrcP
open Go.RowKit Go.Proofs.Ytnppeoophmihmaa.PCrc Go.Proofs.YtnppeoophmihmaaW.PrintWords Go.Proofs.YtnppeoophmihmaaW.PrintLast Go.Proofs.YtnppeoophmihmaaW.PrintMore


/-- one step of the register, no bit fed -/
def poly : BitVec 32 := 0x82f63b78#32
def st (r : BitVec 32) : BitVec 32 := (r >>> 1) ^^^ (if r.getLsbD 0 then poly else 0#32)
def stn : Nat → BitVec 32 → BitVec 32
  | 0, r => r
  | n + 1, r => stn n (st r)

theorem xor_ac (a b c d : BitVec 32) : (a ^^^ b) ^^^ (c ^^^ d) = (a ^^^ c) ^^^ (b ^^^ d) := by
  rw [BitVec.xor_assoc, BitVec.xor_assoc, ← BitVec.xor_assoc b c d, BitVec.xor_comm b c, BitVec.xor_assoc c b d]

theorem st_xor (a b : BitVec 32) : st (a ^^^ b) = st a ^^^ st b := by
  unfold st
  rw [BitVec.ushiftRight_xor_distrib, BitVec.getLsbD_xor, xor_ac]
  congr 1
  cases a.getLsbD 0 <;> cases b.getLsbD 0 <;> simp

theorem st_zero : st 0#32 = 0#32 := by decide
theorem stn_xor (n : Nat) : ∀ a b : BitVec 32, stn n (a ^^^ b) = stn n a ^^^ stn n b := by
  induction n with
  | zero => intro a b; rfl
  | succ n ih => intro a b; simp only [stn, st_xor, ih]
theorem stn_zero (n : Nat) : stn n 0#32 = 0#32 := by
  induction n with
  | zero => rfl
  | succ n ih => simp only [stn, st_zero, ih]
theorem st_ne {a : BitVec 32} (h : a ≠ 0#32) : st a ≠ 0#32 := by
  intro e
  apply h
  unfold st at e
  by_cases hb : a.getLsbD 0 = true
  · rw [if_pos hb] at e
    have := congrArg (fun x : BitVec 32 => x.getLsbD 31) e
    simp [poly] at this
  · rw [if_neg hb] at e
    apply BitVec.eq_of_getLsbD_eq
    intro i hi
    cases i with
    | zero => simpa using hb
    | succ i =>
      have := congrArg (fun x : BitVec 32 => x.getLsbD i) e
      simp at this
      rw [Nat.add_comm, this]; simp
theorem stn_ne (n : Nat) : ∀ {a : BitVec 32}, a ≠ 0#32 → stn n a ≠ 0#32 := by
  induction n with
  | zero => intro a h; exact h
  | succ n ih => intro a h; exact ih (st_ne h)
theorem stn_add (m : Nat) : ∀ (n : Nat) (a : BitVec 32), stn (m + n) a = stn n (stn m a) := by
  induction m with
  | zero => intro n a; rw [Nat.zero_add]; rfl
  | succ m ih => intro n a; rw [show m + 1 + n = (m + n) + 1 from by omega]; simp only [stn]; exact ih n (st a)

/-- feeding bits -/
def bit1 (b : Bool) : BitVec 32 := if b then 1#32 else 0#32
theorem bit1_xor (a b : Bool) : bit1 (a ^^ b) = bit1 a ^^^ bit1 b := by cases a <;> cases b <;> rfl
def feed (m : Nat → Bool) : Nat → Nat → BitVec 32 → BitVec 32
  | _, 0, r => r
  | lo, n + 1, r => feed m (lo + 1) n (st (r ^^^ bit1 (m lo)))
theorem feed_xor (m1 m2 : Nat → Bool) (n : Nat) : ∀ (lo : Nat) (r s : BitVec 32),
    feed (fun j => m1 j ^^ m2 j) lo n (r ^^^ s) = feed m1 lo n r ^^^ feed m2 lo n s := by
  induction n with
  | zero => intro lo r s; rfl
  | succ n ih => intro lo r s; simp only [feed]; rw [bit1_xor, xor_ac, st_xor, ih]
theorem feed_add (m : Nat → Bool) (a : Nat) : ∀ (b lo : Nat) (r : BitVec 32), feed m lo (a + b) r = feed m (lo + a) b (feed m lo a r) := by
  induction a with
  | zero => intro b lo r; rw [Nat.zero_add]; rfl
  | succ a ih => intro b lo r; rw [show a + 1 + b = (a + b) + 1 from by omega]; simp only [feed]; rw [ih]; rw [show lo + 1 + a = lo + (a + 1) from by omega]
theorem feed_congr (m m' : Nat → Bool) (n : Nat) : ∀ (lo : Nat) (r : BitVec 32), (∀ j, lo ≤ j → j < lo + n → m j = m' j) → feed m lo n r = feed m' lo n r := by
  induction n with
  | zero => intro lo r _; rfl
  | succ n ih =>
    intro lo r h
    simp only [feed]
    rw [h lo (Nat.le_refl _) (by omega), ih (lo + 1) _ (fun j h1 h2 => h j (by omega) (by omega))]
theorem feed_none (m : Nat → Bool) (n : Nat) : ∀ (lo : Nat) (r : BitVec 32), (∀ j, lo ≤ j → j < lo + n → m j = false) → feed m lo n r = stn n r := by
  induction n with
  | zero => intro lo r _; rfl
  | succ n ih =>
    intro lo r h
    simp only [feed, stn]
    rw [h lo (Nat.le_refl _) (by omega), ih (lo + 1) _ (fun j h1 h2 => h j (by omega) (by omega))]
    simp [bit1]
/-- feeding the bits of a number p below 2^n is laying it into the register first -/
theorem st_shift (p : BitVec 32) : st p = (p >>> 1) ^^^ st (bit1 (p.getLsbD 0)) := by
  unfold st bit1
  cases p.getLsbD 0 <;> simp
theorem feed_bits (m : Nat → Bool) (n : Nat) : ∀ (lo : Nat) (r p : BitVec 32), (∀ j, j < n → m (lo + j) = p.getLsbD j) → (∀ j, n ≤ j → p.getLsbD j = false) → feed m lo n r = stn n (r ^^^ p) := by
  induction n with
  | zero =>
    intro lo r p _ h
    have : p = 0#32 := BitVec.eq_of_getLsbD_eq fun i _ => by simpa using h i (Nat.zero_le _)
    subst this
    simp [feed, stn]
  | succ n ih =>
    intro lo r p h1 h2
    simp only [feed, stn]
    have h0 := h1 0 (by omega)
    rw [Nat.add_zero] at h0
    rw [ih (lo + 1) _ (p >>> 1) (fun j hj => by rw [BitVec.getLsbD_ushiftRight, Nat.add_comm 1 j, ← h1 (j + 1) (by omega)]; congr 1; omega) (fun j hj => by rw [BitVec.getLsbD_ushiftRight]; exact h2 _ (by omega))]
    congr 1
    rw [h0, st_xor, st_xor, BitVec.xor_assoc, BitVec.xor_comm (st (bit1 _)), ← st_shift]

/-- bytes as Ints: the register behind bytes -/
def byte (r : BitVec 32) (c : Nat) : BitVec 32 := stn 8 (r ^^^ BitVec.ofNat 32 c)
def run (r : BitVec 32) (b : List Nat) : BitVec 32 := b.foldl byte r
theorem run_append (r : BitVec 32) (a b : List Nat) : run r (a ++ b) = run (run r a) b := by simp [run]
theorem run_cons (r : BitVec 32) (c : Nat) (b : List Nat) : run r (c :: b) = run (byte r c) b := rfl
theorem ofNat_xor (a b : Nat) (ha : a < 2 ^ 32) (hb : b < 2 ^ 32) : BitVec.ofNat 32 (a ^^^ b) = BitVec.ofNat 32 a ^^^ BitVec.ofNat 32 b := by
  apply BitVec.eq_of_toNat_eq
  rw [BitVec.toNat_xor, BitVec.toNat_ofNat, BitVec.toNat_ofNat, BitVec.toNat_ofNat, Nat.mod_eq_of_lt ha, Nat.mod_eq_of_lt hb, Nat.mod_eq_of_lt (Nat.xor_lt_two_pow ha hb)]
theorem byte_xor (r s : BitVec 32) (c d : Nat) (hc : c < 256) (hd : d < 256) : byte (r ^^^ s) (c ^^^ d) = byte r c ^^^ byte s d := by
  unfold byte
  rw [ofNat_xor _ _ (by omega) (by omega), xor_ac, stn_xor]
theorem run_xor (a : List Nat) : ∀ (b : List Nat) (r s : BitVec 32), a.length = b.length → (∀ x ∈ a, x < 256) → (∀ x ∈ b, x < 256) →
    run (r ^^^ s) (List.zipWith (· ^^^ ·) a b) = run r a ^^^ run s b := by
  induction a with
  | nil => intro b r s h _ _; cases b with
    | nil => rfl
    | cons => simp at h
  | cons x a ih =>
    intro b r s h ha hb
    cases b with
    | nil => simp at h
    | cons y b =>
      simp only [List.zipWith_cons_cons, run_cons]
      rw [byte_xor r s x y (ha x (by simp)) (hb y (by simp)), ih b _ _ (by simpa using h) (fun z hz => ha z (by simp [hz])) (fun z hz => hb z (by simp [hz]))]

/-- a list's bits -/
def bitOf (b : List Nat) (j : Nat) : Bool := (b.getD (j / 8) 0).testBit (j % 8)
theorem run_feed (b : List Nat) : ∀ (r : BitVec 32) (m : Nat → Bool) (lo : Nat), (∀ x ∈ b, x < 256) → (∀ j, j < 8 * b.length → m (lo + j) = bitOf b j) → run r b = feed m lo (8 * b.length) r := by
  induction b with
  | nil => intro r m lo _ _; rfl
  | cons c b ih =>
    intro r m lo hb hm
    have hc : c < 256 := hb c (by simp)
    rw [run_cons, show 8 * (c :: b).length = 8 + 8 * b.length from by simp; omega, feed_add]
    rw [ih (byte r c) m (lo + 8) (fun x hx => hb x (by simp [hx]))]
    · congr 1
      unfold byte
      rw [feed_bits m 8 lo r (BitVec.ofNat 32 c)]
      · intro j hj
        rw [hm j (by simp; omega)]
        unfold bitOf
        rw [show j / 8 = 0 from by omega, show j % 8 = j from by omega]
        simp [BitVec.getLsbD_ofNat]
        omega
      · intro j hj
        simp only [BitVec.getLsbD_ofNat]
        rw [Nat.testBit_lt_two_pow (Nat.lt_of_lt_of_le hc (show 2 ^ 8 ≤ 2 ^ j from Nat.pow_le_pow_right (by decide) hj))]
        simp
    · intro j hj
      rw [show lo + 8 + j = lo + (8 + j) from by omega, hm (8 + j) (by simp; omega)]
      unfold bitOf
      rw [show (8 + j) / 8 = j / 8 + 1 from by omega, show (8 + j) % 8 = j % 8 from by omega]
      simp

/-- the theorem of bursts -/
theorem burst (b c : List Nat) (hb : ∀ x ∈ b, x < 256) (hc : ∀ x ∈ c, x < 256) (hl : c.length = b.length) (k : Nat) (p : Nat) (hk : k < 8 * b.length)
    (h : ∀ j, j < 8 * b.length → bitOf c j = (bitOf b j ^^ (decide (k ≤ j) && (decide (j < k + 32) && p.testBit (j - k))))) (r : BitVec 32) :
    (run r b = run r c ↔ ∀ i, i < 32 → k + i < 8 * b.length → p.testBit i = false) := by
  let N := 8 * b.length
  let D : Nat → Bool := fun j => decide (k ≤ j) && (decide (j < k + 32) && p.testBit (j - k))
  have e1 : run r b = feed (bitOf b) 0 N r := run_feed b r (bitOf b) 0 hb (fun j _ => by rw [Nat.zero_add])
  have e2 : run r c = feed (fun j => bitOf b j ^^ D j) 0 N (r ^^^ 0#32) := by
    rw [BitVec.xor_zero]
    have := run_feed c r (fun j => bitOf b j ^^ D j) 0 hc (fun j hj => by rw [Nat.zero_add]; exact (h j (by omega)).symm)
    rw [this, hl]
  rw [e2, feed_xor, ← e1]
  have e3 : feed D 0 N 0#32 = 0#32 ↔ ∀ i, i < 32 → k + i < N → p.testBit i = false := by
    let n := min 32 (N - k)
    have hn : k + n + (N - k - n) = N := by omega
    let q : BitVec 32 := BitVec.ofNat 32 (p % 2 ^ n)
    have hq : ∀ j, q.getLsbD j = (decide (j < n) && p.testBit j) := by
      intro j
      simp only [q, BitVec.getLsbD_ofNat, Nat.testBit_mod_two_pow]
      by_cases hj : j < n
      · have : j < 32 := by omega
        simp [hj, this]
      · simp [hj]
    have f1 : feed D 0 k 0#32 = 0#32 := by
      rw [feed_none D k 0 _ (fun j _ hj => by simp only [D]; rw [decide_eq_false (by omega)]; rfl), stn_zero]
    have f2 : feed D k n 0#32 = stn n q := by
      rw [feed_bits D n k 0#32 q]
      · simp
      · intro j hj
        rw [hq]
        simp only [D]
        rw [decide_eq_true (show k ≤ k + j by omega), decide_eq_true (show k + j < k + 32 by omega), decide_eq_true hj, Nat.add_sub_cancel_left]
        simp
      · intro j hj
        rw [hq, decide_eq_false (by omega)]
        rfl
    have f3 : feed D 0 N 0#32 = stn (N - k - n) (stn n q) := by
      conv => lhs; rw [← hn]
      rw [feed_add, feed_add, f1, Nat.zero_add, Nat.zero_add, f2]
      refine feed_none D _ _ _ fun j h1 h2 => ?_
      simp only [D]
      rw [decide_eq_false (show ¬ j < k + 32 by omega)]
      simp
    rw [f3]
    have hz : (q = 0#32 ↔ ∀ i, i < 32 → k + i < N → p.testBit i = false) := by
      constructor
      · intro e i hi1 hi2
        have := hq i
        rw [e, decide_eq_true (show i < n by omega)] at this
        simpa using this.symm
      · intro e
        refine BitVec.eq_of_getLsbD_eq fun i hi => ?_
        rw [hq i]
        by_cases h3 : i < n
        · rw [e i (by omega) (by omega)]; simp
        · simp [h3]
    rw [← hz]
    constructor
    · intro e
      apply Decidable.byContradiction
      intro hne
      exact stn_ne _ (stn_ne _ hne) e
    · intro e
      rw [e, stn_zero, stn_zero]
  rw [← e3]
  constructor
  · intro e
    have := congrArg (fun x => run r b ^^^ x) e
    simp only [← BitVec.xor_assoc, BitVec.xor_self, BitVec.zero_xor] at this
    exact this.symm
  · intro e
    rw [e, BitVec.xor_zero]

/-! ### numbers -/
def V (r : BitVec 32) : Int := (r.toNat : Int)
def B (b : List Nat) : List Int := b.map (fun (n : Nat) => ((n : Nat) : Int))
theorem V_inj {a b : BitVec 32} (h : V a = V b) : a = b := BitVec.eq_of_toNat_eq (by unfold V at h; omega)
theorem V_lt (a : BitVec 32) : 0 ≤ V a ∧ V a < 4294967296 := ⟨by unfold V; omega, by have := a.isLt; unfold V; omega⟩
theorem ofInt_V (a : BitVec 32) : BitVec.ofInt 32 (V a) = a := by
  unfold V
  rw [BitVec.ofInt_natCast]
  simp
theorem xorV (a b : BitVec 32) : Go.bits .xor .u32 (V a) (V b) = V (a ^^^ b) := by
  show IntKind.u32.wrap ((BitVec.ofInt 32 (V a) ^^^ BitVec.ofInt 32 (V b)).toNat : Int) = _
  rw [ofInt_V, ofInt_V, IntKind.wrap_u32]
  have := (V_lt (a ^^^ b))
  unfold V at *
  omega
theorem andV (a b : BitVec 32) : Go.bits .and .u32 (V a) (V b) = V (a &&& b) := by
  show IntKind.u32.wrap ((BitVec.ofInt 32 (V a) &&& BitVec.ofInt 32 (V b)).toNat : Int) = _
  rw [ofInt_V, ofInt_V, IntKind.wrap_u32]
  have := (V_lt (a &&& b))
  unfold V at *
  omega
theorem xor8 (a b : Nat) (ha : a < 256) (hb : b < 256) : Go.bits .xor .u8 (a : Int) (b : Int) = ((a ^^^ b : Nat) : Int) := by
  show IntKind.u8.wrap ((BitVec.ofInt 8 (a : Int) ^^^ BitVec.ofInt 8 (b : Int)).toNat : Int) = _
  have hx : a ^^^ b < 2 ^ 8 := Nat.xor_lt_two_pow ha hb
  rw [BitVec.ofInt_natCast, BitVec.ofInt_natCast, BitVec.toNat_xor, BitVec.toNat_ofNat, BitVec.toNat_ofNat, Nat.mod_eq_of_lt ha, Nat.mod_eq_of_lt hb, IntKind.wrap_u8]
  omega
theorem V_of {x : Int} (h : (Lit.int .u32 x).wf = true) : ∃ r, x = V r := by
  simp only [Lit.wf, IntKind.min, IntKind.max, IntKind.signed, IntKind.bits, Bool.and_eq_true, decide_eq_true_eq, Bool.false_eq_true, if_false] at h
  refine ⟨BitVec.ofNat 32 x.toNat, ?_⟩
  unfold V
  rw [BitVec.toNat_ofNat, Nat.mod_eq_of_lt (by omega)]
  omega
theorem B_of {l : List Int} (h : ∀ x ∈ l, (Lit.int .u8 x).wf = true) : ∃ b, l = B b ∧ ∀ x ∈ b, x < 256 := by
  induction l with
  | nil => exact ⟨[], rfl, by simp⟩
  | cons x l ih =>
    obtain ⟨b, e, hb⟩ := ih (fun y hy => h y (List.mem_cons_of_mem _ hy))
    have hx := h x (List.mem_cons_self ..)
    simp only [Lit.wf, IntKind.min, IntKind.max, IntKind.signed, IntKind.bits, Bool.and_eq_true, decide_eq_true_eq, Bool.false_eq_true, if_false] at hx
    refine ⟨x.toNat :: b, ?_, ?_⟩
    · rw [e]
      unfold B
      rw [List.map_cons, show ((x.toNat : Nat) : Int) = x from by omega]
    · intro y hy
      rcases List.mem_cons.1 hy with rfl | hy
      · omega
      · exact hb y hy
theorem B_length (b : List Nat) : (B b).length = b.length := by simp [B]
theorem B_append (a b : List Nat) : B (a ++ b) = B a ++ B b := by simp [B]
theorem rdB (b : List Nat) (j : Nat) : rd (B b) (j : Int) = ((b.getD j 0 : Nat) : Int) := by
  unfold rd B
  rw [Int.toNat_natCast, List.getD_eq_getElem?_getD, List.getD_eq_getElem?_getD, List.getElem?_map]
  cases b[j]? <;> rfl
theorem rdB_lt {b : List Nat} (hb : ∀ x ∈ b, x < 256) (j : Nat) : b.getD j 0 < 256 := by
  rw [List.getD_eq_getElem?_getD]
  cases h : b[j]? with
  | none => simp
  | some x => exact hb x (List.mem_of_getElem? h)
theorem wrap64_nat (n : Nat) (h : n ≤ 9223372036854775807) : wrap64 (n : Int) = (n : Int) := by
  unfold wrap64
  omega
theorem V_ofNat (n : Nat) (h : n < 4294967296) : (n : Int) = V (BitVec.ofNat 32 n) := by
  unfold V
  rw [BitVec.toNat_ofNat, Nat.mod_eq_of_lt (by omega)]
theorem ones : (4294967295 : Int) = V (BitVec.allOnes 32) := by decide
theorem notV (r : BitVec 32) : Go.bits .xor .u32 4294967295 (V r) = V (~~~r) := by
  rw [ones, xorV, BitVec.xor_comm, BitVec.xor_allOnes]
theorem V_shift (r : BitVec 32) : V r / (2 : Int) = V (r >>> 1) := by
  unfold V
  rw [BitVec.toNat_ushiftRight, Nat.shiftRight_eq_div_pow]
  omega
theorem V_low (r : BitVec 32) : V r % (2 : Int) = if r.getLsbD 0 then (1 : Int) else 0 := by
  unfold V
  rw [BitVec.getLsbD]
  have h := Nat.testBit_zero r.toNat
  rw [h]
  by_cases h1 : r.toNat % 2 = 1
  · rw [decide_eq_true h1, if_pos rfl]
    omega
  · rw [decide_eq_false h1, if_neg (by simp)]
    omega
theorem and_one (r : BitVec 32) : Go.bits .and .u32 (V r) 1 = if r.getLsbD 0 then 1 else 0 := by
  rw [← V_low, show Go.bits .and .u32 (V r) 1 = Go.bits .and .u32 (V r) (V 1#32) from rfl, andV]
  have : (r &&& 1#32).toNat = r.toNat % 2 := by
    rw [BitVec.toNat_and]
    exact Nat.and_one_is_mod _
  show ((r &&& 1#32).toNat : Int) = (r.toNat : Int) % (2 : Int)
  rw [this]
  omega
theorem turned (r : BitVec 32) : Go.bits .xor .u32 (V r / 2) (Go.bits .and .u32 2197175160 ((-(Go.bits .and .u32 (V r) 1)) % 4294967296)) = V (st r) := by
  rw [and_one, V_shift]
  unfold st
  cases r.getLsbD 0 with
  | true =>
    simp only [if_true]
    rw [show Go.bits .and .u32 2197175160 ((-1 : Int) % 4294967296) = V poly from by decide, xorV]
  | false =>
    simp only [Bool.false_eq_true, if_false]
    rw [show Go.bits .and .u32 2197175160 ((-0 : Int) % 4294967296) = V 0#32 from by decide, xorV]

/-! ### crc.More -/
theorem more_in (n : Nat) (hn : n ≤ 8) : ∀ (k : Nat) (r : BitVec 32) (xs : List Int) (m j : Int),
    crc_More.l1 (k + n + 1) (V r) xs m j ((8 - n : Nat) : Int) = crc_More.l0 k (V (stn n r)) xs m (wrap64 (j + 1)) := by
  induction n with
  | zero =>
    intro k r xs m j
    rw [Nat.add_zero]
    rw [crc_More.l1]
    rw [if_neg (by omega)]
    simp only [stn]
  | succ n ih =>
    intro k r xs m j
    rw [show k + (n + 1) + 1 = (k + n + 1) + 1 from by omega]
    rw [crc_More.l1]
    rw [if_pos (by omega), turned, show (((8 - (n + 1) : Nat) : Int) + 1) = ((8 - n : Nat) : Int) from by omega, wrap64_nat _ (by omega), ih (by omega)]
    rfl
theorem more_out (b : List Nat) (hb : ∀ x ∈ b, x < 256) (hl : b.length ≤ 4611686018427387904) (d : Nat) : ∀ (k j : Nat) (r : BitVec 32), j + d = b.length → 10 * d + 1 ≤ k →
    crc_More.l0 k (V r) (B b) (b.length : Int) (j : Int) = some (V (~~~ (run r (b.drop j)))) := by
  induction d with
  | zero =>
    intro k j r hj hk
    obtain ⟨k, rfl⟩ : ∃ m, k = m + 1 := ⟨k - 1, by omega⟩
    rw [crc_More.l0]
    rw [if_neg (by omega), notV, List.drop_of_length_le (by omega)]
    rfl
  | succ d ih =>
    intro k j r hj hk
    obtain ⟨k, rfl⟩ : ∃ m, k = m + 8 + 1 + 1 := ⟨k - 10, by omega⟩
    have hx := rdB_lt hb j
    have hd : b.drop j = b.getD j 0 :: b.drop (j + 1) := by
      rw [List.drop_eq_getElem_cons (by omega), List.getD_eq_getElem?_getD, List.getElem?_eq_getElem (by omega)]
      rfl
    rw [crc_More.l0]
    rw [if_pos (by omega), if_pos (by omega), if_pos (by rw [B_length]; omega), rdB, Int.emod_eq_of_lt (by omega) (by omega), V_ofNat _ (by omega), xorV]
    have h := more_in 8 (by omega) k (r ^^^ BitVec.ofNat 32 (b.getD j 0)) (B b) (b.length : Int) (j : Int)
    rw [show ((8 - 8 : Nat) : Int) = 0 from rfl] at h
    rw [h, show ((j : Int) + 1) = ((j + 1 : Nat) : Int) from by omega, wrap64_nat _ (by omega), ih k (j + 1) _ (by omega) (by omega), hd, run_cons]
    rfl
theorem more_f (k : Nat) (s : BitVec 32) (b : List Nat) (hb : ∀ x ∈ b, x < 256) (hl : b.length ≤ 4611686018427387904) (hk : 10 * b.length + 10 ≤ k) :
    crc_More.f k (V s) (B b) = some (V (~~~ (run (~~~ s) b))) := by
  unfold crc_More.f
  rw [notV, B_length]
  have := more_out b hb hl b.length k 0 (~~~ s) (by omega) (by omega)
  simpa using this
def sum (b : List Nat) : BitVec 32 := ~~~ (run (BitVec.allOnes 32) b)
theorem of_f (k : Nat) (b : List Nat) (hb : ∀ x ∈ b, x < 256) (hl : b.length ≤ 4611686018427387904) (hk : 10 * b.length + 10 ≤ k) : crc_Of.f k (B b) = some (V (sum b)) := by
  unfold crc_Of.f
  rw [show (0 : Int) = V 0#32 from rfl, more_f k 0#32 b hb hl hk]
  rfl
theorem awake_f (k : Nat) (hk : 100 ≤ k) : garnerlaw01_awake.f k = some true := by
  unfold garnerlaw01_awake.f
  rw [show ([49, 50, 51, 52, 53, 54, 55, 56, 57] : List Int) = B [49, 50, 51, 52, 53, 54, 55, 56, 57] from rfl, of_f k _ (by decide) (by decide) (by simp; omega)]
  have h : (V (sum [49, 50, 51, 52, 53, 54, 55, 56, 57]) == 3808858755) = true := by decide +kernel
  simp only [Option.bind_some]
  rw [h]

/-! ### the reference -/
theorem bit_l (d : Nat) : ∀ (k j i x : Nat), j + d = i → i ≤ 1000 → x < 4294967296 → d + 1 ≤ k → garnerref01_bit.l0 k (x : Int) (i : Int) (j : Int) = some (((x / 2 ^ d) % 2 : Nat) : Int) := by
  induction d with
  | zero =>
    intro k j i x hj hi hx hk
    obtain ⟨k, rfl⟩ : ∃ m, k = m + 1 := ⟨k - 1, by omega⟩
    rw [garnerref01_bit.l0]
    rw [if_neg (by omega), show Int.tmod (x : Int) 2 = ((x % 2 : Nat) : Int) from by rw [Int.tmod_eq_emod_of_nonneg (by omega)]; omega, wrap64_nat _ (by omega)]
    simp
  | succ d ih =>
    intro k j i x hj hi hx hk
    obtain ⟨k, rfl⟩ : ∃ m, k = m + 1 := ⟨k - 1, by omega⟩
    rw [garnerref01_bit.l0]
    rw [if_pos (by omega), show (Int.tdiv (x : Int) 2) % 4294967296 = ((x / 2 : Nat) : Int) from by rw [Int.tdiv_eq_ediv_of_nonneg (by omega)]; omega, show ((j : Int) + 1) = ((j + 1 : Nat) : Int) from by omega, wrap64_nat _ (by omega),
      ih k (j + 1) i (x / 2) (by omega) hi (by omega) (by omega), Nat.div_div_eq_div_mul, Nat.pow_succ, Nat.mul_comm 2]
theorem bit_f (k x i : Nat) (hi : i ≤ 1000) (hx : x < 4294967296) (hk : i + 1 ≤ k) : garnerref01_bit.f k (x : Int) (i : Int) = some (if x.testBit i then 1 else 0) := by
  unfold garnerref01_bit.f
  have h := bit_l i k 0 i x (by omega) hi hx hk
  rw [show ((0 : Nat) : Int) = 0 from rfl] at h
  rw [h, Nat.testBit_eq_decide_div_mod_eq]
  congr 1
  by_cases e : x / 2 ^ i % 2 = 1
  · simp [e]
  · have : x / 2 ^ i % 2 = 0 := by omega
    simp [this]
theorem step_f (k : Nat) (r : BitVec 32) (c : Bool) (hk : 1 ≤ k) : garnerref01_step.f k (V r) (if c then 1 else 0) = some (V (st (r ^^^ bit1 c))) := by
  unfold garnerref01_step.f
  have h := bit_f k r.toNat 0 (by omega) r.isLt (by omega)
  rw [show ((r.toNat : Nat) : Int) = V r from rfl, show ((0 : Nat) : Int) = 0 from rfl] at h
  rw [h]
  simp only [Option.bind_some]
  have hd : (Int.tdiv (V r) 2) % (4294967296 : Int) = V (r >>> 1) := by
    rw [← V_shift, Int.tdiv_eq_ediv_of_nonneg (V_lt r).1]
    have := V_lt r
    omega
  rw [hd, show (2197175160 : Int) = V poly from by decide, xorV]
  have e : r.toNat.testBit 0 = r.getLsbD 0 := rfl
  rw [e]
  have hs : (r ^^^ bit1 c) >>> 1 = r >>> 1 := by
    rw [BitVec.ushiftRight_xor_distrib]
    cases c <;> simp [bit1]
  unfold st
  rw [hs, BitVec.getLsbD_xor]
  cases r.getLsbD 0 <;> cases c <;> simp [bit1]
theorem bytes_in (b : List Nat) (hb : ∀ x ∈ b, x < 256) (j : Nat) (hj : j < b.length) (n : Nat) (hn : n ≤ 8) : ∀ (k : Nat) (r : BitVec 32),
    garnerref01_run.l1 (k + n + 10) (V r) (B b) (j : Int) ((8 - n : Nat) : Int) = garnerref01_run.l0 (k + 9) (V (feed (fun i => (b.getD j 0).testBit i) (8 - n) n r)) (B b) (wrap64 ((j : Int) + 1)) := by
  have hx := rdB_lt hb j
  induction n with
  | zero =>
    intro k r
    rw [show k + 0 + 10 = (k + 9) + 1 from by omega]
    rw [garnerref01_run.l1]
    rw [if_neg (by omega)]
    simp only [feed]
  | succ n ih =>
    intro k r
    obtain ⟨K, hK⟩ : ∃ K, K = k + n + 10 := ⟨_, rfl⟩
    rw [show k + (n + 1) + 10 = K + 1 from by omega, garnerref01_run.l1, if_pos (by omega), if_pos (by omega), if_pos (by rw [B_length]; omega), rdB, Int.emod_eq_of_lt (by omega) (by omega), bit_f K _ _ (by omega) (by omega) (by omega), Option.bind_some,
      step_f K _ _ (by omega), Option.bind_some]
    rw [show (((8 - (n + 1) : Nat) : Int) + 1) = ((8 - n : Nat) : Int) from by omega, wrap64_nat _ (by omega), hK, ih (by omega)]
    rw [feed, show 8 - (n + 1) + 1 = 8 - n from by omega]
theorem bytes_out (b : List Nat) (hb : ∀ x ∈ b, x < 256) (hl : b.length ≤ 4611686018427387904) (d : Nat) : ∀ (k j : Nat) (r : BitVec 32), j + d = b.length → 10 * d + 10 ≤ k →
    garnerref01_run.l0 k (V r) (B b) (j : Int) = some (V (run r (b.drop j))) := by
  induction d with
  | zero =>
    intro k j r hj hk
    obtain ⟨k, rfl⟩ : ∃ m, k = m + 1 := ⟨k - 1, by omega⟩
    rw [garnerref01_run.l0]
    rw [if_neg (by rw [B_length]; omega), List.drop_of_length_le (by omega)]
    rfl
  | succ d ih =>
    intro k j r hj hk
    obtain ⟨k, rfl⟩ : ∃ m, k = m + 8 + 10 + 1 := ⟨k - 19, by omega⟩
    have hd : b.drop j = b.getD j 0 :: b.drop (j + 1) := by
      rw [List.drop_eq_getElem_cons (by omega), List.getD_eq_getElem?_getD, List.getElem?_eq_getElem (by omega)]
      rfl
    rw [garnerref01_run.l0]
    rw [if_pos (by rw [B_length]; omega)]
    have h := bytes_in b hb j (by omega) 8 (by omega) k r
    rw [show ((8 - 8 : Nat) : Int) = 0 from rfl] at h
    rw [h, show ((j : Int) + 1) = ((j + 1 : Nat) : Int) from by omega, wrap64_nat _ (by omega), ih (k + 9) (j + 1) _ (by omega) (by omega), hd, run_cons]
    have hx := rdB_lt hb j
    have hf := run_feed [b.getD j 0] r (fun i => (b.getD j 0).testBit i) 0 (by simpa using hx) (fun i hi => by
      simp at hi
      unfold bitOf
      rw [Nat.zero_add, show i / 8 = 0 from by omega, show i % 8 = i from by omega]
      rfl)
    simp only [List.length_singleton, Nat.mul_one] at hf
    rw [show (8 - 8 : Nat) = 0 from rfl, ← hf]
    rfl
theorem ref_run (k : Nat) (r : BitVec 32) (b : List Nat) (hb : ∀ x ∈ b, x < 256) (hl : b.length ≤ 4611686018427387904) (hk : 10 * b.length + 10 ≤ k) :
    garnerref01_run.f k (V r) (B b) = some (V (run r b)) := by
  unfold garnerref01_run.f
  have := bytes_out b hb hl b.length k 0 r (by omega) (by omega)
  simpa using this
theorem ref_of (k : Nat) (b : List Nat) (hb : ∀ x ∈ b, x < 256) (hl : b.length ≤ 4611686018427387904) (hk : 10 * b.length + 10 ≤ k) : garnerref01_Of.f k (B b) = some (V (sum b)) := by
  unfold garnerref01_Of.f
  rw [ones, ref_run k _ b hb hl hk]
  simp only [Option.bind_some]
  rw [← ones, notV]
  rfl
theorem ref_more (k : Nat) (s : BitVec 32) (b : List Nat) (hb : ∀ x ∈ b, x < 256) (hl : b.length ≤ 4611686018427387904) (hk : 10 * b.length + 10 ≤ k) :
    garnerref01_More.f k (V s) (B b) = some (V (~~~ (run (~~~ s) b))) := by
  unfold garnerref01_More.f
  rw [notV, ref_run k _ b hb hl hk]
  simp only [Option.bind_some]
  rw [notV]
end Go.Proofs.Ytnppeoophmihmaa.CrcP
