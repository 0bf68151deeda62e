/- Layer 1, the theorem of adding: three sums of bytes of one length, put together, are the sum of these bytes, put together: of the printed functions, for every input within the bounds that the statement itself names. -/
import Derived.Test.YtnppeoophmihmaaCrcA
import Derived.Test.YtnppeoophmihmaaPCrcx3
namespace Go.Proofs.Ytnppeoophmihmaa.Pure
open Go.RowKit Go.Proofs.Ytnppeoophmihmaa.CrcP Go.Proofs.Ytnppeoophmihmaa.PCrc Go.Proofs.YtnppeoophmihmaaW.PrintWords Go.Proofs.YtnppeoophmihmaaW.PrintLast

def x3 (a b c : List Nat) : List Nat := List.zipWith (· ^^^ ·) (List.zipWith (· ^^^ ·) a b) c
theorem x3_length {a b c : List Nat} (h1 : a.length = b.length) (h2 : b.length = c.length) : (x3 a b c).length = a.length := by
  unfold x3
  simp
  omega
theorem zip_lt {a b : List Nat} (ha : ∀ x ∈ a, x < 256) (hb : ∀ x ∈ b, x < 256) : ∀ x ∈ List.zipWith (· ^^^ ·) a b, x < 256 := by
  induction a generalizing b with
  | nil => intro x hx; simp at hx
  | cons y a ih =>
    cases b with
    | nil => intro x hx; simp at hx
    | cons z b =>
      intro x hx
      rw [List.zipWith_cons_cons] at hx
      rcases List.mem_cons.1 hx with rfl | hx
      · exact Nat.xor_lt_two_pow (n := 8) (ha y (by simp)) (hb z (by simp))
      · exact ih (fun u hu => ha u (by simp [hu])) (fun u hu => hb u (by simp [hu])) x hx
theorem x3_lt {a b c : List Nat} (ha : ∀ x ∈ a, x < 256) (hb : ∀ x ∈ b, x < 256) (hc : ∀ x ∈ c, x < 256) : ∀ x ∈ x3 a b c, x < 256 := zip_lt (zip_lt ha hb) hc
theorem x3_getD {a b c : List Nat} (h1 : a.length = b.length) (h2 : b.length = c.length) (j : Nat) (hj : j < a.length) : (x3 a b c)[j]? = some ((a.getD j 0 ^^^ b.getD j 0) ^^^ c.getD j 0) := by
  unfold x3
  rw [List.getElem?_zipWith, List.getElem?_zipWith]
  simp only [List.getD_eq_getElem?_getD]
  rw [List.getElem?_eq_getElem hj, List.getElem?_eq_getElem (show j < b.length by omega), List.getElem?_eq_getElem (show j < c.length by omega)]
  rfl
theorem sum_x3 {a b c : List Nat} (h1 : a.length = b.length) (h2 : b.length = c.length) (ha : ∀ x ∈ a, x < 256) (hb : ∀ x ∈ b, x < 256) (hc : ∀ x ∈ c, x < 256) :
    sum (x3 a b c) = (sum a ^^^ sum b) ^^^ sum c := by
  unfold sum x3
  have e : BitVec.allOnes 32 = (BitVec.allOnes 32 ^^^ BitVec.allOnes 32) ^^^ BitVec.allOnes 32 := by decide
  conv => lhs; rw [e]
  rw [run_xor _ c _ _ (by simp; omega) (zip_lt ha hb) hc, run_xor a b _ _ h1 ha hb]
  generalize run (BitVec.allOnes 32) a = x
  generalize run (BitVec.allOnes 32) b = y
  generalize run (BitVec.allOnes 32) c = z
  refine BitVec.eq_of_getLsbD_eq fun i hi => ?_
  simp only [BitVec.getLsbD_xor, BitVec.getLsbD_not, hi, decide_true, Bool.true_and]
  cases x.getLsbD i <;> cases y.getLsbD i <;> cases z.getLsbD i <;> rfl

theorem adds_long (k : Nat) (a b c : List Int) (hk : 101 ≤ k) : garnerlaw01_CrcAdds.j0 k a b c true = some true := by
  obtain ⟨k, rfl⟩ : ∃ m, k = m + 1 := ⟨k - 1, by omega⟩
  rw [garnerlaw01_CrcAdds.j0, if_pos rfl, awake_f k (by omega)]
  rfl
theorem adds_loop {a b c : List Nat} (h1 : a.length = b.length) (h2 : b.length = c.length) (ha : ∀ x ∈ a, x < 256) (hb : ∀ x ∈ b, x < 256) (hc : ∀ x ∈ c, x < 256) (hl : a.length ≤ 2000) (d : Nat) :
    ∀ (j k : Nat), j + d = a.length → d + 10 * a.length + 101 ≤ k → garnerlaw01_CrcAdds.l0 k (B a) (B b) (B c) (V ((sum a ^^^ sum b) ^^^ sum c)) (B ((x3 a b c).take j)) (j : Int) = some true := by
  induction d with
  | zero =>
    intro j k hj hk
    obtain ⟨k, rfl⟩ : ∃ m, k = m + 1 := ⟨k - 1, by omega⟩
    rw [garnerlaw01_CrcAdds.l0, if_neg (by rw [B_length]; omega), List.take_of_length_le (by rw [x3_length h1 h2]; omega), of_f k _ (x3_lt ha hb hc) (by rw [x3_length h1 h2]; omega) (by rw [x3_length h1 h2]; omega), Option.bind_some,
      if_pos (by rw [sum_x3 h1 h2 ha hb hc]), awake_f k (by omega)]
    rfl
  | succ d ih =>
    intro j k hj hk
    obtain ⟨k, rfl⟩ : ∃ m, k = m + 1 := ⟨k - 1, by omega⟩
    have hx := rdB_lt ha j
    have hy := rdB_lt hb j
    have hz := rdB_lt hc j
    have ht : B ((x3 a b c).take (j + 1)) = B ((x3 a b c).take j) ++ [(((a.getD j 0 ^^^ b.getD j 0) ^^^ c.getD j 0 : Nat) : Int)] := by
      rw [List.take_add_one, x3_getD h1 h2 j (by omega), B_append]
      rfl
    rw [garnerlaw01_CrcAdds.l0, if_pos (by rw [B_length]; omega), if_pos (by omega), if_pos (by rw [B_length]; omega), if_pos (by rw [B_length]; omega), if_pos (by rw [B_length, List.length_take, x3_length h1 h2]; omega),
      rdB, rdB, rdB, xor8 _ _ hx hy, xor8 _ _ (Nat.xor_lt_two_pow (n := 8) hx hy) hz, ← ht, show ((j : Int) + 1) = ((j + 1 : Nat) : Int) from by omega, wrap64_nat _ (by omega), ih (j + 1) k (by omega) (by omega)]
theorem adds_mid {a b c : List Nat} (ha : ∀ x ∈ a, x < 256) (hb : ∀ x ∈ b, x < 256) (hc : ∀ x ∈ c, x < 256) (hl : a.length ≤ 2000) (q : Bool) (hq : q = true ∨ (a.length = b.length ∧ b.length = c.length))
    (k : Nat) (hk : 11 * a.length + 102 ≤ k) : garnerlaw01_CrcAdds.j1 k (B a) (B b) (B c) (V ((sum a ^^^ sum b) ^^^ sum c)) q = some true := by
  obtain ⟨k, rfl⟩ : ∃ m, k = m + 1 := ⟨k - 1, by omega⟩
  rw [garnerlaw01_CrcAdds.j1]
  cases q with
  | true =>
    rw [if_pos rfl, awake_f k (by omega)]
    rfl
  | false =>
    obtain ⟨h1, h2⟩ : a.length = b.length ∧ b.length = c.length := hq.elim (fun h => by cases h) id
    rw [if_neg (by simp)]
    have := adds_loop h1 h2 ha hb hc hl a.length 0 k (by omega) (by omega)
    simpa [B] using this
theorem CrcAdds : garnerlaw01_CrcAdds.Pure := by
  intro l0 l1 l2 _ hr0 hw0 _ hr1 hw1 _ hr2 hw2
  obtain ⟨a, rfl, ha⟩ := B_of hw0
  obtain ⟨b, rfl, hb⟩ := B_of hw1
  obtain ⟨c, rfl, hc⟩ := B_of hw2
  rw [B_length] at hr0 hr1 hr2
  obtain ⟨K, hK⟩ : ∃ K, K = 11 * (a.length + b.length + c.length) + 200 := ⟨_, rfl⟩
  refine ⟨K + 1, ?_⟩
  unfold garnerlaw01_CrcAdds.f
  by_cases h : ((B a).length : Int) > 2000
  · rw [if_pos h, adds_long _ _ _ _ (by omega)]
  · rw [if_neg h]
    by_cases h1 : ((B b).length : Int) > 2000
    · rw [if_pos h1, adds_long _ _ _ _ (by omega)]
    · rw [if_neg h1]
      by_cases h2 : ((B c).length : Int) > 2000
      · rw [decide_eq_true h2, adds_long _ _ _ _ (by omega)]
      · rw [decide_eq_false h2, garnerlaw01_CrcAdds.j0, if_neg (by simp)]
        rw [B_length] at h h1 h2
        unfold crc_Add.f
        rw [of_f K a ha (by omega) (by omega), of_f K b hb (by omega) (by omega), of_f K c hc (by omega) (by omega)]
        simp only [Option.bind_some]
        rw [ref_of K a ha (by omega) (by omega), ref_of K b hb (by omega) (by omega), ref_of K c hc (by omega) (by omega)]
        simp only [Option.bind_some, if_true]
        rw [xorV, xorV]
        by_cases e : ((B a).length : Int) = ((B b).length : Int)
        · rw [if_pos e]
          refine adds_mid ha hb hc (by omega) _ ?_ K (by omega)
          rw [B_length, B_length] at e
          rw [B_length, B_length]
          by_cases e2 : (b.length : Int) = (c.length : Int)
          · exact .inr ⟨by omega, by omega⟩
          · exact .inl (bne_iff_ne.2 e2)
        · rw [if_neg e]
          exact adds_mid ha hb hc (by omega) _ (.inl rfl) K (by omega)

end Go.Proofs.Ytnppeoophmihmaa.Pure
