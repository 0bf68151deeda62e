/- Layer 14: what the statements of lists share; no condition beyond what each lemma names. -/
import Derived.Test.YtgoidimipchejaaMgN
import Derived.Test.YtgoidimipchejaaTrQp
import Derived.Test.YtgoidimipchejaaPTx9
namespace Go.Proofs.Ytgoidimipchejaa.Mg
open Go.RowKit Go.Proofs.Ytgoidimipchejaa.PT Go.Proofs.Ytgoidimipchejaa.Tr Go.Proofs.YtgoidimipchejaaW.PrintWords Go.Proofs.YtgoidimipchejaaW.PrintLast Go.Proofs.YtgoidimipchejaaW.PrintMore
set_option linter.unusedVariables false
set_option linter.unusedSimpArgs false
attribute [local go_sem ↓] Go.wp_at_zero Go.wp_at_succ

theorem put_f (acc : List S38) (y : S38) (k : Nat) (ho : Tr.Ord acc) (hk : 2 * acc.length < k) (hl : acc.length ≤ 400000) : garnerref10_Put.f k acc y.f0 y.f1 y.f2.f0 y.f2.f1 y.f2.f2.f0 y.f2.f2.f1 y.f2.f2.f2 y.f2.f2.f3 = some (insL acc y) := by
  have hp := put_l0 acc [] [] false y k hk (by simp; omega) (by simp; omega)
  simp only [List.nil_append, putF] at hp
  unfold garnerref10_Put.f
  rw [show ((([] : List S38).length : Nat) : Int) = 0 from rfl] at hp
  rw [hp, putL_insL acc y ho]
theorem all14_l2 : ∀ (rest pre acc : List S38) (drop : Bool) (k : Nat), rest.length < k → (pre ++ rest).length ≤ 1000000 → acc.length + rest.length ≤ 1000000 → garnerref14_All.l2 k drop (pre ++ rest) acc (pre.length : Int) = some (acc ++ selM drop rest)
  | [], pre, acc, drop, k + 1, _, _, _ => by
    simp only [garnerref14_All.l2]
    rw [if_neg (by simp)]
    simp [selM]
  | y :: rest, pre, acc, drop, k + 1, hk, hl, ha => by
    have hk' : rest.length < k := by simpa using hk
    simp only [List.length_cons] at ha
    have ih := fun acc (h : acc.length + rest.length ≤ 1000000) => all14_l2 rest (pre ++ [y]) acc drop k hk' (by simpa using hl) h
    simp only [← append_one, len_one] at ih
    have h1 : (pre.length : Int) < ((pre ++ y :: rest).length : Int) := by simp; omega
    have h0 : (0 : Int) ≤ (pre.length : Int) := by omega
    have hw : wrap64 ((pre.length : Int) + 1) = ((pre.length + 1 : Nat) : Int) := wrap_succ _ (by simp at hl; omega)
    have c1 : acc.length < 1599289640401 := by omega
    simp only [garnerref14_All.l2]
    rw [if_pos h1]
    simp only [rd_mid, h0, hw, if_true]
    cases drop
    · simp only [Bool.false_eq_true, if_false]
      rw [if_pos c1]
      have e : selM false (y :: rest) = y :: selM false rest := by simp [selM]
      rw [e]
      exact (ih (acc ++ [y]) (by simp; omega)).trans (by simp)
    · simp only [if_true]
      cases hd : y.f1 with
      | true =>
        rw [if_pos rfl]
        have e : selM true (y :: rest) = selM true rest := by simp [selM, hd]
        rw [e]
        exact ih acc (by omega)
      | false =>
        rw [if_neg (by simp), if_pos c1]
        have e : selM true (y :: rest) = y :: selM true rest := by simp [selM, hd]
        rw [e]
        have h9 := ih (acc ++ [y]) (by simp; omega)
        have e9 : (⟨y.f0, false, ⟨y.f2.f0, y.f2.f1, ⟨y.f2.f2.f0, y.f2.f2.f1, y.f2.f2.f2, y.f2.f2.f3⟩⟩⟩ : S38) = y := by rw [← hd]
        rw [e9]
        exact h9.trans (by simp)
theorem all14_l1 (ls : List (List S38)) (drop : Bool) (i : Int) (h0 : 0 ≤ i) (hi : i < (ls.length : Int)) (hls : ls.length ≤ 1000) : ∀ (rest pre acc : List S38) (k : Nat), rd_L9 ls i = pre ++ rest → Tr.Ord acc → (pre ++ rest).length ≤ 1000 → acc.length + rest.length ≤ 100000 → 250000 ≤ k →
    garnerref14_All.l1 (k + rest.length + 1) ls drop acc i (pre.length : Int) = garnerref14_All.l0 k ls drop (rest.foldl insL acc) (i - 1)
  | [], pre, acc, k, hr, ho, hl, ha, hk => by
    simp only [garnerref14_All.l1, List.length_nil, Nat.add_zero]
    rw [if_pos h0, if_pos hi, hr, if_neg (by simp), Tr.wrap_small (by omega) (by omega)]
    rfl
  | y :: rest, pre, acc, k, hr, ho, hl, ha, hk => by
    have ih := all14_l1 ls drop i h0 hi hls rest (pre ++ [y]) (insL acc y) k (by rw [hr]; simp) (insL_ord acc y ho) (by simpa using hl) (by have := insL_len acc y; simp at ha; omega) hk
    rw [len_one] at ih
    have h1 : (pre.length : Int) < ((pre ++ y :: rest).length : Int) := by simp; omega
    have e : k + (y :: rest).length + 1 = (k + rest.length + 1) + 1 := by simp; omega
    rw [e]
    have hK : 250000 ≤ k + rest.length + 1 := by omega
    generalize k + rest.length + 1 = K at ih hK ⊢
    simp only [garnerref14_All.l1]
    rw [if_pos h0, if_pos hi, hr, if_pos h1, if_pos (by omega), rd_mid, put_f acc y _ ho (by simp at ha; omega) (by simp at ha; omega), Option.bind_some, wrap_succ _ (by simp at hl; omega), ih]
    rfl
theorem all14_l0 (ls : List (List S38)) (drop : Bool) (hls : ls.length ≤ 110) (hx : ∀ l ∈ ls, l.length ≤ 30) (ho : ∀ l ∈ ls, Tr.Ord l) : ∀ (n k : Nat), n ≤ ls.length → 250000 + 40 * n ≤ k → garnerref14_All.l0 k ls drop (mergeL (ls.drop n)) ((n : Int) - 1) = some (selM drop (mergeL ls))
  | 0, k + 1, _, hk => by
    have hm := merge_len ls 30 hx
    simp only [garnerref14_All.l0]
    rw [if_neg (by omega), List.drop_zero]
    have := all14_l2 (mergeL ls) [] [] drop k (by omega) (by simp; omega) (by simp; omega)
    simpa using this
  | n + 1, k, hn, hk => by
    have hlt : n < ls.length := by omega
    have hd : ls.drop n = ls[n] :: ls.drop (n + 1) := List.drop_eq_getElem_cons hlt
    have hml := merge_len (ls.drop (n + 1)) 30 (fun l hl => hx l (List.mem_of_mem_drop hl))
    have hl30 := hx ls[n] (List.getElem_mem hlt)
    have hoM := (merge_is (ls.drop (n + 1)) (fun l hl => ho l (List.mem_of_mem_drop hl))).ord
    rw [List.length_drop] at hml
    obtain ⟨k', rfl⟩ : ∃ k', k = (k' + ls[n].length + 1) + 1 := ⟨k - ls[n].length - 2, by omega⟩
    have ih := all14_l0 ls drop hls hx ho n k' (by omega) (by omega)
    have h1 := all14_l1 ls drop (n : Int) (by omega) (by omega) (by omega) ls[n] [] (mergeL (ls.drop (n + 1))) k' (by simp [rd_L9, hlt]) hoM (by simp; omega) (by omega) (by omega)
    simp only [garnerref14_All.l0]
    rw [show ((n + 1 : Nat) : Int) - 1 = (n : Int) by omega, if_pos (by omega)]
    rw [show ((([] : List S38).length : Nat) : Int) = 0 from rfl] at h1
    rw [h1]
    have e : ls[n].foldl insL (mergeL (ls.drop (n + 1))) = mergeL (ls.drop n) := by rw [hd]; rfl
    rw [e]
    exact ih
theorem all14_f (ls : List (List S38)) (drop : Bool) (k : Nat) (h : Lt ls) (ho : ∀ l ∈ ls, Tr.Ord l) (hk : 300000 ≤ k) : garnerref14_All.f k ls drop = some (selM drop (mergeL ls)) := by
  have hl := h.len
  have h1 := all14_l0 ls drop h.len h.each ho ls.length k (Nat.le_refl _) (by omega)
  unfold garnerref14_All.f
  rw [Tr.wrap_small (by omega) (by omega)]
  rwa [List.drop_length] at h1
theorem Lt.lite {ls : List (List S38)} (h : Lt ls) : LiteLs ls := ⟨by have := h.len; omega, fun l hl => by have := h.each l hl; omega⟩
theorem Lt.small2 {ls : List (List S38)} (h : Lt ls) : SmallLs ls := fun l hl x hx => by have := (h.small l hl x hx).2; omega
theorem merge_mem : ∀ (ls : List (List S38)) (x : S38), x ∈ mergeL ls → ∃ l ∈ ls, x ∈ l
  | [], x, h => by simp [mergeL] at h
  | l :: ls, x, h => by
    have e : mergeL (l :: ls) = l.foldl insL (mergeL ls) := rfl
    rw [e] at h
    have hf : ∀ (l acc : List S38), x ∈ l.foldl insL acc → x ∈ l ∨ x ∈ acc := by
      intro l
      induction l with
      | nil => exact fun acc h => .inr h
      | cons y l ih =>
        intro acc h
        simp only [List.foldl_cons] at h
        rcases ih _ h with h | h
        · exact .inl (by simp [h])
        · rcases insL_mem _ _ _ h with rfl | h
          · exact .inl (by simp)
          · exact .inr h
    rcases hf l _ h with h | h
    · exact ⟨l, by simp, h⟩
    · obtain ⟨l', h1, h2⟩ := merge_mem ls x h
      exact ⟨l', by simp [h1], h2⟩
theorem sel_MM (drop : Bool) (l : List S38) : selM drop l = selL drop l := rfl
theorem light14_calls (k : Nat) (A0 : Option Addr) (c0 : Nat) (ls : List (List S38)) (r : Bool) (w : World) (hC : Kd.C kL w A0 ls.length ls) (hc : ls.length ≤ c0) (h : garnerlaw14_light.f k ls = some r) :
    Calls Try.prog 12 #[.slice A0 ls.length c0] w fun e w' => e = .returned (.bool r) ∧ Below w.heap.size w w' :=
  (garnerlaw14_light.calls k A0 c0 ls r w hC hc h).mono fun e w' h => ⟨h.1, h.2.below⟩
theorem V_ls {W : World} {A : Option Addr} {c : Nat} {ls : List (List S38)} (h : Kd.C kL W A ls.length ls) (hc : ls.length ≤ c) (base : Nat) : Kd.V kL 29 W base (fun _ => True) (.slice A ls.length c) ls :=
  Kd.V_mk hc (fun W' hW => (Kd.heap_slice 38 k38_heap).C (fun k hk => hW k trivial hk) h)
/-- The ways of a statement's lists. -/
theorem ways (ls : List (List S38)) (hm : ls.length ≤ maxLen) (hx : ∀ l ∈ ls, l.length ≤ maxLen) :
    garnerlaw14_light.f 1000 ls = some false ∨ (garnerlaw14_light.f 1000 ls = some true ∧ Lt ls ∧ ((garnerref14_May.f 10000 ls = some false ∧ (100 < (ls.length : Int) ∨ allSorted ls = false)) ∨ (garnerref14_May.f 10000 ls = some true ∧ decide (100 < (ls.length : Int)) = false ∧ allSorted ls = true))) := by
  unfold maxLen at hm hx
  obtain ⟨b, h1, h2⟩ := light14_f ls 1000 (Nat.le_refl _) (by omega) (fun l hl => by have := hx l hl; omega)
  cases b with
  | false => exact .inl h1
  | true =>
    have hlt := h2 rfl
    refine .inr ⟨h1, hlt, ?_⟩
    have h3 := may14_f ls 10000 (by omega) hlt
    by_cases h4 : (ls.all sortedB && decide (ls.length ≤ 100)) = true
    · rw [h4] at h3
      rw [Bool.and_eq_true, decide_eq_true_eq] at h4
      exact .inr ⟨h3, decide_eq_false (by have := h4.2; omega), h4.1⟩
    · have h5 : (ls.all sortedB && decide (ls.length ≤ 100)) = false := by simpa using h4
      rw [h5] at h3
      refine .inl ⟨h3, ?_⟩
      by_cases h6 : ls.length ≤ 100
      · rw [decide_eq_true h6, Bool.and_true] at h5
        exact .inr h5
      · exact .inl (by omega)
end Go.Proofs.Ytgoidimipchejaa.Mg
