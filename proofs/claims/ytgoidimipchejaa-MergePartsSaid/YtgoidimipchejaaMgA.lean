/- Layer 14: plain laws of a heap of lists; no program here. -/
import Derived.Test.YtgoidimipchejaaTrL
namespace Go.Proofs.Ytgoidimipchejaa.Mg
open Go.RowKit Go.Proofs.Ytgoidimipchejaa.PT Go.Proofs.Ytgoidimipchejaa.Tr
set_option linter.unusedVariables false
set_option linter.unusedSimpArgs false

/-- List z. -/
def lst (ls : List (List S38)) (z : Int) : List S38 := ls.getD z.toNat []
/-- The key of list z's first item. -/
def hkey (ls : List (List S38)) (z : Int) : List UInt8 := kOf (rd_T38 (lst ls z) 0)
def ltP (ls : List (List S38)) (a b : Int) : Prop := hkey ls a < hkey ls b ∨ (hkey ls a = hkey ls b ∧ a < b)
def lessW (ls : List (List S38)) (a b : Int) : Bool := Op.bytesLess (hkey ls a) (hkey ls b) || (decide (hkey ls a = hkey ls b) && decide (a < b))
theorem lessW_iff (ls : List (List S38)) (a b : Int) : lessW ls a b = true ↔ ltP ls a b := by
  unfold lessW ltP
  simp [less_iff]
theorem lt_asymm {ls : List (List S38)} {a b : Int} (h : ltP ls a b) : ¬ ltP ls b a := by
  rintro (k | ⟨k1, k2⟩) <;> rcases h with h | ⟨h1, h2⟩
  · exact k_asymm h k
  · rw [h1] at k; exact k_irr _ k
  · rw [k1] at h; exact k_irr _ h
  · omega
/-- Not ahead, through a third one. -/
theorem le_trans' {ls : List (List S38)} {a b c : Int} (h1 : ¬ ltP ls b a) (h2 : ¬ ltP ls c b) : ¬ ltP ls c a := by
  intro h
  rcases k_tri (hkey ls c) (hkey ls b) with h3 | h3 | h3
  · exact h2 (.inl h3)
  · have h4 : ¬ c < b := fun h4 => h2 (.inr ⟨h3, h4⟩)
    rcases h with h | ⟨h5, h6⟩
    · exact h1 (.inl (by rw [← h3]; exact h))
    · exact h1 (.inr ⟨by rw [← h3]; exact h5, by omega⟩)
  · rcases h with h | ⟨h5, h6⟩
    · exact h1 (.inl (k_trans h3 h))
    · exact h1 (.inl (by rw [← h5]; exact h3))
def hat (hp : List Int) (j : Nat) : Int := hp.getD j 0
theorem hat_set (hp : List Int) (i : Nat) (v : Int) (j : Nat) (hi : i < hp.length) : hat (hp.set i v) j = if j = i then v else hat hp j := by
  unfold hat
  simp only [List.getD_eq_getElem?_getD, List.getElem?_set]
  by_cases e : i = j
  · subst e; simp [hi]
  · rw [if_neg e, if_neg (fun h => e h.symm)]
theorem hat_get (hp : List Int) (j : Nat) (h : j < hp.length) : hat hp j = hp[j] := by simp [hat, h]
theorem hat_mem (hp : List Int) (j : Nat) (h : j < hp.length) : hat hp j ∈ hp := by rw [hat_get hp j h]; exact List.getElem_mem h

/-! ### the heap's order -/
def HeapFrom (ls : List (List S38)) (s : Nat) (hp : List Int) : Prop := ∀ j, 1 ≤ j → j < hp.length → s ≤ (j - 1) / 2 → ¬ ltP ls (hat hp j) (hat hp ((j - 1) / 2))
structure HeapBut (ls : List (List S38)) (s i : Nat) (hp : List Int) : Prop where
  rest : ∀ j, 1 ≤ j → j < hp.length → s ≤ (j - 1) / 2 → (j - 1) / 2 ≠ i → ¬ ltP ls (hat hp j) (hat hp ((j - 1) / 2))
  over : 1 ≤ i → s ≤ (i - 1) / 2 → ∀ j, 1 ≤ j → j < hp.length → (j - 1) / 2 = i → ¬ ltP ls (hat hp j) (hat hp ((i - 1) / 2))
def pick (ls : List (List S38)) (hp : List Int) (i : Nat) : Nat := if 2 * i + 2 < hp.length ∧ lessW ls (hat hp (2 * i + 2)) (hat hp (2 * i + 1)) = true then 2 * i + 2 else 2 * i + 1
def swap (hp : List Int) (i c : Nat) : List Int := (hp.set i (hat hp c)).set c (hat hp i)
def downL (ls : List (List S38)) : Nat → List Int → Nat → List Int
  | 0, hp, _ => hp
  | f + 1, hp, i => if hp.length ≤ 2 * i + 1 then hp else if lessW ls (hat hp (pick ls hp i)) (hat hp i) = true then downL ls f (swap hp i (pick ls hp i)) (pick ls hp i) else hp
theorem swap_len (hp : List Int) (i c : Nat) : (swap hp i c).length = hp.length := by simp [swap]
theorem swap_hat (hp : List Int) (i c j : Nat) (hi : i < hp.length) (hc : c < hp.length) : hat (swap hp i c) j = if j = c then hat hp i else if j = i then hat hp c else hat hp j := by
  unfold swap
  rw [hat_set _ _ _ _ (by simpa using hc), hat_set _ _ _ _ hi]
theorem swap_perm (hp : List Int) (i c : Nat) (hi : i < hp.length) (hc : c < hp.length) : (swap hp i c).Perm hp := by
  unfold swap
  rw [hat_get hp i hi, hat_get hp c hc]
  exact List.set_set_perm hi hc
theorem pick_or (ls : List (List S38)) (hp : List Int) (i : Nat) (h : 2 * i + 1 < hp.length) : (pick ls hp i = 2 * i + 1 ∨ pick ls hp i = 2 * i + 2) ∧ pick ls hp i < hp.length := by
  unfold pick
  split
  · rename_i h2; exact ⟨.inr rfl, h2.1⟩
  · exact ⟨.inl rfl, h⟩
theorem pick_min (ls : List (List S38)) (hp : List Int) (i j : Nat) (h : j < hp.length) (hj : 1 ≤ j) (hp2 : (j - 1) / 2 = i) : ¬ ltP ls (hat hp j) (hat hp (pick ls hp i)) := by
  have hj2 : j = 2 * i + 1 ∨ j = 2 * i + 2 := by omega
  unfold pick
  split
  · rename_i h2
    have h3 := (lessW_iff _ _ _).1 h2.2
    rcases hj2 with rfl | rfl
    · exact lt_asymm h3
    · exact fun h => lt_asymm h h
  · rename_i h2
    rcases hj2 with rfl | rfl
    · exact fun h => lt_asymm h h
    · exact fun h4 => h2 ⟨h, (lessW_iff _ _ _).2 h4⟩
theorem down_heap (ls : List (List S38)) : ∀ (f : Nat) (hp : List Int) (i s : Nat), hp.length ≤ i + f → s ≤ i → HeapBut ls s i hp → HeapFrom ls s (downL ls f hp i)
  | 0, hp, i, s, hf, hs, h => fun j h1 h2 h3 => h.rest j h1 h2 h3 (by
      have h2' : j < hp.length := h2
      omega)
  | f + 1, hp, i, s, hf, hs, h => by
    simp only [downL]
    by_cases hl : hp.length ≤ 2 * i + 1
    · rw [if_pos hl]
      exact fun j h1 h2 h3 => h.rest j h1 h2 h3 (by omega)
    rw [if_neg hl]
    obtain ⟨hpo, hpl⟩ := pick_or ls hp i (by omega)
    have hmin := pick_min ls hp i
    by_cases hlt : lessW ls (hat hp (pick ls hp i)) (hat hp i) = true
    · rw [if_pos hlt]
      rw [lessW_iff] at hlt
      generalize hc : pick ls hp i = c at *
      have hi : i < hp.length := by omega
      have hsw := fun j => swap_hat hp i c j hi hpl
      refine down_heap ls f _ c s (by rw [swap_len]; omega) (by omega) ⟨fun j h1 h2 h3 h4 => ?_, fun h1 h2 j h3 h4 h5 => ?_⟩
      · rw [swap_len] at h2
        rw [hsw, hsw, if_neg h4]
        by_cases hpi : (j - 1) / 2 = i
        · rw [if_pos hpi]
          by_cases hjc : j = c
          · rw [if_pos hjc]; exact lt_asymm hlt
          · rw [if_neg hjc, if_neg (by omega)]
            exact hmin j h2 h1 hpi
        · rw [if_neg hpi]
          rw [if_neg (show ¬ j = c by omega)]
          by_cases hji : j = i
          · rw [if_pos hji]
            subst hji
            exact h.over h1 h3 c (by omega) hpl (by omega)
          · rw [if_neg hji]
            exact h.rest j h1 h2 h3 hpi
      · rw [swap_len] at h4
        rw [hsw, hsw, if_neg (by omega), if_neg (by omega), if_neg (by omega), if_pos (by omega)]
        have h6 := h.rest j h3 h4 (by omega) (by omega)
        rwa [h5] at h6
    · rw [if_neg hlt]
      rw [lessW_iff] at hlt
      intro j h1 h2 h3
      by_cases hpi : (j - 1) / 2 = i
      · rw [hpi]
        exact le_trans' hlt (hmin j h2 h1 hpi)
      · exact h.rest j h1 h2 h3 hpi
theorem down_perm (ls : List (List S38)) : ∀ (f : Nat) (hp : List Int) (i : Nat), (downL ls f hp i).Perm hp
  | 0, hp, i => List.Perm.refl _
  | f + 1, hp, i => by
    simp only [downL]
    split
    · exact List.Perm.refl _
    · rename_i hl
      split
      · exact (down_perm ls f _ _).trans (swap_perm hp i _ (by omega) (pick_or ls hp i (by omega)).2)
      · exact List.Perm.refl _
theorem down_len (ls : List (List S38)) (f : Nat) (hp : List Int) (i : Nat) : (downL ls f hp i).length = hp.length := (down_perm ls f hp i).length_eq
theorem root_min {ls : List (List S38)} {hp : List Int} (h : HeapFrom ls 0 hp) : ∀ (n j : Nat), j ≤ n → j < hp.length → ¬ ltP ls (hat hp j) (hat hp 0)
  | n, 0, _, _ => fun h => lt_asymm h h
  | 0, j + 1, h1, _ => by omega
  | n + 1, j + 1, h1, h2 => le_trans' (root_min h n ((j + 1 - 1) / 2) (by omega) (by omega)) (h (j + 1) (by omega) h2 (by omega))

/-! ### the state of a walk -/
structure Inv (ls : List (List S38)) (hp : List Int) : Prop where
  ord : ∀ l ∈ ls, Ord l
  mem : ∀ z : Int, z ∈ hp ↔ 0 ≤ z ∧ z < ls.length ∧ lst ls z ≠ []
  nodup : hp.Nodup
  heap : HeapFrom ls 0 hp
theorem lst_ord {ls : List (List S38)} (h : ∀ l ∈ ls, Ord l) (z : Int) : Ord (lst ls z) := by
  unfold lst
  rw [List.getD_eq_getElem?_getD]
  cases hq : ls[z.toNat]? with
  | none => simp [Tr.Ord]
  | some l => exact h l (List.mem_of_getElem? hq)
theorem lst_set (ls : List (List S38)) (i : Int) (v : List S38) (z : Int) (h0 : 0 ≤ i) (hi : i < ls.length) (hz : 0 ≤ z) : lst (ls.set i.toNat v) z = if z = i then v else lst ls z := by
  unfold lst
  simp only [List.getD_eq_getElem?_getD, List.getElem?_set]
  by_cases e : z = i
  · subst e
    rw [if_pos rfl, if_pos rfl, if_pos (by omega)]; rfl
  · rw [if_neg e, if_neg (by omega)]
theorem hkey_set (ls : List (List S38)) (i : Int) (v : List S38) (z : Int) (h0 : 0 ≤ i) (hi : i < ls.length) (hz : 0 ≤ z) (hne : z ≠ i) : hkey (ls.set i.toNat v) z = hkey ls z := by
  unfold hkey
  rw [lst_set ls i v z h0 hi hz, if_neg hne]
theorem ltP_set (ls : List (List S38)) (i : Int) (v : List S38) (a b : Int) (h0 : 0 ≤ i) (hi : i < ls.length) (ha : 0 ≤ a) (hb : 0 ≤ b) (hai : a ≠ i) (hbi : b ≠ i) : ltP (ls.set i.toNat v) a b ↔ ltP ls a b := by
  unfold ltP
  rw [hkey_set ls i v a h0 hi ha hai, hkey_set ls i v b h0 hi hb hbi]
/-- The lists behind a pop, and the heap ahead of its last repair. -/
def popLs (ls : List (List S38)) (hp : List Int) : List (List S38) := ls.set (hat hp 0).toNat (lst ls (hat hp 0)).tail
def popHp (ls : List (List S38)) (hp : List Int) : List Int := if (lst ls (hat hp 0)).tail = [] then (hp.set 0 (hat hp (hp.length - 1))).take (hp.length - 1) else hp
theorem nod_hat {hp : List Int} (h : hp.Nodup) {a b : Nat} (ha : a < hp.length) (hb : b < hp.length) (e : hat hp a = hat hp b) : a = b := by
  rw [hat_get hp a ha, hat_get hp b hb] at e
  have h2 := List.pairwise_iff_getElem.1 h
  rcases Nat.lt_trichotomy a b with h3 | h3 | h3
  · exact absurd e (h2 a b ha hb h3)
  · exact h3
  · exact absurd e.symm (h2 b a hb ha h3)
theorem nod_of {hp : List Int} (h : ∀ a b, a < b → b < hp.length → hat hp a ≠ hat hp b) : hp.Nodup := by
  refine List.pairwise_iff_getElem.2 fun a b ha hb hab => ?_
  have := h a b hab hb
  rwa [hat_get hp a ha, hat_get hp b hb] at this
theorem pop_inv {ls : List (List S38)} {hp : List Int} (h : Inv ls hp) (hne : hp ≠ []) (f : Nat) (hf : (popHp ls hp).length ≤ f) : Inv (popLs ls hp) (downL (popLs ls hp) f (popHp ls hp) 0) := by
  have hlen : 0 < hp.length := List.length_pos_iff.2 hne
  obtain ⟨i0, i1, i2⟩ := (h.mem _).1 (hat_mem hp 0 hlen)
  have hinj : ∀ j, 1 ≤ j → j < hp.length → hat hp j ≠ hat hp 0 := fun j h1 h2 e => by
    have := nod_hat h.nodup h2 hlen e
    omega
  have hlst := fun z hz => lst_set ls (hat hp 0) (lst ls (hat hp 0)).tail z i0 i1 hz
  have hplen : (popHp ls hp).length ≤ hp.length := by
    unfold popHp
    split
    · simp
    · exact Nat.le_refl _
  have hph : ∀ j, 1 ≤ j → j < (popHp ls hp).length → hat (popHp ls hp) j = hat hp j := by
    intro j h1 h2
    unfold popHp at h2 ⊢
    split
    · rename_i ht
      rw [if_pos ht] at h2
      simp only [List.length_take, List.length_set] at h2
      unfold hat
      simp only [List.getD_eq_getElem?_getD, List.getElem?_take]
      rw [if_pos (by omega), List.getElem?_set, if_neg (by omega)]
    · rfl
  -- whose lists have something
  have hmemp : ∀ z : Int, z ∈ popHp ls hp ↔ 0 ≤ z ∧ z < (popLs ls hp).length ∧ lst (popLs ls hp) z ≠ [] := by
    intro z
    have e1 : (popLs ls hp).length = ls.length := by simp [popLs]
    rw [e1]
    unfold popHp
    split
    · rename_i ht
      constructor
      · intro hz
        -- z is of hp, and not the first one
        have hz2 : z ∈ hp ∧ z ≠ hat hp 0 := by
          obtain ⟨j, hj, rfl⟩ := List.getElem_of_mem hz
          simp only [List.length_take, List.length_set] at hj
          rw [List.getElem_take, List.getElem_set]
          split
          · rename_i e
            subst e
            exact ⟨hat_mem hp _ (by omega), hinj _ (by omega) (by omega)⟩
          · refine ⟨List.getElem_mem _, ?_⟩
            have := hinj j (by omega) (by omega)
            rwa [hat_get hp j (by omega)] at this
        obtain ⟨z0, z1, z2⟩ := (h.mem z).1 hz2.1
        exact ⟨z0, z1, by unfold popLs; rw [hlst z z0, if_neg hz2.2]; exact z2⟩
      · rintro ⟨z0, z1, z2⟩
        unfold popLs at z2
        rw [hlst z z0] at z2
        by_cases e : z = hat hp 0
        · rw [if_pos e] at z2; exact absurd ht z2
        · rw [if_neg e] at z2
          have hz : z ∈ hp := (h.mem z).2 ⟨z0, z1, z2⟩
          obtain ⟨j, hj, rfl⟩ := List.getElem_of_mem hz
          have hj1 : 1 ≤ j := by
            rcases Nat.eq_zero_or_pos j with rfl | hj1
            · exact absurd (hat_get hp 0 hlen).symm e
            · exact hj1
          by_cases hl : j = hp.length - 1
          · have e2 : ((hp.set 0 (hat hp (hp.length - 1))).take (hp.length - 1))[0]? = some hp[j] := by
              rw [List.getElem?_take, if_pos (by omega), List.getElem?_set, if_pos rfl, if_pos hlen, ← hl, hat_get hp j hj]
            exact List.mem_of_getElem? e2
          · have e2 : ((hp.set 0 (hat hp (hp.length - 1))).take (hp.length - 1))[j]? = some hp[j] := by
              rw [List.getElem?_take, if_pos (by omega), List.getElem?_set, if_neg (by omega), List.getElem?_eq_getElem hj]
            exact List.mem_of_getElem? e2
    · rename_i ht
      rw [h.mem z]
      constructor
      · rintro ⟨z0, z1, z2⟩
        refine ⟨z0, z1, ?_⟩
        unfold popLs
        rw [hlst z z0]
        split
        · exact ht
        · exact z2
      · rintro ⟨z0, z1, z2⟩
        refine ⟨z0, z1, ?_⟩
        unfold popLs at z2
        rw [hlst z z0] at z2
        split at z2
        · rename_i e; rw [e]; exact i2
        · exact z2
  have hnd : (popHp ls hp).Nodup := by
    refine nod_of fun a b hab hb => ?_
    rw [hph b (by omega) hb]
    rcases Nat.eq_zero_or_pos a with rfl | ha
    · unfold popHp at hb ⊢
      split
      · rename_i ht
        rw [if_pos ht] at hb
        simp only [List.length_take, List.length_set] at hb
        have e0 : hat ((hp.set 0 (hat hp (hp.length - 1))).take (hp.length - 1)) 0 = hat hp (hp.length - 1) := by
          unfold hat
          simp only [List.getD_eq_getElem?_getD, List.getElem?_take]
          rw [if_pos (by omega), List.getElem?_set, if_pos rfl, if_pos hlen]
          rfl
        rw [e0]
        intro e
        have := nod_hat h.nodup (by omega) (by omega) e
        omega
      · rename_i ht
        rw [if_neg ht] at hb
        exact fun e => hinj b (by omega) hb e.symm
    · rw [hph a ha (by omega)]
      intro e
      have := nod_hat h.nodup (by omega) (by omega) e
      omega
  have hbut : HeapBut (popLs ls hp) 0 0 (popHp ls hp) := by
    refine ⟨fun j h1 h2 _ h4 => ?_, fun h1 => by omega⟩
    have hj := hph j h1 h2
    have hpj := hph ((j - 1) / 2) (by omega) (by omega)
    rw [hj, hpj]
    have m1 := (h.mem _).1 (hat_mem hp j (by omega))
    have m2 := (h.mem _).1 (hat_mem hp ((j - 1) / 2) (by omega))
    unfold popLs
    rw [ltP_set ls (hat hp 0) _ _ _ i0 i1 m1.1 m2.1 (hinj j h1 (by omega)) (hinj _ (by omega) (by omega))]
    exact h.heap j h1 (by omega) (by omega)
  have hperm := down_perm (popLs ls hp) f (popHp ls hp) 0
  refine ⟨fun l hl => ?_, fun z => ?_, ?_, ?_⟩
  · unfold popLs at hl
    rcases List.mem_or_eq_of_mem_set hl with hl | rfl
    · exact h.ord l hl
    · exact (lst_ord h.ord (hat hp 0)).sublist (List.tail_sublist _)
  · rw [hperm.mem_iff]; exact hmemp z
  · exact hperm.nodup_iff.2 hnd
  · exact down_heap _ f _ 0 0 (by omega) (Nat.le_refl _) hbut
end Go.Proofs.Ytgoidimipchejaa.Mg
