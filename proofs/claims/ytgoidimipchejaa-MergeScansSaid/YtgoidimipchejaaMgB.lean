/- Layer 14: plain laws of a heap of lists; no program here. -/
import Derived.Test.YtgoidimipchejaaTrL
namespace Go.Proofs.Ytgoidimipchejaa.Mg
open Go.RowKit Go.Proofs.Ytgoidimipchejaa.PT Go.Proofs.Ytgoidimipchejaa.Tr
set_option linter.unusedVariables false
set_option linter.unusedSimpArgs false

/-- List z. -/
def lst (ls : List (List S38)) (z : Int) : List S38 := ls.getD z.toNat []
/-- The key of list z's first item. -/
def hkey (ls : List (List S38)) (z : Int) : List UInt8 := kOf (rd_T38 (lst ls z) 0)
def ltP (ls : List (List S38)) (a b : Int) : Prop := hkey ls a < hkey ls b ∨ (hkey ls a = hkey ls b ∧ a < b)
def lessW (ls : List (List S38)) (a b : Int) : Bool := Op.bytesLess (hkey ls a) (hkey ls b) || (decide (hkey ls a = hkey ls b) && decide (a < b))
theorem lessW_iff (ls : List (List S38)) (a b : Int) : lessW ls a b = true ↔ ltP ls a b := by
  unfold lessW ltP
  simp [less_iff]
theorem lt_asymm {ls : List (List S38)} {a b : Int} (h : ltP ls a b) : ¬ ltP ls b a := by
  rintro (k | ⟨k1, k2⟩) <;> rcases h with h | ⟨h1, h2⟩
  · exact k_asymm h k
  · rw [h1] at k; exact k_irr _ k
  · rw [k1] at h; exact k_irr _ h
  · omega
/-- Not ahead, through a third one. -/
theorem le_trans' {ls : List (List S38)} {a b c : Int} (h1 : ¬ ltP ls b a) (h2 : ¬ ltP ls c b) : ¬ ltP ls c a := by
  intro h
  rcases k_tri (hkey ls c) (hkey ls b) with h3 | h3 | h3
  · exact h2 (.inl h3)
  · have h4 : ¬ c < b := fun h4 => h2 (.inr ⟨h3, h4⟩)
    rcases h with h | ⟨h5, h6⟩
    · exact h1 (.inl (by rw [← h3]; exact h))
    · exact h1 (.inr ⟨by rw [← h3]; exact h5, by omega⟩)
  · rcases h with h | ⟨h5, h6⟩
    · exact h1 (.inl (k_trans h3 h))
    · exact h1 (.inl (by rw [← h5]; exact h3))
def hat (hp : List Int) (j : Nat) : Int := hp.getD j 0
theorem hat_set (hp : List Int) (i : Nat) (v : Int) (j : Nat) (hi : i < hp.length) : hat (hp.set i v) j = if j = i then v else hat hp j := by
  unfold hat
  simp only [List.getD_eq_getElem?_getD, List.getElem?_set]
  by_cases e : i = j
  · subst e; simp [hi]
  · rw [if_neg e, if_neg (fun h => e h.symm)]
theorem hat_get (hp : List Int) (j : Nat) (h : j < hp.length) : hat hp j = hp[j] := by simp [hat, h]
theorem hat_mem (hp : List Int) (j : Nat) (h : j < hp.length) : hat hp j ∈ hp := by rw [hat_get hp j h]; exact List.getElem_mem h

/-! ### the heap's order -/
def HeapFrom (ls : List (List S38)) (s : Nat) (hp : List Int) : Prop := ∀ j, 1 ≤ j → j < hp.length → s ≤ (j - 1) / 2 → ¬ ltP ls (hat hp j) (hat hp ((j - 1) / 2))
structure HeapBut (ls : List (List S38)) (s i : Nat) (hp : List Int) : Prop where
  rest : ∀ j, 1 ≤ j → j < hp.length → s ≤ (j - 1) / 2 → (j - 1) / 2 ≠ i → ¬ ltP ls (hat hp j) (hat hp ((j - 1) / 2))
  over : 1 ≤ i → s ≤ (i - 1) / 2 → ∀ j, 1 ≤ j → j < hp.length → (j - 1) / 2 = i → ¬ ltP ls (hat hp j) (hat hp ((i - 1) / 2))
def pick (ls : List (List S38)) (hp : List Int) (i : Nat) : Nat := if 2 * i + 2 < hp.length ∧ lessW ls (hat hp (2 * i + 2)) (hat hp (2 * i + 1)) = true then 2 * i + 2 else 2 * i + 1
def swap (hp : List Int) (i c : Nat) : List Int := (hp.set i (hat hp c)).set c (hat hp i)
def downL (ls : List (List S38)) : Nat → List Int → Nat → List Int
  | 0, hp, _ => hp
  | f + 1, hp, i => if hp.length ≤ 2 * i + 1 then hp else if lessW ls (hat hp (pick ls hp i)) (hat hp i) = true then downL ls f (swap hp i (pick ls hp i)) (pick ls hp i) else hp
theorem swap_len (hp : List Int) (i c : Nat) : (swap hp i c).length = hp.length := by simp [swap]
theorem swap_hat (hp : List Int) (i c j : Nat) (hi : i < hp.length) (hc : c < hp.length) : hat (swap hp i c) j = if j = c then hat hp i else if j = i then hat hp c else hat hp j := by
  unfold swap
  rw [hat_set _ _ _ _ (by simpa using hc), hat_set _ _ _ _ hi]
theorem swap_perm (hp : List Int) (i c : Nat) (hi : i < hp.length) (hc : c < hp.length) : (swap hp i c).Perm hp := by
  unfold swap
  rw [hat_get hp i hi, hat_get hp c hc]
  exact List.set_set_perm hi hc
theorem pick_or (ls : List (List S38)) (hp : List Int) (i : Nat) (h : 2 * i + 1 < hp.length) : (pick ls hp i = 2 * i + 1 ∨ pick ls hp i = 2 * i + 2) ∧ pick ls hp i < hp.length := by
  unfold pick
  split
  · rename_i h2; exact ⟨.inr rfl, h2.1⟩
  · exact ⟨.inl rfl, h⟩
theorem pick_min (ls : List (List S38)) (hp : List Int) (i j : Nat) (h : j < hp.length) (hj : 1 ≤ j) (hp2 : (j - 1) / 2 = i) : ¬ ltP ls (hat hp j) (hat hp (pick ls hp i)) := by
  have hj2 : j = 2 * i + 1 ∨ j = 2 * i + 2 := by omega
  unfold pick
  split
  · rename_i h2
    have h3 := (lessW_iff _ _ _).1 h2.2
    rcases hj2 with rfl | rfl
    · exact lt_asymm h3
    · exact fun h => lt_asymm h h
  · rename_i h2
    rcases hj2 with rfl | rfl
    · exact fun h => lt_asymm h h
    · exact fun h4 => h2 ⟨h, (lessW_iff _ _ _).2 h4⟩
theorem down_heap (ls : List (List S38)) : ∀ (f : Nat) (hp : List Int) (i s : Nat), hp.length ≤ i + f → s ≤ i → HeapBut ls s i hp → HeapFrom ls s (downL ls f hp i)
  | 0, hp, i, s, hf, hs, h => fun j h1 h2 h3 => h.rest j h1 h2 h3 (by
      have h2' : j < hp.length := h2
      omega)
  | f + 1, hp, i, s, hf, hs, h => by
    simp only [downL]
    by_cases hl : hp.length ≤ 2 * i + 1
    · rw [if_pos hl]
      exact fun j h1 h2 h3 => h.rest j h1 h2 h3 (by omega)
    rw [if_neg hl]
    obtain ⟨hpo, hpl⟩ := pick_or ls hp i (by omega)
    have hmin := pick_min ls hp i
    by_cases hlt : lessW ls (hat hp (pick ls hp i)) (hat hp i) = true
    · rw [if_pos hlt]
      rw [lessW_iff] at hlt
      generalize hc : pick ls hp i = c at *
      have hi : i < hp.length := by omega
      have hsw := fun j => swap_hat hp i c j hi hpl
      refine down_heap ls f _ c s (by rw [swap_len]; omega) (by omega) ⟨fun j h1 h2 h3 h4 => ?_, fun h1 h2 j h3 h4 h5 => ?_⟩
      · rw [swap_len] at h2
        rw [hsw, hsw, if_neg h4]
        by_cases hpi : (j - 1) / 2 = i
        · rw [if_pos hpi]
          by_cases hjc : j = c
          · rw [if_pos hjc]; exact lt_asymm hlt
          · rw [if_neg hjc, if_neg (by omega)]
            exact hmin j h2 h1 hpi
        · rw [if_neg hpi]
          rw [if_neg (show ¬ j = c by omega)]
          by_cases hji : j = i
          · rw [if_pos hji]
            subst hji
            exact h.over h1 h3 c (by omega) hpl (by omega)
          · rw [if_neg hji]
            exact h.rest j h1 h2 h3 hpi
      · rw [swap_len] at h4
        rw [hsw, hsw, if_neg (by omega), if_neg (by omega), if_neg (by omega), if_pos (by omega)]
        have h6 := h.rest j h3 h4 (by omega) (by omega)
        rwa [h5] at h6
    · rw [if_neg hlt]
      rw [lessW_iff] at hlt
      intro j h1 h2 h3
      by_cases hpi : (j - 1) / 2 = i
      · rw [hpi]
        exact le_trans' hlt (hmin j h2 h1 hpi)
      · exact h.rest j h1 h2 h3 hpi
theorem down_perm (ls : List (List S38)) : ∀ (f : Nat) (hp : List Int) (i : Nat), (downL ls f hp i).Perm hp
  | 0, hp, i => List.Perm.refl _
  | f + 1, hp, i => by
    simp only [downL]
    split
    · exact List.Perm.refl _
    · rename_i hl
      split
      · exact (down_perm ls f _ _).trans (swap_perm hp i _ (by omega) (pick_or ls hp i (by omega)).2)
      · exact List.Perm.refl _
theorem down_len (ls : List (List S38)) (f : Nat) (hp : List Int) (i : Nat) : (downL ls f hp i).length = hp.length := (down_perm ls f hp i).length_eq
theorem root_min {ls : List (List S38)} {hp : List Int} (h : HeapFrom ls 0 hp) : ∀ (n j : Nat), j ≤ n → j < hp.length → ¬ ltP ls (hat hp j) (hat hp 0)
  | n, 0, _, _ => fun h => lt_asymm h h
  | 0, j + 1, h1, _ => by omega
  | n + 1, j + 1, h1, h2 => le_trans' (root_min h n ((j + 1 - 1) / 2) (by omega) (by omega)) (h (j + 1) (by omega) h2 (by omega))

/-! ### the state of a walk -/
structure Inv (ls : List (List S38)) (hp : List Int) : Prop where
  ord : ∀ l ∈ ls, Ord l
  mem : ∀ z : Int, z ∈ hp ↔ 0 ≤ z ∧ z < ls.length ∧ lst ls z ≠ []
  nodup : hp.Nodup
  heap : HeapFrom ls 0 hp
theorem lst_ord {ls : List (List S38)} (h : ∀ l ∈ ls, Ord l) (z : Int) : Ord (lst ls z) := by
  unfold lst
  rw [List.getD_eq_getElem?_getD]
  cases hq : ls[z.toNat]? with
  | none => simp [Tr.Ord]
  | some l => exact h l (List.mem_of_getElem? hq)
theorem lst_set (ls : List (List S38)) (i : Int) (v : List S38) (z : Int) (h0 : 0 ≤ i) (hi : i < ls.length) (hz : 0 ≤ z) : lst (ls.set i.toNat v) z = if z = i then v else lst ls z := by
  unfold lst
  simp only [List.getD_eq_getElem?_getD, List.getElem?_set]
  by_cases e : z = i
  · subst e
    rw [if_pos rfl, if_pos rfl, if_pos (by omega)]; rfl
  · rw [if_neg e, if_neg (by omega)]
theorem hkey_set (ls : List (List S38)) (i : Int) (v : List S38) (z : Int) (h0 : 0 ≤ i) (hi : i < ls.length) (hz : 0 ≤ z) (hne : z ≠ i) : hkey (ls.set i.toNat v) z = hkey ls z := by
  unfold hkey
  rw [lst_set ls i v z h0 hi hz, if_neg hne]
theorem ltP_set (ls : List (List S38)) (i : Int) (v : List S38) (a b : Int) (h0 : 0 ≤ i) (hi : i < ls.length) (ha : 0 ≤ a) (hb : 0 ≤ b) (hai : a ≠ i) (hbi : b ≠ i) : ltP (ls.set i.toNat v) a b ↔ ltP ls a b := by
  unfold ltP
  rw [hkey_set ls i v a h0 hi ha hai, hkey_set ls i v b h0 hi hb hbi]
/-- The lists behind a pop, and the heap ahead of its last repair. -/
def popLs (ls : List (List S38)) (hp : List Int) : List (List S38) := ls.set (hat hp 0).toNat (lst ls (hat hp 0)).tail
def popHp (ls : List (List S38)) (hp : List Int) : List Int := if (lst ls (hat hp 0)).tail = [] then (hp.set 0 (hat hp (hp.length - 1))).take (hp.length - 1) else hp
theorem nod_hat {hp : List Int} (h : hp.Nodup) {a b : Nat} (ha : a < hp.length) (hb : b < hp.length) (e : hat hp a = hat hp b) : a = b := by
  rw [hat_get hp a ha, hat_get hp b hb] at e
  have h2 := List.pairwise_iff_getElem.1 h
  rcases Nat.lt_trichotomy a b with h3 | h3 | h3
  · exact absurd e (h2 a b ha hb h3)
  · exact h3
  · exact absurd e.symm (h2 b a hb ha h3)
theorem nod_of {hp : List Int} (h : ∀ a b, a < b → b < hp.length → hat hp a ≠ hat hp b) : hp.Nodup := by
  refine List.pairwise_iff_getElem.2 fun a b ha hb hab => ?_
  have := h a b hab hb
  rwa [hat_get hp a ha, hat_get hp b hb] at this
theorem pop_inv {ls : List (List S38)} {hp : List Int} (h : Inv ls hp) (hne : hp ≠ []) (f : Nat) (hf : (popHp ls hp).length ≤ f) : Inv (popLs ls hp) (downL (popLs ls hp) f (popHp ls hp) 0) := by
  have hlen : 0 < hp.length := List.length_pos_iff.2 hne
  obtain ⟨i0, i1, i2⟩ := (h.mem _).1 (hat_mem hp 0 hlen)
  have hinj : ∀ j, 1 ≤ j → j < hp.length → hat hp j ≠ hat hp 0 := fun j h1 h2 e => by
    have := nod_hat h.nodup h2 hlen e
    omega
  have hlst := fun z hz => lst_set ls (hat hp 0) (lst ls (hat hp 0)).tail z i0 i1 hz
  have hplen : (popHp ls hp).length ≤ hp.length := by
    unfold popHp
    split
    · simp
    · exact Nat.le_refl _
  have hph : ∀ j, 1 ≤ j → j < (popHp ls hp).length → hat (popHp ls hp) j = hat hp j := by
    intro j h1 h2
    unfold popHp at h2 ⊢
    split
    · rename_i ht
      rw [if_pos ht] at h2
      simp only [List.length_take, List.length_set] at h2
      unfold hat
      simp only [List.getD_eq_getElem?_getD, List.getElem?_take]
      rw [if_pos (by omega), List.getElem?_set, if_neg (by omega)]
    · rfl
  -- whose lists have something
  have hmemp : ∀ z : Int, z ∈ popHp ls hp ↔ 0 ≤ z ∧ z < (popLs ls hp).length ∧ lst (popLs ls hp) z ≠ [] := by
    intro z
    have e1 : (popLs ls hp).length = ls.length := by simp [popLs]
    rw [e1]
    unfold popHp
    split
    · rename_i ht
      constructor
      · intro hz
        -- z is of hp, and not the first one
        have hz2 : z ∈ hp ∧ z ≠ hat hp 0 := by
          obtain ⟨j, hj, rfl⟩ := List.getElem_of_mem hz
          simp only [List.length_take, List.length_set] at hj
          rw [List.getElem_take, List.getElem_set]
          split
          · rename_i e
            subst e
            exact ⟨hat_mem hp _ (by omega), hinj _ (by omega) (by omega)⟩
          · refine ⟨List.getElem_mem _, ?_⟩
            have := hinj j (by omega) (by omega)
            rwa [hat_get hp j (by omega)] at this
        obtain ⟨z0, z1, z2⟩ := (h.mem z).1 hz2.1
        exact ⟨z0, z1, by unfold popLs; rw [hlst z z0, if_neg hz2.2]; exact z2⟩
      · rintro ⟨z0, z1, z2⟩
        unfold popLs at z2
        rw [hlst z z0] at z2
        by_cases e : z = hat hp 0
        · rw [if_pos e] at z2; exact absurd ht z2
        · rw [if_neg e] at z2
          have hz : z ∈ hp := (h.mem z).2 ⟨z0, z1, z2⟩
          obtain ⟨j, hj, rfl⟩ := List.getElem_of_mem hz
          have hj1 : 1 ≤ j := by
            rcases Nat.eq_zero_or_pos j with rfl | hj1
            · exact absurd (hat_get hp 0 hlen).symm e
            · exact hj1
          by_cases hl : j = hp.length - 1
          · have e2 : ((hp.set 0 (hat hp (hp.length - 1))).take (hp.length - 1))[0]? = some hp[j] := by
              rw [List.getElem?_take, if_pos (by omega), List.getElem?_set, if_pos rfl, if_pos hlen, ← hl, hat_get hp j hj]
            exact List.mem_of_getElem? e2
          · have e2 : ((hp.set 0 (hat hp (hp.length - 1))).take (hp.length - 1))[j]? = some hp[j] := by
              rw [List.getElem?_take, if_pos (by omega), List.getElem?_set, if_neg (by omega), List.getElem?_eq_getElem hj]
            exact List.mem_of_getElem? e2
    · rename_i ht
      rw [h.mem z]
      constructor
      · rintro ⟨z0, z1, z2⟩
        refine ⟨z0, z1, ?_⟩
        unfold popLs
        rw [hlst z z0]
        split
        · exact ht
        · exact z2
      · rintro ⟨z0, z1, z2⟩
        refine ⟨z0, z1, ?_⟩
        unfold popLs at z2
        rw [hlst z z0] at z2
        split at z2
        · rename_i e; rw [e]; exact i2
        · exact z2
  have hnd : (popHp ls hp).Nodup := by
    refine nod_of fun a b hab hb => ?_
    rw [hph b (by omega) hb]
    rcases Nat.eq_zero_or_pos a with rfl | ha
    · unfold popHp at hb ⊢
      split
      · rename_i ht
        rw [if_pos ht] at hb
        simp only [List.length_take, List.length_set] at hb
        have e0 : hat ((hp.set 0 (hat hp (hp.length - 1))).take (hp.length - 1)) 0 = hat hp (hp.length - 1) := by
          unfold hat
          simp only [List.getD_eq_getElem?_getD, List.getElem?_take]
          rw [if_pos (by omega), List.getElem?_set, if_pos rfl, if_pos hlen]
          rfl
        rw [e0]
        intro e
        have := nod_hat h.nodup (by omega) (by omega) e
        omega
      · rename_i ht
        rw [if_neg ht] at hb
        exact fun e => hinj b (by omega) hb e.symm
    · rw [hph a ha (by omega)]
      intro e
      have := nod_hat h.nodup (by omega) (by omega) e
      omega
  have hbut : HeapBut (popLs ls hp) 0 0 (popHp ls hp) := by
    refine ⟨fun j h1 h2 _ h4 => ?_, fun h1 => by omega⟩
    have hj := hph j h1 h2
    have hpj := hph ((j - 1) / 2) (by omega) (by omega)
    rw [hj, hpj]
    have m1 := (h.mem _).1 (hat_mem hp j (by omega))
    have m2 := (h.mem _).1 (hat_mem hp ((j - 1) / 2) (by omega))
    unfold popLs
    rw [ltP_set ls (hat hp 0) _ _ _ i0 i1 m1.1 m2.1 (hinj j h1 (by omega)) (hinj _ (by omega) (by omega))]
    exact h.heap j h1 (by omega) (by omega)
  have hperm := down_perm (popLs ls hp) f (popHp ls hp) 0
  refine ⟨fun l hl => ?_, fun z => ?_, ?_, ?_⟩
  · unfold popLs at hl
    rcases List.mem_or_eq_of_mem_set hl with hl | rfl
    · exact h.ord l hl
    · exact (lst_ord h.ord (hat hp 0)).sublist (List.tail_sublist _)
  · rw [hperm.mem_iff]; exact hmemp z
  · exact hperm.nodup_iff.2 hnd
  · exact down_heap _ f _ 0 0 (by omega) (Nat.le_refl _) hbut
/-! ### the heap at the begin -/
def idxUp (ls : List (List S38)) : Nat → List Int
  | 0 => []
  | n + 1 => if lst ls (n : Int) = [] then idxUp ls n else idxUp ls n ++ [(n : Int)]
theorem idx_mem (ls : List (List S38)) : ∀ (n : Nat) (z : Int), z ∈ idxUp ls n ↔ 0 ≤ z ∧ z < n ∧ lst ls z ≠ []
  | 0, z => by simp [idxUp]; omega
  | n + 1, z => by
    have ih := idx_mem ls n z
    simp only [idxUp]
    split
    · rename_i h
      rw [ih]
      constructor
      · rintro ⟨a, b, c⟩; exact ⟨a, by omega, c⟩
      · rintro ⟨a, b, c⟩
        refine ⟨a, ?_, c⟩
        rcases Int.lt_or_eq_of_le (show z ≤ (n : Int) by omega) with h2 | h2
        · exact h2
        · rw [h2] at c; exact absurd h c
    · rename_i h
      rw [List.mem_append, ih, List.mem_singleton]
      constructor
      · rintro (⟨a, b, c⟩ | rfl)
        · exact ⟨a, by omega, c⟩
        · exact ⟨by omega, by omega, h⟩
      · rintro ⟨a, b, c⟩
        rcases Int.lt_or_eq_of_le (show z ≤ (n : Int) by omega) with h2 | h2
        · exact .inl ⟨a, h2, c⟩
        · exact .inr h2
theorem idx_nodup (ls : List (List S38)) : ∀ n : Nat, (idxUp ls n).Nodup
  | 0 => by simp [idxUp]
  | n + 1 => by
    simp only [idxUp]
    split
    · exact idx_nodup ls n
    · refine List.nodup_append.2 ⟨idx_nodup ls n, by simp, fun a ha b hb => ?_⟩
      rw [idx_mem] at ha
      rw [List.mem_singleton] at hb
      omega
theorem idx_len (ls : List (List S38)) : ∀ n : Nat, (idxUp ls n).length ≤ n
  | 0 => by simp [idxUp]
  | n + 1 => by
    have ih := idx_len ls n
    simp only [idxUp]
    split
    · omega
    · simp; omega
theorem inv_begin {ls : List (List S38)} {hp : List Int} (ho : ∀ l ∈ ls, Tr.Ord l) (hh : HeapFrom ls 0 hp) (hp2 : hp.Perm (idxUp ls ls.length)) : Inv ls hp :=
  ⟨ho, fun z => by rw [hp2.mem_iff, idx_mem], hp2.nodup_iff.2 (idx_nodup ls _), hh⟩
theorem heap_top (ls : List (List S38)) (hp : List Int) : HeapFrom ls hp.length hp := fun j h1 h2 h3 => by omega
theorem heap_down {ls : List (List S38)} {hp : List Int} {i : Nat} (h : HeapFrom ls (i + 1) hp) (f : Nat) (hf : hp.length ≤ f) : HeapFrom ls i (downL ls f hp i) :=
  down_heap ls f hp i i (by omega) (Nat.le_refl _) ⟨fun j h1 h2 h3 h4 => h j h1 h2 (by omega), fun h1 h2 => by omega⟩

/-! ### the merged list -/
/-- A key's item: of the first list that has it. -/
def firstL (ls : List (List S38)) (key : List UInt8) : Option S38 := ls.findSome? fun l => getL l key
structure IsM (ls : List (List S38)) (M : List S38) : Prop where
  ord : Tr.Ord M
  get : ∀ key, getL M key = firstL ls key
theorem getL_iff {l : List S38} (h : Tr.Ord l) (x : S38) (key : List UInt8) : getL l key = some x ↔ x ∈ l ∧ kOf x = key := by
  constructor
  · intro hg
    exact ⟨List.mem_of_find?_eq_some hg, by have := List.find?_some hg; simpa using this⟩
  · rintro ⟨hm, rfl⟩
    induction l with
    | nil => simp at hm
    | cons y l ih =>
      obtain ⟨h1, h2⟩ := List.pairwise_cons.1 h
      rcases List.mem_cons.1 hm with rfl | hm
      · simp [getL]
      · have hne : ¬ kOf y = kOf x := fun e => by have := h1 x hm; rw [e] at this; exact k_irr _ this
        have := ih h2 hm
        simpa [getL, hne] using this
theorem ordM_ext : ∀ (a b : List S38), Tr.Ord a → Tr.Ord b → (∀ x, x ∈ a ↔ x ∈ b) → a = b
  | [], [], _, _, _ => rfl
  | [], y :: b, _, _, h => by have := (h y).2 (by simp); simp at this
  | x :: a, [], _, _, h => by have := (h x).1 (by simp); simp at this
  | x :: a, y :: b, ha, hb, h => by
    obtain ⟨a1, a2⟩ := List.pairwise_cons.1 ha
    obtain ⟨b1, b2⟩ := List.pairwise_cons.1 hb
    have hxy : x = y := by
      rcases List.mem_cons.1 ((h x).1 (by simp)) with e | hx
      · exact e
      · rcases List.mem_cons.1 ((h y).2 (by simp)) with e | hy
        · exact e.symm
        · exact absurd (a1 y hy) (k_asymm (b1 x hx))
    subst hxy
    rw [ordM_ext a b a2 b2 (fun z => ⟨fun hz => ?_, fun hz => ?_⟩)]
    · rcases List.mem_cons.1 ((h z).1 (by simp [hz])) with e | hz'
      · rw [e] at hz; exact absurd (a1 x hz) (k_irr _)
      · exact hz'
    · rcases List.mem_cons.1 ((h z).2 (by simp [hz])) with e | hz'
      · rw [e] at hz; exact absurd (b1 x hz) (k_irr _)
      · exact hz'
theorem IsM.unique {ls : List (List S38)} {M M' : List S38} (h : IsM ls M) (h' : IsM ls M') : M = M' :=
  ordM_ext M M' h.ord h'.ord fun x => by
    have e := (h.get (kOf x)).trans (h'.get (kOf x)).symm
    constructor
    · intro hx
      exact ((getL_iff h'.ord x (kOf x)).1 (e ▸ (getL_iff h.ord x (kOf x)).2 ⟨hx, rfl⟩)).1
    · intro hx
      exact ((getL_iff h.ord x (kOf x)).1 (e.symm ▸ (getL_iff h'.ord x (kOf x)).2 ⟨hx, rfl⟩)).1
/-- The document's way: the older ones are put first. -/
def mergeL (ls : List (List S38)) : List S38 := ls.foldr (fun l acc => l.foldl insL acc) []
theorem get_ins : ∀ (l : List S38) (x : S38) (key : List UInt8), Tr.Ord l → getL (insL l x) key = if kOf x = key then some x else getL l key
  | [], x, key, _ => by
    simp only [insL, getL, List.find?_cons, List.find?_nil]
    by_cases e : kOf x = key
    · simp [e]
    · simp [e, beq_eq_false_iff_ne.2 e]
  | y :: l, x, key, h => by
    obtain ⟨h1, h2⟩ := List.pairwise_cons.1 h
    have ih := get_ins l x key h2
    simp only [insL]
    split
    · rename_i e
      by_cases ek : kOf x = key
      · rw [if_pos ek]; simp [getL, ek]
      · rw [if_neg ek]
        have ek2 : ¬ kOf y = key := fun k => ek (e.trans k)
        simp [getL, ek, ek2]
    · split
      · by_cases ek : kOf x = key
        · rw [if_pos ek]; simp [getL, ek]
        · rw [if_neg ek]; simp [getL, ek]
      · rename_i ne _
        by_cases ey : kOf y = key
        · have ek : ¬ kOf x = key := fun k => ne (k.trans ey.symm)
          rw [if_neg ek]; simp [getL, ey]
        · have e1 : getL (y :: insL l x) key = getL (insL l x) key := by simp [getL, ey]
          have e2 : getL (y :: l) key = getL l key := by simp [getL, ey]
          rw [e1, e2, ih]
theorem fold_ord : ∀ (l acc : List S38), Tr.Ord acc → Tr.Ord (l.foldl insL acc)
  | [], acc, h => h
  | x :: l, acc, h => fold_ord l _ (insL_ord acc x h)
theorem fold_get : ∀ (l acc : List S38) (key : List UInt8), Tr.Ord l → Tr.Ord acc → getL (l.foldl insL acc) key = (getL l key).or (getL acc key)
  | [], acc, key, _, _ => by simp [getL]
  | x :: l, acc, key, h, ha => by
    obtain ⟨h1, h2⟩ := List.pairwise_cons.1 h
    simp only [List.foldl_cons]
    rw [fold_get l _ key h2 (insL_ord acc x ha), get_ins acc x key ha]
    by_cases e : kOf x = key
    · have hn : getL l key = none := getL_none fun z hz k => by have := h1 z hz; rw [e, k] at this; exact k_irr _ this
      rw [hn, if_pos e]
      simp [getL, e]
    · rw [if_neg e]
      simp [getL, e]
theorem merge_is : ∀ (ls : List (List S38)), (∀ l ∈ ls, Tr.Ord l) → IsM ls (mergeL ls)
  | [], _ => ⟨by simp [mergeL, Tr.Ord], fun key => by simp [mergeL, firstL, getL]⟩
  | l :: ls, h => by
    have ih := merge_is ls fun l' hl => h l' (by simp [hl])
    refine ⟨fold_ord l _ ih.ord, fun key => ?_⟩
    show getL (l.foldl insL (mergeL ls)) key = _
    rw [fold_get l _ key (h l (by simp)) ih.ord, ih.get key]
    simp only [firstL, List.findSome?_cons]
    cases getL l key <;> rfl
/-- A list without its first item, if that is the key's. -/
def dropHead (key : List UInt8) : List S38 → List S38
  | [] => []
  | y :: l => if kOf y = key then l else y :: l
theorem dropHead_sub (key : List UInt8) (l : List S38) : (dropHead key l).Sublist l := by
  cases l with
  | nil => exact List.Sublist.refl _
  | cons y l =>
    simp only [dropHead]
    split
    · exact List.sublist_cons_self y l
    · exact List.Sublist.refl _
theorem dropHead_get {key key' : List UInt8} (l : List S38) (h : ¬ key' = key) : getL (dropHead key l) key' = getL l key' := by
  cases l with
  | nil => rfl
  | cons y l =>
    simp only [dropHead]
    split
    · rename_i e
      have : ¬ kOf y = key' := fun k => h (k.symm.trans e)
      simp [getL, this]
    · rfl
theorem dropHead_no {key : List UInt8} {l : List S38} (h : ∀ y ∈ l, key < kOf y) : dropHead key l = l := by
  cases l with
  | nil => rfl
  | cons y l =>
    simp only [dropHead]
    rw [if_neg fun e => by have := h y (by simp); rw [e] at this; exact k_irr _ this]
theorem dropHead_gt {key : List UInt8} {l : List S38} (h : Tr.Ord l) (hg : ∀ y ∈ l, ¬ kOf y < key) : ∀ y ∈ dropHead key l, key < kOf y := by
  cases l with
  | nil => simp [dropHead]
  | cons x l =>
    obtain ⟨h1, h2⟩ := List.pairwise_cons.1 h
    intro y hy
    simp only [dropHead] at hy
    split at hy
    · rename_i e
      have := h1 y hy
      rwa [e] at this
    · rename_i ne
      have hx : key < kOf x := (k_tri key (kOf x)).elim id fun k => k.elim (fun e => absurd e.symm ne) fun k => absurd k (hg x (by simp))
      rcases List.mem_cons.1 hy with rfl | hy
      · exact hx
      · exact k_trans hx (h1 y hy)
theorem firstL_mem {ls : List (List S38)} {key : List UInt8} {x : S38} (h : firstL ls key = some x) : ∃ l ∈ ls, getL l key = some x := by
  unfold firstL at h
  obtain ⟨l, hl, h2⟩ := List.exists_of_findSome?_eq_some h
  exact ⟨l, hl, h2⟩
theorem firstL_drop {ls : List (List S38)} {key key' : List UInt8} (h : ¬ key' = key) : firstL (ls.map (dropHead key)) key' = firstL ls key' := by
  induction ls with
  | nil => rfl
  | cons l ls ih =>
    simp only [firstL, List.map_cons, List.findSome?_cons] at ih ⊢
    rw [dropHead_get l h, ih]
/-- Where a key's item is: the first list that has it; none: 0. -/
def fromI (ls : List (List S38)) (key : List UInt8) : Int := ((ls.findIdx? fun l => (getL l key).isSome).getD 0 : Nat)
theorem fromI_drop {ls : List (List S38)} {key key' : List UInt8} (h : ¬ key' = key) : fromI (ls.map (dropHead key)) key' = fromI ls key' := by
  have e : ∀ ls : List (List S38), (ls.map (dropHead key)).findIdx? (fun l => (getL l key').isSome) = ls.findIdx? fun l => (getL l key').isSome := fun ls => by
    induction ls with
    | nil => rfl
    | cons l ls ih =>
      simp only [List.map_cons, List.findIdx?_cons]
      rw [dropHead_get l h, ih]
  unfold fromI
  rw [e]
/-- The first item of all. -/
structure IsHead (ls : List (List S38)) (h0 : Int) (x : S38) : Prop where
  at0 : 0 ≤ h0 ∧ h0 < ls.length
  is : ∃ t, lst ls h0 = x :: t
  min : ∀ z : Int, 0 ≤ z → z < ls.length → lst ls z ≠ [] → ¬ ltP ls z h0
theorem inv_head {ls : List (List S38)} {hp : List Int} (h : Inv ls hp) (hne : hp ≠ []) : IsHead ls (hat hp 0) (rd_T38 (lst ls (hat hp 0)) 0) := by
  have hlen : 0 < hp.length := List.length_pos_iff.2 hne
  obtain ⟨i0, i1, i2⟩ := (h.mem _).1 (hat_mem hp 0 hlen)
  refine ⟨⟨i0, i1⟩, ?_, fun z z0 z1 z2 => ?_⟩
  · cases hl : lst ls (hat hp 0) with
    | nil => exact absurd hl i2
    | cons y t => exact ⟨t, by simp [rd_T38]⟩
  · have hz := (h.mem z).2 ⟨z0, z1, z2⟩
    obtain ⟨j, hj, rfl⟩ := List.getElem_of_mem hz
    have := root_min h.heap j j (Nat.le_refl _) hj
    rwa [hat_get hp j hj] at this
theorem hkey_cons {ls : List (List S38)} {z : Int} {x : S38} {t : List S38} (h : lst ls z = x :: t) : hkey ls z = kOf x := by
  unfold hkey
  rw [h]
  simp [rd_T38]
theorem lst_of_mem {ls : List (List S38)} {l : List S38} (h : l ∈ ls) : ∃ z : Int, 0 ≤ z ∧ z < ls.length ∧ lst ls z = l := by
  obtain ⟨i, hi, rfl⟩ := List.getElem_of_mem h
  exact ⟨(i : Int), by omega, by omega, by simp [lst, hi]⟩
theorem head_ge {ls : List (List S38)} {h0 : Int} {x : S38} (h : IsHead ls h0 x) (ho : ∀ l ∈ ls, Tr.Ord l) : ∀ l ∈ ls, ∀ y ∈ l, ¬ kOf y < kOf x := by
  intro l hl y hy hlt
  obtain ⟨z, z0, z1, rfl⟩ := lst_of_mem hl
  obtain ⟨t, ht⟩ := h.is
  have hne : lst ls z ≠ [] := fun e => by rw [e] at hy; simp at hy
  have hm := h.min z z0 z1 hne
  cases hz : lst ls z with
  | nil => exact hne hz
  | cons u v =>
    have hk := hkey_cons hz
    rw [hz] at hy
    have hzo := ho _ hl
    rw [hz] at hzo
    obtain ⟨o1, o2⟩ := List.pairwise_cons.1 hzo
    have hu : ¬ kOf u < kOf x := fun e => hm (.inl (by rw [hk, hkey_cons ht]; exact e))
    rcases List.mem_cons.1 hy with rfl | hy
    · exact hu hlt
    · exact hu (k_trans (o1 y hy) hlt)
theorem findSome_at {α β : Type} (f : α → Option β) : ∀ (l : List α) (i : Nat) (hi : i < l.length) (b : β), f l[i] = some b → (∀ j (hj : j < i), f (l[j]'(by omega)) = none) → l.findSome? f = some b
  | [], i, hi, b, _, _ => by simp at hi
  | a :: l, 0, hi, b, h, _ => by
    simp only [List.getElem_cons_zero] at h
    simp [List.findSome?_cons, h]
  | a :: l, i + 1, hi, b, h, hn => by
    have h0 := hn 0 (by omega)
    simp only [List.getElem_cons_zero] at h0
    simp only [List.findSome?_cons, h0]
    exact findSome_at f l i (by simpa using hi) b (by simpa using h) fun j hj => by have := hn (j + 1) (by omega); simpa using this
theorem findIdx_at {α : Type} (f : α → Bool) : ∀ (l : List α) (i : Nat) (hi : i < l.length), f l[i] = true → (∀ j (hj : j < i), f (l[j]'(by omega)) = false) → l.findIdx? f = some i
  | [], i, hi, _, _ => by simp at hi
  | a :: l, 0, hi, h, _ => by
    simp only [List.getElem_cons_zero] at h
    simp [List.findIdx?_cons, h]
  | a :: l, i + 1, hi, h, hn => by
    have h0 := hn 0 (by omega)
    simp only [List.getElem_cons_zero] at h0
    simp only [List.findIdx?_cons, h0, Bool.false_eq_true, if_false]
    rw [findIdx_at f l i (by simpa using hi) (by simpa using h) fun j hj => by have := hn (j + 1) (by omega); simpa using this]
    rfl
theorem lst_nat {ls : List (List S38)} {z : Int} (h1 : z < ls.length) (h0 : 0 ≤ z) : ∃ h : z.toNat < ls.length, lst ls z = ls[z.toNat] :=
  ⟨by omega, by unfold lst; rw [List.getD_eq_getElem?_getD, List.getElem?_eq_getElem (by omega)]; rfl⟩
theorem head_none {ls : List (List S38)} {h0 : Int} {x : S38} (h : IsHead ls h0 x) (ho : ∀ l ∈ ls, Tr.Ord l) (j : Nat) (hj : (j : Int) < h0) : ∃ hl : j < ls.length, getL ls[j] (kOf x) = none := by
  obtain ⟨⟨a0, a1⟩, ⟨t, ht⟩, hmin⟩ := h
  have hl : j < ls.length := by omega
  refine ⟨hl, getL_none fun y hy e => ?_⟩
  obtain ⟨hl2, e2⟩ := lst_nat (ls := ls) (z := (j : Int)) (by omega) (by omega)
  simp only [Int.toNat_natCast] at e2
  have hne : lst ls (j : Int) ≠ [] := fun e3 => by rw [e2] at e3; rw [e3] at hy; simp at hy
  have hm := hmin (j : Int) (by omega) (by omega) hne
  cases hz : ls[j] with
  | nil => rw [hz] at hy; simp at hy
  | cons u v =>
    rw [hz] at e2
    have hk := hkey_cons e2
    have hzo := ho _ (List.getElem_mem hl)
    rw [hz] at hzo hy
    obtain ⟨o1, o2⟩ := List.pairwise_cons.1 hzo
    refine hm ?_
    rcases List.mem_cons.1 hy with rfl | hy
    · exact .inr ⟨by rw [hk, hkey_cons ht, e], hj⟩
    · exact .inl (by rw [hk, hkey_cons ht, ← e]; exact o1 y hy)
theorem head_first {ls : List (List S38)} {h0 : Int} {x : S38} (h : IsHead ls h0 x) (ho : ∀ l ∈ ls, Tr.Ord l) : firstL ls (kOf x) = some x ∧ fromI ls (kOf x) = h0 := by
  obtain ⟨t, ht⟩ := h.is
  obtain ⟨hl, e⟩ := lst_nat h.at0.2 h.at0.1
  have hx : getL ls[h0.toNat] (kOf x) = some x := by rw [← e, ht]; simp [getL]
  have hn : ∀ j (hj : j < h0.toNat), getL (ls[j]'(by omega)) (kOf x) = none := fun j hj => (head_none h ho j (by have := h.at0.1; omega)).2
  refine ⟨findSome_at _ ls h0.toNat hl x hx hn, ?_⟩
  unfold fromI
  rw [findIdx_at (fun l => (getL l (kOf x)).isSome) ls h0.toNat hl (by simp only [hx]; rfl) (fun j hj => by simp only [hn j hj]; rfl)]
  have := h.at0.1
  simp only [Option.getD_some]
  omega
/-- One step: the merged list's first item, and what is left. -/
theorem head_step {ls : List (List S38)} {h0 : Int} {x : S38} (h : IsHead ls h0 x) (ho : ∀ l ∈ ls, Tr.Ord l) : mergeL ls = x :: mergeL (ls.map (dropHead (kOf x))) := by
  have ho2 : ∀ l ∈ ls.map (dropHead (kOf x)), Tr.Ord l := fun l hl => by
    obtain ⟨l', hl', rfl⟩ := List.mem_map.1 hl
    exact (ho l' hl').sublist (dropHead_sub _ _)
  have hM := merge_is _ ho2
  refine (merge_is ls ho).unique ⟨List.pairwise_cons.2 ⟨fun z hz => ?_, hM.ord⟩, fun key => ?_⟩
  · have h1 := (getL_iff hM.ord z (kOf z)).2 ⟨hz, rfl⟩
    rw [hM.get] at h1
    obtain ⟨l, hl, h2⟩ := firstL_mem h1
    obtain ⟨l', hl', rfl⟩ := List.mem_map.1 hl
    exact dropHead_gt (ho l' hl') (head_ge h ho l' hl') z ((getL_iff (ho2 _ hl) z _).1 h2).1
  · by_cases e : kOf x = key
    · subst e
      rw [(head_first h ho).1]
      simp [getL]
    · have e1 : getL (x :: mergeL (ls.map (dropHead (kOf x)))) key = getL (mergeL (ls.map (dropHead (kOf x)))) key := by simp [getL, e]
      rw [e1, hM.get, firstL_drop (fun k => e k.symm)]
theorem merge_nil {ls : List (List S38)} {hp : List Int} (h : Inv ls hp) (hn : hp = []) : mergeL ls = [] := by
  have hall : ∀ l ∈ ls, l = [] := fun l hl => by
    obtain ⟨z, z0, z1, rfl⟩ := lst_of_mem hl
    rcases Classical.em (lst ls z = []) with e | e
    · exact e
    · have := (h.mem z).2 ⟨z0, z1, e⟩
      rw [hn] at this
      simp at this
  have : ∀ ls : List (List S38), (∀ l ∈ ls, l = []) → mergeL ls = [] := fun ls => by
    induction ls with
    | nil => intro _; rfl
    | cons l ls ih =>
      intro hl
      show l.foldl insL (mergeL ls) = []
      rw [hl l (by simp), ih fun l' h' => hl l' (by simp [h'])]
      rfl
  exact this ls hall
/-! ### popping all of one key -/
def total (ls : List (List S38)) : Nat := (ls.map List.length).sum
/-- Between: some heads of a key are gone. -/
structure Mid (ls0 ls : List (List S38)) (hp : List Int) (key : List UInt8) : Prop where
  inv : Inv ls hp
  same : ls.map (dropHead key) = ls0.map (dropHead key)
  ge : ∀ l ∈ ls, ∀ y ∈ l, ¬ kOf y < key
theorem mid_start {ls : List (List S38)} {hp : List Int} (h : Inv ls hp) (hne : hp ≠ []) : Mid ls ls hp (kOf (rd_T38 (lst ls (hat hp 0)) 0)) :=
  ⟨h, rfl, head_ge (inv_head h hne) h.ord⟩
theorem map_set_same {α β : Type} (f : α → β) : ∀ (l : List α) (i : Nat) (v : α) (hi : i < l.length), f v = f l[i] → (l.set i v).map f = l.map f
  | [], i, v, hi, _ => by simp at hi
  | a :: l, 0, v, hi, h => by simpa using h
  | a :: l, i + 1, v, hi, h => by simp [map_set_same f l i v (by simpa using hi) (by simpa using h)]
theorem mid_pop {ls0 ls : List (List S38)} {hp : List Int} {key : List UInt8} (h : Mid ls0 ls hp key) (hne : hp ≠ []) (hk : hkey ls (hat hp 0) = key) (f : Nat) (hf : (popHp ls hp).length ≤ f) :
    Mid ls0 (popLs ls hp) (downL (popLs ls hp) f (popHp ls hp) 0) key := by
  have hd := inv_head h.inv hne
  obtain ⟨t, ht⟩ := hd.is
  obtain ⟨hl, e⟩ := lst_nat hd.at0.2 hd.at0.1
  have hx : kOf (rd_T38 (lst ls (hat hp 0)) 0) = key := by rw [← hk]; rfl
  have hO := lst_ord h.inv.ord (hat hp 0)
  have htail : (lst ls (hat hp 0)).tail = t := by rw [ht]; rfl
  rw [ht] at hO
  obtain ⟨o1, o2⟩ := List.pairwise_cons.1 hO
  have hdt : dropHead key t = t := dropHead_no fun y hy => by have := o1 y hy; rwa [hx] at this
  have hdl : dropHead key ls[(hat hp 0).toNat] = t := by rw [← e, ht]; simp only [dropHead]; rw [if_pos hx]
  refine ⟨pop_inv h.inv hne f hf, ?_, fun l hl2 => ?_⟩
  · rw [← h.same]
    unfold popLs
    rw [htail]
    exact map_set_same _ ls _ t hl (by rw [hdt, hdl])
  · unfold popLs at hl2
    rcases List.mem_or_eq_of_mem_set hl2 with hl2 | rfl
    · exact h.ge l hl2
    · rw [htail]
      intro y hy hlt
      have := o1 y hy
      rw [hx] at this
      exact k_asymm this hlt
theorem total_set : ∀ (ls : List (List S38)) (i : Nat) (hi : i < ls.length) (v : List S38), v.length < ls[i].length → total (ls.set i v) < total ls
  | [], i, hi, v, _ => by simp at hi
  | a :: l, 0, hi, v, h => by simp [total] at h ⊢; omega
  | a :: l, i + 1, hi, v, h => by
    have := total_set l i (by simpa using hi) v (by simpa using h)
    simp [total] at this ⊢
    omega
theorem total_pop {ls : List (List S38)} {hp : List Int} (h : Inv ls hp) (hne : hp ≠ []) : total (popLs ls hp) < total ls := by
  have hd := inv_head h hne
  obtain ⟨t, ht⟩ := hd.is
  obtain ⟨hl, e⟩ := lst_nat hd.at0.2 hd.at0.1
  unfold popLs
  exact total_set ls _ hl _ (by rw [← e, ht]; simp)
theorem mid_end {ls0 ls : List (List S38)} {hp : List Int} {key : List UInt8} (h : Mid ls0 ls hp key) (hk : hp = [] ∨ ¬ hkey ls (hat hp 0) = key) : ls = ls0.map (dropHead key) := by
  have hgt : ∀ l ∈ ls, ∀ y ∈ l, key < kOf y := by
    intro l hl y hy
    obtain ⟨z, z0, z1, rfl⟩ := lst_of_mem hl
    have hne : lst ls z ≠ [] := fun e => by rw [e] at hy; simp at hy
    have hz := (h.inv.mem z).2 ⟨z0, z1, hne⟩
    have hpne : hp ≠ [] := fun e => by rw [e] at hz; simp at hz
    have hd := inv_head h.inv hpne
    obtain ⟨t, ht⟩ := hd.is
    have hr : ¬ hkey ls (hat hp 0) = key := hk.resolve_left hpne
    obtain ⟨hl2, e⟩ := lst_nat hd.at0.2 hd.at0.1
    have hroot : lst ls (hat hp 0) ∈ ls := by rw [e]; exact List.getElem_mem hl2
    have hrk := hkey_cons ht
    have hge := h.ge _ hroot (rd_T38 (lst ls (hat hp 0)) 0) (by rw [ht]; simp [rd_T38])
    rw [← hrk] at hge
    have hlt : key < hkey ls (hat hp 0) := (k_tri key (hkey ls (hat hp 0))).elim id fun k => k.elim (fun e => absurd e.symm hr) fun k => absurd k hge
    have hy2 := head_ge hd h.inv.ord _ hl y hy
    rw [← hrk] at hy2
    rcases k_tri (hkey ls (hat hp 0)) (kOf y) with k | k | k
    · exact k_trans hlt k
    · rwa [← k]
    · exact absurd k hy2
  rw [← h.same]
  have : ∀ ls : List (List S38), (∀ l ∈ ls, ∀ y ∈ l, key < kOf y) → ls.map (dropHead key) = ls := fun ls => by
    induction ls with
    | nil => intro _; rfl
    | cons l ls ih =>
      intro hl
      simp only [List.map_cons]
      rw [dropHead_no (hl l (by simp)), ih fun l' h' => hl l' (by simp [h'])]
  exact (this ls hgt).symm
end Go.Proofs.Ytgoidimipchejaa.Mg
