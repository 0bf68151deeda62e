/- Layer 10: a tree's handle as items in order: putting one; no condition beyond the bounds that each lemma names. -/
import Derived.Test.YtgoidimipchejaaTrQ
import Derived.Test.YtgoidimipchejaaTrP
import Derived.Test.YtgoidimipchejaaTrG
namespace Go.Proofs.Ytgoidimipchejaa.Tr
open Go.RowKit Go.Proofs.Ytgoidimipchejaa.PT Go.Proofs.YtgoidimipchejaaW.PrintWords Go.Proofs.YtgoidimipchejaaW.PrintLast Go.Proofs.YtgoidimipchejaaW.PrintMore
set_option linter.unusedVariables false
set_option linter.unusedSimpArgs false

/-- Items that are no greater than a statement's. -/
def Lite (l : List S38) : Prop := l.length ≤ 1000 ∧ ∀ x ∈ l, x.f0.size ≤ 200 ∧ x.f2.f1.length ≤ 200
theorem wtL_lite : ∀ l : List S38, (∀ x ∈ l, x.f0.size ≤ 200 ∧ x.f2.f1.length ≤ 200) → wtL l ≤ 416 * l.length
  | [], _ => by simp [wtL]
  | x :: l, h => by
    have ih := wtL_lite l fun y hy => h y (by simp [hy])
    have hx := h x (by simp)
    simp only [wtL, List.length_cons, wN]
    omega
theorem wtL_mem : ∀ (l : List S38) (x : S38), x ∈ l → wN x ≤ wtL l
  | y :: l, x, h => by
    simp only [wtL]
    rcases List.mem_cons.1 h with rfl | h
    · omega
    · have := wtL_mem l x h; omega
theorem insL_new : ∀ (l : List S38) (x : S38), getL l (kOf x) = none → (insL l x).length = l.length + 1 ∧ wtL (insL l x) = wtL l + wN x
  | [], x, _ => by simp [insL, wtL]
  | y :: l, x, h => by
    have hne : ¬ kOf y = kOf x := by
      intro e
      simp [getL, e] at h
    have hl : getL l (kOf x) = none := by simpa [getL, hne] using h
    obtain ⟨h1, h2⟩ := insL_new l x hl
    simp only [insL]
    rw [if_neg (fun e => hne e.symm)]
    split
    · constructor <;> simp [wtL] <;> omega
    · constructor <;> simp [wtL, h1, h2] <;> omega
theorem insL_old : ∀ (l : List S38) (x old : S38), Ord l → getL l (kOf x) = some old → (insL l x).length = l.length ∧ wtL (insL l x) + wN old = wtL l + wN x
  | [], x, old, _, h => by simp [getL] at h
  | y :: l, x, old, ho, h => by
    obtain ⟨h1, h2⟩ := List.pairwise_cons.1 ho
    simp only [insL]
    by_cases e : kOf x = kOf y
    · have : y = old := by simpa [getL, e] using h
      subst this
      rw [if_pos e]
      constructor <;> simp [wtL] <;> omega
    · have hl : getL l (kOf x) = some old := by
        have hne : ¬ kOf y = kOf x := fun k => e k.symm
        simpa [getL, hne] using h
      have hm : old ∈ l := List.mem_of_find?_eq_some hl
      have hk : kOf old = kOf x := by
        have := List.find?_some hl
        simpa using this
      have gt : kOf y < kOf x := by rw [← hk]; exact h1 old hm
      obtain ⟨h3, h4⟩ := insL_old l x old h2 hl
      rw [if_neg e, if_neg (k_asymm gt)]
      constructor <;> simp [wtL, h3] <;> omega
theorem getL_mem {l : List S38} {key : List UInt8} {x : S38} (h : getL l key = some x) : x ∈ l := List.mem_of_find?_eq_some h

/-- The handle H leads to a tree of these items. -/
def Holds (W : World) (ok : Nat → Prop) (H : Nat) (l : List S38) : Prop := ∃ T, HasTree W ok H T (l.length : Int) (wtL l : Int) ∧ T.items = l ∧ Ord l
theorem Holds.step {W W1 : World} {ok : Nat → Prop} {H : Nat} {l : List S38} (h : Holds W ok H l) (hH : W1.heap[H]? = W.heap[H]?) (hm : ∀ k, ok k → k < W.heap.size → W1.heap[k]? = W.heap[k]?) : Holds W1 ok H l := by
  obtain ⟨T, h1, h2⟩ := h
  exact ⟨T, h1.step hH hm, h2⟩
theorem Holds.below {W W1 : World} {ok : Nat → Prop} {H : Nat} {l : List S38} (h : Holds W ok H l) (hb : Below W.heap.size W W1) : Holds W1 ok H l := by
  obtain ⟨T, h1, h2⟩ := h
  exact ⟨T, h1.below hb, h2⟩
theorem Holds.mono {W : World} {ok ok' : Nat → Prop} {H : Nat} {l : List S38} (h : Holds W ok H l) (hok : ∀ k, ok k → ok' k) : Holds W ok' H l := by
  obtain ⟨T, h1, h2⟩ := h
  exact ⟨T, h1.mono hok, h2⟩
def okCode (x : S38) : Int := if mayB x = true then 0 else 1
def insM (l : List S38) (x : S38) : List S38 := if mayB x = true then insL l x else l
theorem put_all (ok : Nat → Prop) (H : Nat) (l : List S38) (x : S38) (A : Option Addr) (c : Nat) (w : World) (hok : ∀ k, ok k → k ≠ H) (h : Holds w ok H l) (hC : (Kd.int .u8).C w A x.f2.f1.length x.f2.f1) (hc : x.f2.f1.length ≤ c) (hl : Lite l) (hx : x.f0.size ≤ 200 ∧ x.f2.f1.length ≤ 200) :
    Calls Try.prog 29 #[.pointer (some ⟨H, 0, none⟩), .agg (itemCells x A c)] w fun e w' => e = .returned (.int .i64 (okCode x)) ∧ Holds w' (fun k => ok k ∨ w.heap.size ≤ k) H (insM l x) ∧ w.grownBy w' (some H) := by
  obtain ⟨T, hT, hi, ho⟩ := h
  have hwl := wtL_lite l hl.2
  have hl1 := hl.1
  obtain ⟨r, hr, _⟩ := may_check 1 x (by omega)
  unfold okCode insM
  by_cases h0 : r = 0
  · subst h0
    have hb : mayB x = true := by unfold mayB; rw [hr]; simp
    rw [if_pos hb, if_pos hb]
    have hfg := findT_getL T x.f0 (by rw [hi]; exact ho)
    rw [hi] at hfg
    cases hf : getL l x.f0.toList with
    | none =>
      rw [hf] at hfg
      obtain ⟨e1, e2⟩ := insL_new l x hf
      refine (put_new ok H T (l.length : Int) (wtL l : Int) x A c w hok hT hC hc hr hfg (by omega) (by omega) (by omega) (by omega) (by omega) (by omega)).mono ?_
      rintro e w' ⟨rfl, h1, h2⟩
      refine ⟨rfl, ⟨putT T x, ?_, by rw [putT_items T x (by rw [hi]; exact ho), hi], insL_ord l x ho⟩, h2⟩
      rw [e1, e2]
      exact h1
    | some old =>
      rw [hf] at hfg
      obtain ⟨e1, e2⟩ := insL_old l x old ho hf
      have hm := getL_mem hf
      have hold := hl.2 old hm
      have hw := wtL_mem l old hm
      refine (put_old ok H T (l.length : Int) (wtL l : Int) x A c w hok hT hC hc hr old hfg (by omega) (by omega) (by omega) (by omega) (by omega) (by omega) (by omega) (by omega) (by omega)).mono ?_
      rintro e w' ⟨rfl, h1, h2⟩
      refine ⟨rfl, ⟨putT T x, ?_, by rw [putT_items T x (by rw [hi]; exact ho), hi], insL_ord l x ho⟩, h2⟩
      rw [e1]
      have e3 : ((wtL (insL l x) : Nat) : Int) = (wtL l : Int) - (wN old : Int) + (wN x : Int) := by omega
      rw [e3]
      exact h1
  · have hb : ¬ mayB x = true := by unfold mayB; rw [hr]; simpa using h0
    rw [if_neg hb, if_neg hb]
    refine (put_refused ok H T (l.length : Int) (wtL l : Int) x A c w r h0 hT hC hc hr).mono ?_
    rintro e w' ⟨rfl, h1⟩
    exact ⟨rfl, ⟨T, (hT.below h1).mono (fun k hk => .inl hk), hi, ho⟩, grown_of h1⟩
theorem insM_lite {l : List S38} {x : S38} (n : Nat) (hl : l.length ≤ n) (h : ∀ y ∈ l, y.f0.size ≤ 200 ∧ y.f2.f1.length ≤ 200) (hx : x.f0.size ≤ 200 ∧ x.f2.f1.length ≤ 200) : (insM l x).length ≤ n + 1 ∧ ∀ y ∈ insM l x, y.f0.size ≤ 200 ∧ y.f2.f1.length ≤ 200 := by
  unfold insM
  split
  · refine ⟨by have := insL_len l x; omega, fun y hy => ?_⟩
    rcases insL_mem l x y hy with rfl | hy
    · exact hx
    · exact h y hy
  · exact ⟨by omega, h⟩
theorem Small_of {T : BT} {l : List S38} (hi : T.items = l) (hl : Lite l) : Small T := fun x hx => by
  rw [hi] at hx
  have := hl.2 x hx
  exact ⟨by omega, by omega⟩
theorem inR_all (x : S38) : inR ⟨#[]⟩ ⟨#[]⟩ x = true := by
  have e : Op.bytesLess x.f0.toList [] = false := by
    rw [less_not]
    simp
  simp [inR, inHi, e]
theorem hold_all (w : World) (ok : Nat → Prop) (H : Nat) (l : List S38) (h : Holds w ok H l) (hl : Lite l) :
    Calls Try.prog 30 #[.pointer (some ⟨H, 0, none⟩)] w fun e w' => ∃ vo, e = .returned vo ∧ Kd.N k38 38 w' w.heap.size (fun k => w.heap.size ≤ k) vo l ∧ Below w.heap.size w w' := by
  obtain ⟨T, hT, hi, ho⟩ := h
  have hl1 := hl.1
  refine (all_calls w ok H T _ _ hT (Small_of hi hl) (by rw [sizeT_items, hi]; omega)).mono ?_
  rintro e w' ⟨vo, rfl, h1, h2⟩
  rw [scanT_take T _ _ _ _ (by rw [hi]; exact ho), hi, List.filter_eq_self.2 (fun x _ => inR_all x)] at h1
  simp only [List.nil_append, List.length_nil, Int.natCast_zero, Int.sub_zero, Int.toNat_natCast, List.take_length] at h1
  exact ⟨vo, rfl, h1, h2⟩
theorem hold_scan (w : World) (ok : Nat → Prop) (H : Nat) (l : List S38) (lo hi : ByteArray) (most : Int) (h : Holds w ok H l) (hl : Lite l) :
    Calls Try.prog 25 #[.pointer (some ⟨H, 0, none⟩), .string lo, .string hi, .int .i64 most] w fun e w' => ∃ vo, e = .returned vo ∧ Kd.N k38 38 w' w.heap.size (fun k => w.heap.size ≤ k) vo ((l.filter (inR lo hi)).take most.toNat) ∧ Below w.heap.size w w' := by
  obtain ⟨T, hT, hi', ho⟩ := h
  have hl1 := hl.1
  refine (scan_calls w ok H T _ _ lo hi most hT (Small_of hi' hl) (by rw [sizeT_items, hi']; omega)).mono ?_
  rintro e w' ⟨vo, rfl, h1, h2⟩
  rw [scanT_take T _ _ _ _ (by rw [hi']; exact ho), hi'] at h1
  simp only [List.nil_append, List.length_nil, Int.natCast_zero, Int.sub_zero] at h1
  exact ⟨vo, rfl, h1, h2⟩
theorem hold_len (w : World) (ok : Nat → Prop) (H : Nat) (l : List S38) (h : Holds w ok H l) : Calls Try.prog 31 #[.pointer (some ⟨H, 0, none⟩)] w fun e w' => e = .returned (.int .i64 (l.length : Int)) ∧ w' = w := by
  obtain ⟨T, hT, _⟩ := h
  exact len_calls w ok H T _ _ hT
theorem hold_weight (w : World) (ok : Nat → Prop) (H : Nat) (l : List S38) (h : Holds w ok H l) : Calls Try.prog 32 #[.pointer (some ⟨H, 0, none⟩)] w fun e w' => e = .returned (.int .i64 (wtL l : Int)) ∧ w' = w := by
  obtain ⟨T, hT, _⟩ := h
  exact weight_calls w ok H T _ _ hT
theorem hold_get (w : World) (ok : Nat → Prop) (H : Nat) (l : List S38) (key : ByteArray) (h : Holds w ok H l) (hl : Lite l) :
    Calls Try.prog 34 #[.pointer (some ⟨H, 0, none⟩), .string key] w fun e w' => ∃ A c, e = .returned (.tuple #[.agg (itemCells ((getL l key.toList).getD zeroS) A c), .bool (getL l key.toList).isSome]) ∧ ((getL l key.toList).getD zeroS).f2.f1.length ≤ c ∧ Kd.F (Kd.int .u8) w' (fun k => w.heap.size ≤ k) A ((getL l key.toList).getD zeroS).f2.f1.length ((getL l key.toList).getD zeroS).f2.f1 ∧ Below w.heap.size w w' := by
  obtain ⟨T, hT, hi, ho⟩ := h
  have hfg := findT_getL T key (by rw [hi]; exact ho)
  rw [hi] at hfg
  cases hf : getL l key.toList with
  | none => exact get_none w ok H T _ _ key hT (by rw [hfg, hf])
  | some x => exact get_some w ok H T _ _ key x hT (by rw [hfg, hf]) (by have := hl.2 x (getL_mem hf); omega)
theorem hold_clone (w : World) (ok : Nat → Prop) (H : Nat) (l : List S38) (h : Holds w ok H l) :
    Calls Try.prog 36 #[.pointer (some ⟨H, 0, none⟩)] w fun e w' => e = .returned (.pointer (some ⟨w.heap.size, 0, none⟩)) ∧ Holds w' ok w.heap.size l ∧ Below w.heap.size w w' := by
  obtain ⟨T, hT, hi, ho⟩ := h
  refine (clone_tree w ok H T _ _ hT).mono ?_
  rintro e w' ⟨rfl, h1, h2⟩
  exact ⟨rfl, ⟨T, h1, hi, ho⟩, h2⟩
theorem new_holds (w : World) (ok : Nat → Prop) : Calls Try.prog 28 #[] w fun e w' => e = .returned (.pointer (some ⟨w.heap.size, 0, none⟩)) ∧ Holds w' ok w.heap.size [] ∧ Below w.heap.size w w' ∧ w.heap.size + 1 ≤ w'.heap.size := by
  refine (new_calls w).mono ?_
  rintro e w' ⟨rfl, rfl⟩
  exact ⟨rfl, ⟨.nil, ⟨_, heap_alloc_new w _, rfl⟩, rfl, by simp [Ord]⟩, below_alloc (Below.refl _ _) _, by simp⟩
end Go.Proofs.Ytgoidimipchejaa.Tr
