/- Layer 10: the statement TreeHolds, walked; no condition beyond what a value's form says. -/
import Derived.Test.YtgoidimipchejaaTrV
namespace Go.Proofs.Ytgoidimipchejaa.Tr
open Go.RowKit Go.Proofs.Ytgoidimipchejaa.PT Go.Proofs.YtgoidimipchejaaW.PrintWords Go.Proofs.YtgoidimipchejaaW.PrintLast Go.Proofs.YtgoidimipchejaaW.PrintMore
set_option linter.unusedVariables false
set_option linter.unusedSimpArgs false
attribute [local go_sem ↓] Go.wp_at_zero Go.wp_at_succ

theorem may_key {x : S38} (h : mayB x = true) : x.f0.toList ≠ [] := by
  intro e
  unfold mayB chkF tree_Check.f at h
  rw [if_pos e] at h
  simp at h
theorem allL_may : ∀ (l acc : List S38), (∀ x ∈ acc, mayB x = true) → ∀ x ∈ allFrom acc l, mayB x = true
  | [], acc, h, x, hx => h x hx
  | y :: l, acc, h, x, hx => by
    rw [allFrom_cons] at hx
    refine allL_may l _ (fun z hz => ?_) x hx
    split at hz
    · rename_i hy
      rcases insL_mem _ _ _ hz with rfl | hz
      · exact hy
      · exact h z hz
    · exact h z hz
theorem get_key (l : List S38) (hx : ∀ x ∈ l, x.f0.size ≤ 200 ∧ x.f2.f1.length ≤ 200) (key : List UInt8) :
    ∃ X s, (getL (allL l) key).getD zeroS = X ∧ (getL (allL l) key).isSome = s ∧ (X.f0.toList == ([] : List UInt8)) = !s ∧ X.f2.f1.length ≤ 200 := by
  cases hg : getL (allL l) key with
  | none => exact ⟨zeroS, false, rfl, rfl, by simp [zeroS], by simp [zeroS]⟩
  | some x =>
    have hm := getL_mem hg
    have h1 := allL_may l [] (by simp) x hm
    refine ⟨x, true, rfl, rfl, by simpa using may_key h1, ?_⟩
    rcases allFrom_mem l [] x hm with h2 | h2
    · simp at h2
    · exact (hx x h2).2

set_option maxHeartbeats 2000000 in
set_option maxRecDepth 100000 in
theorem holds_not (A0 : Option Addr) (c0 : Nat) (l : List S38) (key : ByteArray) (w : World) (hC : Kd.C k38 w A0 l.length l) (hc : l.length ≤ c0) (b : Bool) (hb : garnerlaw10_Light.f 300 l = some b) (hn : b = false ∨ 200 < (key.size : Int)) :
    Calls Try.prog 7 #[.slice A0 l.length c0, .string key] w fun e w' => e = .returned (.bool true) ∧ Below w.heap.size w w' := by
  have HC := Lib.hid hC
  have HL := Lib.hid hb
  clear hC hb
  have gone : b = false ∨ (b = true ∧ decide (200 < (key.size : Int)) = true) := by
    cases b
    · exact .inl rfl
    · exact .inr ⟨rfl, decide_eq_true (by simpa using hn)⟩
  clear hn
  rcases gone with rfl | ⟨rfl, h1⟩
  all_goals (
    go_enter Try.func7, Try.ntmps7
    go_wp2_with (first
      | (go_at_call 22; refine (light_calls 300 A0 c0 l _ _ HC.out hc HL.out).mono ?_; rintro e w1 ⟨rfl, hb1⟩; have HB1 := Lib.hid hb1; clear hb1)
      | (go_at_call 23; refine (awake_calls _).mono ?_; rintro e w9 ⟨rfl, hb9⟩; have HB9 := Lib.hid (below_step HB1.out hb9); clear hb9))
    go_ret
    exact ⟨rfl, HB9.out⟩)
set_option maxHeartbeats 4000000 in
set_option maxRecDepth 100000 in
theorem holds_yes (A0 : Option Addr) (c0 : Nat) (l : List S38) (key : ByteArray) (w : World) (hC : Kd.C k38 w A0 l.length l) (hc : l.length ≤ c0) (hb : garnerlaw10_Light.f 300 l = some true) (hl : l.length ≤ 100) (hx : ∀ x ∈ l, x.f0.size ≤ 200 ∧ x.f2.f1.length ≤ 200) (h1 : decide (200 < (key.size : Int)) = false) :
    Calls Try.prog 7 #[.slice A0 l.length c0, .string key] w fun e w' => e = .returned (.bool true) ∧ Below w.heap.size w w' := by
  have HC := Lib.hid hC
  have HL := Lib.hid hb
  have HX := Lib.hid hx
  have hlite := allL_lite l 100 hl (by omega) hx
  have HLT := Lib.hid hlite
  have hlen := hlite.1
  have HAF := Lib.hid (all_f l 5000 (by omega) (by omega))
  have HMF : Hid (garnerref10_Same.f 5000 (allL l) (allL l) = some true) := Lib.hid (Same_f 5000 _ (by omega) (by omega) (fun x hx => by have := (hlite.2 x hx).2; omega))
  have HWF : Hid (garnerref10_Weight.f 5000 (allL l) = some (wtL (allL l) : Int)) := Lib.hid (weight_f _ _ (by omega) (by omega) (by have := wtL_lite _ hlite.2; omega))
  have HGF0 := get_f (allL l) key 5000 (by omega) (by omega)
  obtain ⟨X, s, hX, hs, hk, hXl⟩ := get_key l hx key.toList
  rw [hX] at HGF0
  have HGF := Lib.hid HGF0
  have HOF : Hid (oneF 5000 X X = some true) := Lib.hid (one_self 5000 X (by omega) (by omega))
  have HXE := Lib.hid hX
  have HSE := Lib.hid hs
  clear hC hb hx hlite hX hs HGF0
  go_enter Try.func7, Try.ntmps7
  go_wp2_with (first
    | (go_at_call 22; refine (light_calls 300 A0 c0 l _ _ HC.out hc HL.out).mono ?_; rintro e w1 ⟨rfl, hb1⟩; have HB1 := Lib.hid hb1; clear hb1)
    | (go_at_call 24; refine (made_calls A0 c0 l _ (Kd.C_below HC.out HB1.out) hc hl HX.out).mono ?_; rintro e w2 ⟨rfl, hH2, hb2⟩; have HH2 := Lib.hid hH2; have HB2 := Lib.hid (below_step HB1.out hb2); clear hH2 hb2)
    | (go_at_call 27; refine (garnerref10_All.calls 5000 (fun _ => True) A0 c0 l (allL l) _ (V_all (Kd.C_below HC.out HB2.out) hc _) HAF.out).mono ?_; rintro e w3 ⟨v3, rfl, hN3, hb3⟩; obtain ⟨A3, c3, rfl⟩ := Kd.N_slice hN3; have HN3 := Lib.hid hN3; have HH3 := Lib.hid (HH2.out.below hb3); have HB3 := Lib.hid (below_step HB2.out hb3); clear hN3 hb3)
    | (go_at_call 30; refine (hold_all _ _ w1.heap.size (allL l) HH3.out HLT.out).mono ?_; rintro e w4 ⟨v4, rfl, hN4, hb4⟩; obtain ⟨A4, c4, rfl⟩ := Kd.N_slice hN4; have HN4 := Lib.hid hN4; have HN3 := Lib.hid (Kd.N_below HN3.out hb4); have HH4 := Lib.hid (HH3.out.below hb4); have HB4 := Lib.hid (below_step HB3.out hb4); clear hN4 hb4)
    | (go_at_call 21; refine (garnerref10_Same.calls 5000 A4 c4 _ A3 c3 _ true _ (Kd.N_reads' HN4.out).2.2 (Kd.N_reads' HN4.out).2.1 (Kd.N_reads' HN3.out).2.2 (Kd.N_reads' HN3.out).2.1 HMF.out).mono ?_; rintro e w5 ⟨rfl, hb5⟩; have HN3 := Lib.hid (Kd.N_below HN3.out hb5); have HH5 := Lib.hid (HH4.out.below hb5); have HB5 := Lib.hid (below_step HB4.out hb5); clear hb5)
    | (go_at_call 31; refine (hold_len _ _ w1.heap.size (allL l) HH5.out).mono ?_; rintro e w6 ⟨rfl, rfl⟩)
    | (go_at_call 32; refine (hold_weight _ _ w1.heap.size (allL l) HH5.out).mono ?_; rintro e w6 ⟨rfl, rfl⟩)
    | (go_at_call 33; refine (garnerref10_Weight.calls 5000 A3 c3 _ _ _ (Kd.N_reads' HN3.out).2.2 (Kd.N_reads' HN3.out).2.1 HWF.out).mono ?_; rintro e w7 ⟨rfl, hd7⟩; have hb7 := hd7.below; have HN7 := Lib.hid (Kd.N_below HN3.out hb7); have HH7 := Lib.hid (HH5.out.below hb7); have HB7 := Lib.hid (below_step HB5.out hb7); clear hb7 hd7)
    | (go_at_call 34; refine (hold_get _ _ w1.heap.size (allL l) key HH7.out HLT.out).mono ?_; rintro e w8 ⟨A8, c8, rfl, hc8, hF8, hb8⟩; rw [HXE.out] at hc8 hF8; rw [HXE.out, HSE.out]; unfold itemCells; have HF8 := Lib.hid hF8; have HN8 := Lib.hid (Kd.N_below HN7.out hb8); have HB8 := Lib.hid (below_step HB7.out hb8); clear hF8 hb8)
    | (go_at_call 35; refine (garnerref10_Get.calls 5000 (fun k => True ∨ w2.heap.size ≤ k) A3 c3 (allL l) key X.f0 X.f1 X.f2.f0 X.f2.f1 X.f2.f2.f0 X.f2.f2.f1 X.f2.f2.f2 X.f2.f2.f3 _ (Kd.V_alloc (Kd.N_V HN8.out) _) HGF.out).mono ?_; rintro e w9 ⟨v9, rfl, hV9, hb9⟩; obtain ⟨A9, c9, rfl⟩ := Kd.V_slice hV9; have hr9 := Kd.V_reads' hV9; have HC9 := Lib.hid hr9.2.2; have hc9 := hr9.2.1; have hx9 := one_new w8 _ hb9; obtain ⟨d0, d1, d2, d3, d4, d5, d6, d7⟩ := cells8 hx9; have hs9 : w8.heap.size + 1 ≤ w9.heap.size := (by have := hb9.size; simp only [World.size_alloc] at this; exact this); have hlt9 : w8.heap.size < w9.heap.size := hs9; have HC8 := Lib.hid (Kd.C_below (Kd.F_now HF8.out) (below_step (below_alloc (Below.refl _ _) _) hb9)); have HB9 := Lib.hid (below_step (below_alloc HB8.out _) hb9); clear hV9 hr9 hb9 hx9)
    | (go_at_call 18; refine (garnerref10_One.calls 5000 X.f0 X.f1 X.f2.f0 A8 c8 X.f2.f1 X.f2.f2.f0 X.f2.f2.f1 X.f2.f2.f2 X.f2.f2.f3 X.f0 X.f1 X.f2.f0 A9 c9 X.f2.f1 X.f2.f2.f0 X.f2.f2.f1 X.f2.f2.f2 X.f2.f2.f3 true _ (Kd.C_alloc HC8.out _) hc8 (Kd.C_alloc HC9.out _) hc9 HOF.out).mono ?_; rintro e w10 ⟨rfl, hb10⟩; have hx10 := one_new w9 _ hb10; obtain ⟨g0, g1, g2, g3, g4, g5, g6, g7⟩ := cells8 hx10; have HB10 := Lib.hid (below_step (below_alloc HB9.out _) hb10); clear hb10 hx10)
    | (go_at_call 23; refine (awake_calls _).mono ?_; rintro e w11 ⟨rfl, hb11⟩; have HB11 := Lib.hid (below_step HB10.out hb11); clear hb11))
  go_ret
  exact ⟨rfl, HB11.out⟩
theorem holds_any {w0 : World} (A0 : Option Addr) (c0 : Nat) (l : List S38) (hC : Kd.C k38 w0 A0 l.length l) (hc : l.length ≤ c0) (hm : l.length ≤ maxLen) (hw : ∀ x ∈ l, ∀ z ∈ x.f2.f1, (Lit.int .u8 z).wf = true) (key : ByteArray) (w : World) (he : w = w0 := by rfl) :
    Calls Try.prog 7 #[.slice A0 l.length c0, .string key] w fun e w' => e = .returned (.bool true) ∧ Below w.heap.size w w' := by
  subst he
  obtain ⟨b, hb, hbt⟩ := light_f l 300 (by omega) (by unfold maxLen at hm; omega)
  by_cases hn : b = false ∨ 200 < (key.size : Int)
  · exact holds_not A0 c0 l key w hC hc b hb hn
  · have hbt1 : b = true := by cases b <;> simp_all
    subst hbt1
    obtain ⟨h1, h2⟩ := hbt rfl
    exact holds_yes A0 c0 l key w hC hc hb h1 h2 (decide_eq_false (fun k => hn (.inr k)))
end Go.Proofs.Ytgoidimipchejaa.Tr
