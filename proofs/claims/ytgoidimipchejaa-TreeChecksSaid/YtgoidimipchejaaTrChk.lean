/- Layer 10: the statement TreeChecks, walked; no condition beyond what a value's form says. -/
import Derived.Test.YtgoidimipchejaaTrZ
import Derived.Test.YtgoidimipchejaaTrH
namespace Go.Proofs.Ytgoidimipchejaa.Tr
open Go.RowKit Go.Proofs.Ytgoidimipchejaa.PT Go.Proofs.YtgoidimipchejaaW.PrintWords Go.Proofs.YtgoidimipchejaaW.PrintLast Go.Proofs.YtgoidimipchejaaW.PrintMore
set_option linter.unusedVariables false
set_option linter.unusedSimpArgs false
attribute [local go_sem ↓] Go.wp_at_zero Go.wp_at_succ

theorem may_calls9 (k : Nat) (x : S38) (A : Option Addr) (c : Nat) (w : World) (hk : 1 ≤ k) (hC : (Kd.int .u8).C w A x.f2.f1.length x.f2.f1) (hc : x.f2.f1.length ≤ c) :
    Calls Try.prog 40 #[.agg (itemCells x A c)] w fun e w' => e = .returned (.bool (mayB x)) ∧ Below w.heap.size w w' :=
  garnerref10_May.calls k x.f0 x.f1 x.f2.f0 A c x.f2.f1 x.f2.f2.f0 x.f2.f2.f1 x.f2.f2.f2 x.f2.f2.f3 (mayB x) w hC hc (may_mayB k x hk)
set_option maxHeartbeats 2000000 in
set_option maxRecDepth 100000 in
theorem checks_not (A0 : Option Addr) (c0 : Nat) (l : List S38) (A1 : Option Addr) (c1 : Nat) (m : List S38) (w : World) (hC : Kd.C k38 w A0 l.length l) (hc : l.length ≤ c0) (hCm : Kd.C k38 w A1 m.length m) (hcm : m.length ≤ c1) (b bm : Bool) (hb : garnerlaw10_Light.f 300 l = some b) (hbm : garnerlaw10_Light.f 300 m = some bm) (hn : b = false ∨ bm = false) :
    Calls Try.prog 11 #[.slice A0 l.length c0, .slice A1 m.length c1] w fun e w' => e = .returned (.bool true) ∧ Below w.heap.size w w' := by
  have HC := Lib.hid hC
  have HL := Lib.hid hb
  have HCM := Lib.hid hCm
  have HLM := Lib.hid hbm
  clear hC hb hCm hbm
  have gone : b = false ∨ (b = true ∧ bm = false) := by cases b <;> simp_all
  clear hn
  rcases gone with rfl | ⟨rfl, rfl⟩
  all_goals (
    go_enter Try.func11, Try.ntmps11
    go_wp2_with (first
      | (go_at_call 22; refine (light_calls 300 A1 c1 m _ _ (Kd.C_below HCM.out HB1.out) hcm HLM.out).mono ?_; rintro e w2 ⟨rfl, hb2⟩; have HB2 := Lib.hid (below_step HB1.out hb2); clear hb2)
      | (go_at_call 22; refine (light_calls 300 A0 c0 l _ _ HC.out hc HL.out).mono ?_; rintro e w1 ⟨rfl, hb1⟩; have HB1 := Lib.hid hb1; clear hb1)
      | (go_at_call 23; refine (awake_calls _).mono ?_; rintro e w9 ⟨rfl, hb9⟩; have HB9 := Lib.hid (below_step (by first | exact HB2.out | exact HB1.out) hb9); clear hb9))
    go_ret
    exact ⟨rfl, HB9.out⟩)
set_option maxHeartbeats 4000000 in
set_option maxRecDepth 100000 in
theorem checks_yes (A0 : Option Addr) (c0 : Nat) (l : List S38) (A1 : Option Addr) (c1 : Nat) (m : List S38) (w : World) (hC : Kd.C k38 w A0 l.length l) (hc : l.length ≤ c0) (hCm : Kd.C k38 w A1 m.length m) (hcm : m.length ≤ c1) (hb : garnerlaw10_Light.f 300 l = some true) (hbm : garnerlaw10_Light.f 300 m = some true) (hl : l.length ≤ 100) (hx : ∀ x ∈ l, x.f0.size ≤ 200 ∧ x.f2.f1.length ≤ 200) (hml : m.length ≤ 100) (hy : ByL l) (hym : ByL m) :
    Calls Try.prog 11 #[.slice A0 l.length c0, .slice A1 m.length c1] w fun e w' => e = .returned (.bool true) ∧ Below w.heap.size w w' := by
  have HC := Lib.hid hC
  have HL := Lib.hid hb
  have HX := Lib.hid hx
  have HCM := Lib.hid hCm
  have HLM := Lib.hid hbm
  have HY := Lib.hid hy
  have HYM := Lib.hid hym
  have HST := Lib.hid (tree_sorted_f 5000 l (by omega) (by omega))
  have HSR := Lib.hid (ref_sorted_f 5000 l (by omega) (by omega))
  have HSM := Lib.hid (Same_fg 5000 l m (by omega) (by omega) (fun x hxx => by have := hx x hxx; omega))
  have HSL := Lib.hid (sameL_refl l)
  have hll : l.length ≤ 1000000 := by omega
  have hmm : m.length ≤ 1000000 := by omega
  clear hC hb hCm hbm hx hy hym
  go_enter Try.func11, Try.ntmps11
  go_wp2_with (first
    | (go_at_call 22; refine (light_calls 300 A1 c1 m _ _ (Kd.C_below HCM.out HB1.out) hcm HLM.out).mono ?_; rintro e w2 ⟨rfl, hb2⟩; have HB2 := Lib.hid (below_step HB1.out hb2); clear hb2)
    | (go_at_call 22; refine (light_calls 300 A0 c0 l _ _ HC.out hc HL.out).mono ?_; rintro e w1 ⟨rfl, hb1⟩; have HB1 := Lib.hid hb1; clear hb1))
  go_loopg [5] l.length (fun kq v wr => ∃ (i : Nat) (z : Int), v = .int .i64 z ∧ Aside0 (z = (i : Int)) ∧ Aside0 (i + kq = l.length) ∧ Aside0 (Below w.heap.size w wr))
  case atStart => exact ⟨0, 0, rfl, ⟨rfl⟩, ⟨by omega⟩, ⟨HB2.out⟩⟩
  case round =>
    obtain ⟨i, z, rfl, hz, hi, hb⟩ := hrel
    have hi1 := hi.out
    have hz1 := hz.out
    have HBw := Lib.hid hb.out
    clear hb hz hi
    by_cases hlt : i < l.length
    · have p1 : 0 ≤ z := by omega
      have q1 : z < (l.length : Int) := by omega
      have d1 : decide (z < (l.length : Int)) = true := decide_eq_true q1
      obtain ⟨ad, A3, c3, eA, x0, x1, x2, x3, x4, x5, x6, x7, hl3, hi3⟩ := at_T38 HC.out z p1 q1
      cases eA
      have HI : Hid (ItemAt w (ad.add (z.toNat * 8)) (rd_T38 l z) A3 c3) := Lib.hid ⟨x0, x1, x2, x3, x4, x5, x6, x7⟩
      have HC3 := Lib.hid hi3
      clear x0 x1 x2 x3 x4 x5 x6 x7 hi3
      obtain ⟨x0, x1, x2, x3, x4, x5, x6, x7⟩ := HI.out.below HBw.out
      generalize hq : rd_T38 l z = q at *
      obtain ⟨r, hr, hr0⟩ := check_code q
      have hcm2 : ((r == 0) == mayB q) = true := by
        by_cases h : r = 0
        · rw [hr0.1 h, h]; rfl
        · have : mayB q = false := by simpa using fun e => h (hr0.2 e)
          rw [this]; simpa using h
      have HR : Hid (tree_Check.f q.f0 q.f1 q.f2.f0 q.f2.f1 q.f2.f2.f0 q.f2.f2.f1 q.f2.f2.f2 q.f2.f2.f3 = some r) := Lib.hid hr
      have p2 := eq_true p1
      have q2 := eq_true q1
      have HZ := Lib.hid hz1
      have HI1 := Lib.hid hi1
      have HLL := Lib.hid hl
      have HLT := Lib.hid hlt
      clear p1 q1 hz1 hi1 hq hl hml hr hr0 hll hmm hlt
      go_wp2
      go_region_with (first
        | (go_at_call 39; refine (tree_Check.calls q.f0 q.f1 q.f2.f0 A3 c3 q.f2.f1 q.f2.f2.f0 q.f2.f2.f1 q.f2.f2.f2 q.f2.f2.f3 r _ (Kd.C_below HC3.out (by first | exact HB4.out | exact HBw.out.trans (Go.Joins.below_draws _ _ 1))) hl3 HR.out).mono ?_; rintro e w3 ⟨rfl, hb3⟩; have HB3 : Hid (Below w.heap.size w w3) := Lib.hid (by first | exact below_step HB4.out hb3 | exact below_step (HBw.out.trans (Go.Joins.below_draws _ _ 1)) hb3); obtain ⟨y0, y1, y2, y3, y4, y5, y6, y7⟩ := HI.out.below HB3.out; clear hb3)
        | (go_at_call 40; refine (may_calls9 1 q A3 c3 _ (by omega) (Kd.C_below HC3.out (by first | exact HB3.out | exact HBw.out.trans (Go.Joins.below_draws _ _ 1))) hl3).mono ?_; rintro e w4 ⟨rfl, hb4⟩; have HB4 : Hid (Below w.heap.size w w4) := Lib.hid (by first | exact below_step HB3.out hb4 | exact below_step (HBw.out.trans (Go.Joins.below_draws _ _ 1)) hb4); obtain ⟨y0, y1, y2, y3, y4, y5, y6, y7⟩ := HI.out.below HB4.out; clear hb4))
      all_goals (
        go_wp2
        have hz9 := HZ.out
        have hi9 := HI1.out
        have hl9 := HLL.out
        have ht9 := HLT.out
        go_roundg (gk - 1)
        case measure => omega
        case rel => exact ⟨i + 1, _, rfl, ⟨by rw [hz9]; first | exact wrap_succ i (by omega) | (simp only [IntKind.wrap_i64]; omega)⟩, ⟨by omega⟩, ⟨by first | exact HB4.out | exact HB3.out⟩⟩)
    · have d1 : decide (z < (l.length : Int)) = false := decide_eq_false (by omega)
      clear hi1 hz1 hlt
      go_wp2_with (first
        | (go_at_call 41; refine (tree_Sorted.calls 5000 A0 c0 l (sortedB l) _ (Kd.C_below HC.out HBw.out) hc HST.out).mono ?_; rintro e w5 ⟨rfl, hb5⟩; have HB5 := Lib.hid (below_step HBw.out hb5); clear hb5)
        | (go_at_call 42; refine (garnerref10_Sorted.calls 5000 A0 c0 l (sortedB l) _ (Kd.C_below HC.out HB5.out) hc HSR.out).mono ?_; rintro e w6 ⟨rfl, hb6⟩; have HB6 := Lib.hid (below_step HB5.out hb6); clear hb6)
        | (go_at_call 43; refine (same_calls A0 c0 l A0 c0 l _ (Kd.C_below HC.out HB8.out) hc (Kd.C_below HC.out HB8.out) hc HY.out HY.out hll hll).mono ?_; rintro e w9 ⟨rfl, hb9⟩; rw [HSL.out]; have HB9 := Lib.hid (below_step HB8.out hb9); clear hb9)
        | (go_at_call 43; refine (same_calls A0 c0 l A1 c1 m _ (Kd.C_below HC.out HB6.out) hc (Kd.C_below HCM.out HB6.out) hcm HY.out HYM.out hll hmm).mono ?_; rintro e w7 ⟨rfl, hb7⟩; have HB7 := Lib.hid (below_step HB6.out hb7); clear hb7)
        | (go_at_call 21; refine (garnerref10_Same.calls 5000 A0 c0 l A1 c1 m _ _ (Kd.C_below HC.out HB7.out) hc (Kd.C_below HCM.out HB7.out) hcm HSM.out).mono ?_; rintro e w8 ⟨rfl, hb8⟩; have HB8 := Lib.hid (below_step HB7.out hb8); clear hb8)
        | (go_at_call 23; refine (awake_calls _).mono ?_; rintro e w10 ⟨rfl, hb10⟩; have HB10 := Lib.hid (below_step HB9.out hb10); clear hb10))
      go_ret
      exact ⟨rfl, HB10.out⟩
theorem checks_any {w0 : World} (A0 : Option Addr) (c0 : Nat) (l : List S38) (hC : Kd.C k38 w0 A0 l.length l) (hc : l.length ≤ c0) (hm : l.length ≤ maxLen) (hw : ∀ x ∈ l, ∀ z ∈ x.f2.f1, (Lit.int .u8 z).wf = true)
    (A1 : Option Addr) (c1 : Nat) (m : List S38) (hC1 : Kd.C k38 w0 A1 m.length m) (hc1 : m.length ≤ c1) (hm1 : m.length ≤ maxLen) (hw1 : ∀ x ∈ m, ∀ z ∈ x.f2.f1, (Lit.int .u8 z).wf = true) (w : World) (he : w = w0 := by rfl) :
    Calls Try.prog 11 #[.slice A0 l.length c0, .slice A1 m.length c1] w fun e w' => e = .returned (.bool true) ∧ Below w.heap.size w w' := by
  subst he
  obtain ⟨b, hb, hbt⟩ := light_f l 300 (by omega) (by unfold maxLen at hm; omega)
  obtain ⟨bm, hbm, hbmt⟩ := light_f m 300 (by omega) (by unfold maxLen at hm1; omega)
  by_cases hn : b = false ∨ bm = false
  · exact checks_not A0 c0 l A1 c1 m w hC hc hC1 hc1 b bm hb hbm hn
  · have hbt1 : b = true := by cases b <;> simp_all
    have hbt2 : bm = true := by cases bm <;> simp_all
    subst hbt1
    subst hbt2
    obtain ⟨h1, h2⟩ := hbt rfl
    obtain ⟨h3, h4⟩ := hbmt rfl
    exact checks_yes A0 c0 l A1 c1 m w hC hc hC1 hc1 hb hbm h1 h2 h3 hw hw1
end Go.Proofs.Ytgoidimipchejaa.Tr
