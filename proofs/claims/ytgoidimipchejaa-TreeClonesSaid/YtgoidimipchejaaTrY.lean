/- Layer 10: the statement TreeClones, walked; no condition beyond what a value's form says. -/
import Derived.Test.YtgoidimipchejaaTrX
namespace Go.Proofs.Ytgoidimipchejaa.Tr
open Go.RowKit Go.Proofs.Ytgoidimipchejaa.PT Go.Proofs.YtgoidimipchejaaW.PrintWords Go.Proofs.YtgoidimipchejaaW.PrintLast Go.Proofs.YtgoidimipchejaaW.PrintMore
set_option linter.unusedVariables false
set_option linter.unusedSimpArgs false
attribute [local go_sem ↓] Go.wp_at_zero Go.wp_at_succ

theorem Holds.bound {W : World} {ok : Nat → Prop} {H : Nat} {l : List S38} (h : Holds W ok H l) : Holds W (fun k => ok k ∧ k < W.heap.size) H l := by
  obtain ⟨T, hT, h2⟩ := h
  obtain ⟨root, h3, h4⟩ := hT.ex
  exact ⟨T, ⟨root, h3, h4.bound⟩, h2⟩
theorem Holds.lt {W : World} {ok : Nat → Prop} {H : Nat} {l : List S38} (h : Holds W ok H l) : H < W.heap.size := by
  obtain ⟨T, hT, h2⟩ := h
  obtain ⟨root, h3, h4⟩ := hT.ex
  exact lt_of_block h3
theorem Holds.grown {W W1 : World} {ok : Nat → Prop} {H R : Nat} {l : List S38} (h : Holds W ok H l) (hg : W.grownBy W1 (some R)) (hH : H ≠ R) (hok : ∀ k, ok k → k ≠ R) : Holds W1 ok H l :=
  h.step (hg.block H h.lt (by simpa using hH)) (fun k hk hlt => hg.block k hlt (by simpa using hok k hk))
def keyA : S38 := ⟨⟨#[97]⟩, false, ⟨false, [], ⟨0, 0, 0, 0⟩⟩⟩
/-- Items that are no greater than a statement's, so many. -/
def LiteN (n : Nat) (l : List S38) : Prop := l.length ≤ n ∧ ∀ x ∈ l, x.f0.size ≤ 200 ∧ x.f2.f1.length ≤ 200
theorem allL_liteN (l : List S38) (h : ∀ x ∈ l, x.f0.size ≤ 200 ∧ x.f2.f1.length ≤ 200) : LiteN l.length (allL l) := by
  refine ⟨?_, fun x hx => ?_⟩
  · have := allFrom_len l []
    unfold allL
    simpa using this
  · rcases allFrom_mem l [] x hx with h2 | h2
    · simp at h2
    · exact h x h2

set_option maxHeartbeats 2000000 in
set_option maxRecDepth 100000 in
theorem clones_not (A0 : Option Addr) (c0 : Nat) (l : List S38) (A1 : Option Addr) (c1 : Nat) (m : List S38) (w : World) (hC : Kd.C k38 w A0 l.length l) (hc : l.length ≤ c0) (hCm : Kd.C k38 w A1 m.length m) (hcm : m.length ≤ c1) (b bm : Bool) (hb : garnerlaw10_Light.f 300 l = some b) (hbm : garnerlaw10_Light.f 300 m = some bm) (hn : b = false ∨ bm = false) :
    Calls Try.prog 8 #[.slice A0 l.length c0, .slice A1 m.length c1] w fun e w' => e = .returned (.bool true) ∧ Below w.heap.size w w' := by
  have HC := Lib.hid hC
  have HL := Lib.hid hb
  have HCM := Lib.hid hCm
  have HLM := Lib.hid hbm
  clear hC hb hCm hbm
  have gone : b = false ∨ (b = true ∧ bm = false) := by cases b <;> simp_all
  clear hn
  rcases gone with rfl | ⟨rfl, rfl⟩
  all_goals (
    go_enter Try.func8, Try.ntmps8
    go_wp2_with (first
      | (go_at_call 22; refine (light_calls 300 A1 c1 m _ _ (Kd.C_below HCM.out HB1.out) hcm HLM.out).mono ?_; rintro e w2 ⟨rfl, hb2⟩; have HB2 := Lib.hid (below_step HB1.out hb2); clear hb2)
      | (go_at_call 22; refine (light_calls 300 A0 c0 l _ _ HC.out hc HL.out).mono ?_; rintro e w1 ⟨rfl, hb1⟩; have HB1 := Lib.hid hb1; clear hb1)
      | (go_at_call 23; refine (awake_calls _).mono ?_; rintro e w9 ⟨rfl, hb9⟩; have HB9 := Lib.hid (below_step (by first | exact HB2.out | exact HB1.out) hb9); clear hb9))
    go_ret
    exact ⟨rfl, HB9.out⟩)

set_option maxHeartbeats 8000000 in
set_option maxRecDepth 100000 in
theorem clones_yes (A0 : Option Addr) (c0 : Nat) (l : List S38) (A1 : Option Addr) (c1 : Nat) (m : List S38) (w : World) (hC : Kd.C k38 w A0 l.length l) (hc : l.length ≤ c0) (hCm : Kd.C k38 w A1 m.length m) (hcm : m.length ≤ c1) (hb : garnerlaw10_Light.f 300 l = some true) (hbm : garnerlaw10_Light.f 300 m = some true) (hl : l.length ≤ 100) (hx : ∀ x ∈ l, x.f0.size ≤ 200 ∧ x.f2.f1.length ≤ 200) (hml : m.length ≤ 100) (hmx : ∀ x ∈ m, x.f0.size ≤ 200 ∧ x.f2.f1.length ≤ 200) :
    Calls Try.prog 8 #[.slice A0 l.length c0, .slice A1 m.length c1] w fun e w' => e = .returned (.bool true) ∧ Below w.heap.size w w' := by
  have HC := Lib.hid hC
  have HL := Lib.hid hb
  have HX := Lib.hid hx
  have HCM := Lib.hid hCm
  have HLM := Lib.hid hbm
  have HMX := Lib.hid hmx
  have hlite := allL_lite l 100 hl (by omega) hx
  have HLT := Lib.hid hlite
  have hlen := hlite.1
  have HLN : Hid (LiteN 100 (allL l)) := Lib.hid ⟨Nat.le_trans (allL_liteN l hx).1 hl, (allL_liteN l hx).2⟩
  have HAF := Lib.hid (all_f l 5000 (by omega) (by omega))
  have HMF : Hid (garnerref10_Same.f 5000 (allL l) (allL l) = some true) := Lib.hid (Same_f 5000 _ (by omega) (by omega) (fun x hx => by have := (hlite.2 x hx).2; omega))
  clear hC hb hCm hbm hx hmx hlite
  go_enter Try.func8, Try.ntmps8
  go_wp2_with (first
    | (go_at_call 22; refine (light_calls 300 A1 c1 m _ _ (Kd.C_below HCM.out HB1.out) hcm HLM.out).mono ?_; rintro e w2 ⟨rfl, hb2⟩; have HB2 := Lib.hid (below_step HB1.out hb2); clear hb2)
    | (go_at_call 22; refine (light_calls 300 A0 c0 l _ _ HC.out hc HL.out).mono ?_; rintro e w1 ⟨rfl, hb1⟩; have HB1 := Lib.hid hb1; clear hb1)
    | (go_at_call 24; refine (made_calls A0 c0 l _ (Kd.C_below HC.out HB2.out) hc hl HX.out).mono ?_; rintro e w3 ⟨rfl, hH3, hb3⟩; have hs3 : w2.heap.size + 1 ≤ w3.heap.size := hH3.lt; have HH3 := Lib.hid hH3.bound; have HB3 := Lib.hid (below_step HB2.out hb3); clear hH3 hb3)
    | (go_at_call 36; refine (hold_clone _ _ w2.heap.size (allL l) HH3.out).mono ?_; rintro e w4 ⟨rfl, hH4, hb4⟩; have hs4 : w3.heap.size + 1 ≤ w4.heap.size := hH4.lt; have HK4 := Lib.hid hH4; have HH4 : Hid (Holds w4 (fun k => w2.heap.size < k) w2.heap.size (allL l)) := Lib.hid ((HH3.out.below hb4).mono (fun k hk => hk.1)); have HB4 := Lib.hid (below_step HB3.out hb4); clear hH4 hb4))
  go_loopg [8] m.length (fun kq v wr => ∃ (i : Nat) (z : Int) (L : List S38), v = .int .i64 z ∧ Aside0 (z = (i : Int)) ∧ Aside0 (i + kq = m.length) ∧ Aside0 (LiteN (100 + i) L) ∧ Aside0 (Holds wr (fun k => w2.heap.size < k) w2.heap.size L) ∧ Aside0 (Holds wr (fun k => w2.heap.size < k ∧ k < w3.heap.size) w3.heap.size (allL l)) ∧ Aside0 (Below w.heap.size w wr) ∧ Aside0 (w3.heap.size + 1 ≤ wr.heap.size))
  case atStart => exact ⟨0, 0, allL l, rfl, ⟨rfl⟩, ⟨by omega⟩, ⟨HLN.out⟩, ⟨HH4.out⟩, ⟨HK4.out⟩, ⟨HB4.out⟩, ⟨hs4⟩⟩
  case round =>
    obtain ⟨i, z, L, rfl, hz, hi, hLN, hH, hK, hb, hs⟩ := hrel
    have hi1 := hi.out
    have hz1 := hz.out
    by_cases hlt : i < m.length
    · have p1 : 0 ≤ z := by omega
      have q1 : z < (m.length : Int) := by omega
      have d1 : decide (z < (m.length : Int)) = true := decide_eq_true q1
      obtain ⟨ad, A3, c3, eA, x0, x1, x2, x3, x4, x5, x6, x7, hl3, hi3⟩ := at_T38 HCM.out z p1 q1
      cases eA
      have HI : Hid (ItemAt w (ad.add (z.toNat * 8)) (rd_T38 m z) A3 c3) := Lib.hid ⟨x0, x1, x2, x3, x4, x5, x6, x7⟩
      have HC3 := Lib.hid hi3
      have HBw := Lib.hid hb.out
      have HHw := Lib.hid hH.out
      have HKw := Lib.hid hK.out
      have HLw := Lib.hid hLN.out
      have hsw := hs.out
      have hxx : (rd_T38 m z).f0.size ≤ 200 ∧ (rd_T38 m z).f2.f1.length ≤ 200 := by rw [hz1, rd_get m i hlt]; exact HMX.out _ (by simp)
      have HLT2 : Hid (Lite L) := Lib.hid ⟨by have := hLN.out.1; omega, hLN.out.2⟩
      clear x0 x1 x2 x3 x4 x5 x6 x7 hi3 hb hH hs hz hi hK hLN
      obtain ⟨x0, x1, x2, x3, x4, x5, x6, x7⟩ := HI.out.below HBw.out
      generalize hq : rd_T38 m z = q at *
      have hbw0 : w.heap.size ≤ w2.heap.size := HB2.out.size
      have p2 := eq_true p1
      have q2 := eq_true q1
      have HZ := Lib.hid hz1
      have HI1 := Lib.hid hi1
      have HLL := Lib.hid hml
      clear p1 q1 hz1 hi1 hq hml
      go_wp2_with (first
        | (go_at_call 29; refine (put_all (fun k => w2.heap.size < k) w2.heap.size L q A3 c3 _ (fun k hk => by omega) HHw.out (Kd.C_below HC3.out HBw.out) hl3 HLT2.out hxx).mono ?_; rintro e w5 ⟨rfl, hH5, hg5⟩; have hs5 : w3.heap.size + 1 ≤ w5.heap.size := Nat.le_trans hsw hg5.size; have HB5 : Hid (Below w.heap.size w w5) := Lib.hid (pw_below_grown HBw.out _ (by omega) hg5 (fun k hk => by injection hk with hk; omega)); have HK5 := Lib.hid (HKw.out.grown hg5 (by omega) (fun k hk => by omega)); have HH5 : Hid (Holds w5 (fun k => w2.heap.size < k) w2.heap.size (insM L q)) := Lib.hid (hH5.mono (fun k hk => hk.elim id (fun h => by omega))); clear hH5 hg5))
      have hz9 := HZ.out
      have hi9 := HI1.out
      have hl9 := HLL.out
      go_roundg (gk - 1)
      case measure => omega
      case rel => exact ⟨i + 1, _, insM L q, rfl, ⟨by rw [hz9]; first | exact wrap_succ i (by omega) | (simp only [IntKind.wrap_i64]; omega)⟩, ⟨by omega⟩, ⟨by have h7 := insM_lite (100 + i) HLw.out.1 HLw.out.2 hxx; exact ⟨by have := h7.1; omega, h7.2⟩⟩, ⟨HH5.out⟩, ⟨HK5.out⟩, ⟨HB5.out⟩, ⟨hs5⟩⟩
    · have d1 : decide (z < (m.length : Int)) = false := decide_eq_false (by omega)
      have HBr := Lib.hid hb.out
      have HKr := Lib.hid hK.out
      have hbs : w.heap.size ≤ wr.heap.size := hb.out.size
      clear hz hi hLN hH hK hb hs hi1 hz1 hlt
      go_wp2
      go_loopg [9] 2 (fun kq v wt => ∃ (i : Nat), v = .int .i64 (i : Int) ∧ Aside0 (i + kq = 2) ∧ Aside0 (Below wr.heap.size wr wt))
      case atStart => exact ⟨0, rfl, ⟨rfl⟩, ⟨Below.refl _ _⟩⟩
      case round =>
        obtain ⟨i, rfl, hi, hb⟩ := hrel
        have HBt := Lib.hid hb.out
        have hi0 := hi.out
        clear hb hi
        have hcase : i = 0 ∨ i = 1 ∨ i = 2 := by omega
        rcases hcase with rfl | rfl | rfl
        · go_wp2_with (first
            | (go_at_call 34; refine (nob_get _ _ _ (.inl rfl)).mono ?_; rintro e w5 ⟨A5, c5, rfl, hb5⟩; unfold itemCells zeroS; have HN5 := Lib.hid (Nob.below (.inl rfl) hb5); have HB5 := Lib.hid (below_step HBt.out hb5); clear hb5)
            | (go_at_call 29; refine (nob_put _ _ keyA none 0 (HN5.out.below (below_alloc (Below.refl _ _) _))).mono ?_; rintro e w6 ⟨rfl, hb6⟩; have HN6 := Lib.hid ((HN5.out.below (below_alloc (Below.refl _ _) _)).below hb6); have HB6 := Lib.hid (below_step (below_alloc HB5.out _) hb6); clear hb6)
            | (go_at_call 30; refine (nob_all _ _ HN6.out).mono ?_; rintro e w7 ⟨A7, c7, rfl, hb7⟩; have HN7 := Lib.hid (HN6.out.below hb7); have HB7 := Lib.hid (below_step HB6.out hb7); clear hb7)
            | (go_at_call 25; refine (nob_scan _ _ _ _ _ HN7.out).mono ?_; rintro e w8 ⟨A8, c8, rfl, hb8⟩; have HN8 := Lib.hid (HN7.out.below hb8); have HB8 := Lib.hid (below_step HB7.out hb8); clear hb8)
            | (go_at_call 31; refine (nob_len _ _ HNC.out).mono ?_; rintro e w10 ⟨rfl, rfl⟩)
            | (go_at_call 31; refine (nob_len _ _ HN8.out).mono ?_; rintro e w10 ⟨rfl, rfl⟩)
            | (go_at_call 32; refine (nob_weight _ _ HN8.out).mono ?_; rintro e w10 ⟨rfl, rfl⟩)
            | (go_at_call 36; refine (nob_clone _ _ HN8.out).mono ?_; rintro e w9 ⟨v9, rfl, hN9, hb9⟩; have HNC := Lib.hid hN9; have HB9 := Lib.hid (below_step HB8.out hb9); clear hN9 hb9))
          go_roundg (gk - 1)
          case measure => omega
          case rel => exact ⟨1, rfl, ⟨by omega⟩, ⟨HB9.out⟩⟩
        · go_wp2_with (first
            | (go_at_call 34; refine (nob_get _ _ _ (nob_zero _)).mono ?_; rintro e w5 ⟨A5, c5, rfl, hb5⟩; unfold itemCells zeroS; have HN5 := Lib.hid (Nob.below (nob_zero _) hb5); have HB5 := Lib.hid (below_step (below_alloc HBt.out _) hb5); clear hb5)
            | (go_at_call 29; refine (nob_put _ _ keyA none 0 (HN5.out.below (below_alloc (Below.refl _ _) _))).mono ?_; rintro e w6 ⟨rfl, hb6⟩; have HN6 := Lib.hid ((HN5.out.below (below_alloc (Below.refl _ _) _)).below hb6); have HB6 := Lib.hid (below_step (below_alloc HB5.out _) hb6); clear hb6)
            | (go_at_call 30; refine (nob_all _ _ HN6.out).mono ?_; rintro e w7 ⟨A7, c7, rfl, hb7⟩; have HN7 := Lib.hid (HN6.out.below hb7); have HB7 := Lib.hid (below_step HB6.out hb7); clear hb7)
            | (go_at_call 25; refine (nob_scan _ _ _ _ _ HN7.out).mono ?_; rintro e w8 ⟨A8, c8, rfl, hb8⟩; have HN8 := Lib.hid (HN7.out.below hb8); have HB8 := Lib.hid (below_step HB7.out hb8); clear hb8)
            | (go_at_call 31; refine (nob_len _ _ HNC.out).mono ?_; rintro e w10 ⟨rfl, rfl⟩)
            | (go_at_call 31; refine (nob_len _ _ HN8.out).mono ?_; rintro e w10 ⟨rfl, rfl⟩)
            | (go_at_call 32; refine (nob_weight _ _ HN8.out).mono ?_; rintro e w10 ⟨rfl, rfl⟩)
            | (go_at_call 36; refine (nob_clone _ _ HN8.out).mono ?_; rintro e w9 ⟨v9, rfl, hN9, hb9⟩; have HNC := Lib.hid hN9; have HB9 := Lib.hid (below_step HB8.out hb9); clear hN9 hb9))
          go_roundg (gk - 1)
          case measure => omega
          case rel => exact ⟨2, rfl, ⟨by omega⟩, ⟨HB9.out⟩⟩
        · have HKt := Lib.hid (HKr.out.below HBt.out)
          have HB5 := Lib.hid (below_then HBr.out hbs HBt.out)
          go_wp2_with (first
            | (go_at_call 30; refine (hold_all _ _ w3.heap.size (allL l) HKt.out HLT.out).mono ?_; rintro e w6 ⟨v6, rfl, hN6, hb6⟩; obtain ⟨A6, c6, rfl⟩ := Kd.N_slice hN6; have HN6 := Lib.hid hN6; have HB6 := Lib.hid (below_step HB5.out hb6); clear hN6 hb6)
            | (go_at_call 27; refine (garnerref10_All.calls 5000 (fun _ => True) A0 c0 l (allL l) _ (V_all (Kd.C_below HC.out HB6.out) hc _) HAF.out).mono ?_; rintro e w7 ⟨v7, rfl, hN7, hb7⟩; obtain ⟨A7, c7, rfl⟩ := Kd.N_slice hN7; have HN7 := Lib.hid hN7; have HM7 := Lib.hid (Kd.N_below HN6.out hb7); have HB7 := Lib.hid (below_step HB6.out hb7); clear hN7 hb7)
            | (go_at_call 21; refine (garnerref10_Same.calls 5000 A6 c6 _ A7 c7 _ true _ (Kd.N_reads' HM7.out).2.2 (Kd.N_reads' HM7.out).2.1 (Kd.N_reads' HN7.out).2.2 (Kd.N_reads' HN7.out).2.1 HMF.out).mono ?_; rintro e w8 ⟨rfl, hb8⟩; have HB8 := Lib.hid (below_step HB7.out hb8); clear hb8)
            | (go_at_call 23; refine (awake_calls _).mono ?_; rintro e w9 ⟨rfl, hb9⟩; have HB9 := Lib.hid (below_step HB8.out hb9); clear hb9))
          go_ret
          exact ⟨rfl, HB9.out⟩
theorem clones_any {w0 : World} (A0 : Option Addr) (c0 : Nat) (l : List S38) (hC : Kd.C k38 w0 A0 l.length l) (hc : l.length ≤ c0) (hm : l.length ≤ maxLen) (hw : ∀ x ∈ l, ∀ z ∈ x.f2.f1, (Lit.int .u8 z).wf = true)
    (A1 : Option Addr) (c1 : Nat) (m : List S38) (hC1 : Kd.C k38 w0 A1 m.length m) (hc1 : m.length ≤ c1) (hm1 : m.length ≤ maxLen) (hw1 : ∀ x ∈ m, ∀ z ∈ x.f2.f1, (Lit.int .u8 z).wf = true) (w : World) (he : w = w0 := by rfl) :
    Calls Try.prog 8 #[.slice A0 l.length c0, .slice A1 m.length c1] w fun e w' => e = .returned (.bool true) ∧ Below w.heap.size w w' := by
  subst he
  obtain ⟨b, hb, hbt⟩ := light_f l 300 (by omega) (by unfold maxLen at hm; omega)
  obtain ⟨bm, hbm, hbmt⟩ := light_f m 300 (by omega) (by unfold maxLen at hm1; omega)
  by_cases hn : b = false ∨ bm = false
  · exact clones_not A0 c0 l A1 c1 m w hC hc hC1 hc1 b bm hb hbm hn
  · have hbt1 : b = true := by cases b <;> simp_all
    have hbt2 : bm = true := by cases bm <;> simp_all
    subst hbt1
    subst hbt2
    obtain ⟨h1, h2⟩ := hbt rfl
    obtain ⟨h3, h4⟩ := hbmt rfl
    exact clones_yes A0 c0 l A1 c1 m w hC hc hC1 hc1 hb hbm h1 h2 h3 h4
end Go.Proofs.Ytgoidimipchejaa.Tr
