/- Layer 10: the statement TreeScans, walked; no condition beyond what a value's form says. -/
import Derived.Test.YtgoidimipchejaaTrT
import Derived.Deep.RegionHeld3
import Derived.Lib.SmallJoins
namespace Go.Proofs.Ytgoidimipchejaa.Tr
open Go.RowKit Go.Proofs.Ytgoidimipchejaa.PT Go.Proofs.YtgoidimipchejaaW.PrintWords Go.Proofs.YtgoidimipchejaaW.PrintLast Go.Proofs.YtgoidimipchejaaW.PrintMore
set_option linter.unusedVariables false
set_option linter.unusedSimpArgs false
attribute [local go_sem ↓] Go.wp_at_zero Go.wp_at_succ

theorem V_all {W : World} {A : Option Addr} {c : Nat} {l : List S38} (h : Kd.C k38 W A l.length l) (hc : l.length ≤ c) (base : Nat) : Kd.V k38 38 W base (fun _ => True) (.slice A l.length c) l :=
  Kd.V_mk hc (fun W' hW => k38_heap.C (fun k hk => hW k trivial hk) h)
theorem cells3 {w : World} {b : Nat} {v0 v1 v2 : Value} {t : TypeId} {fr : Nat × Nat} (h : w.heap[b]? = some (.cells #[v0, v1, v2] t fr)) :
    w.cell? ⟨b, 0, none⟩ = some v0 ∧ w.cell? ⟨b, 1, none⟩ = some v1 ∧ w.cell? ⟨b, 2, none⟩ = some v2 := by
  simp [World.cell?, h]

theorem light_calls (k : Nat) (A0 : Option Addr) (c0 : Nat) (l : List S38) (r : Bool) (w : World) (hC : Kd.C k38 w A0 l.length l) (hc : l.length ≤ c0) (h : garnerlaw10_Light.f k l = some r) :
    Calls Try.prog 22 #[.slice A0 l.length c0] w fun e w' => e = .returned (.bool r) ∧ Below w.heap.size w w' :=
  (garnerlaw10_Light.calls k A0 c0 l r w hC hc h).mono fun e w' h => ⟨h.1, h.2.below⟩
set_option maxHeartbeats 2000000 in
set_option maxRecDepth 100000 in
theorem scans_not (A0 : Option Addr) (c0 : Nat) (l : List S38) (lo hi : ByteArray) (most : Int) (w : World) (hC : Kd.C k38 w A0 l.length l) (hc : l.length ≤ c0) (b : Bool) (hb : garnerlaw10_Light.f 300 l = some b) (hn : b = false ∨ 200 < (lo.size : Int) ∨ 200 < (hi.size : Int)) :
    Calls Try.prog 5 #[.slice A0 l.length c0, .agg #[.string lo, .string hi, .int .i64 most]] w fun e w' => e = .returned (.bool true) ∧ Below w.heap.size w w' := by
  have HC := Lib.hid hC
  have HL := Lib.hid hb
  clear hC hb
  have gone : b = false ∨ (b = true ∧ decide (200 < (lo.size : Int)) = true) ∨ (b = true ∧ decide (200 < (lo.size : Int)) = false ∧ decide (200 < (hi.size : Int)) = true) := by
    cases b
    · exact .inl rfl
    · by_cases h1 : 200 < (lo.size : Int)
      · exact .inr (.inl ⟨rfl, decide_eq_true h1⟩)
      · rcases hn with h | h | h
        · cases h
        · exact absurd h h1
        · exact .inr (.inr ⟨rfl, decide_eq_false h1, decide_eq_true h⟩)
  clear hn
  rcases gone with rfl | ⟨rfl, h1⟩ | ⟨rfl, h1, h2⟩
  all_goals (
    go_enter Try.func5, Try.ntmps5
    go_wp2_with (first
      | (go_at_call 22; refine (light_calls 300 A0 c0 l _ _ (Kd.C_alloc HC.out _) hc HL.out).mono ?_; rintro e w1 ⟨rfl, hb1⟩; have HB1 := Lib.hid (below_step (below_alloc (Below.refl w.heap.size w) _) hb1); have hbx := one_new w _ hb1; obtain ⟨d0, d1, d2⟩ := cells3 hbx; clear hbx hb1)
      | (go_at_call 23; refine (awake_calls _).mono ?_; rintro e w9 ⟨rfl, hb9⟩; have HB9 := Lib.hid (below_step HB1.out hb9); clear hb9))
    go_ret
    exact ⟨rfl, HB9.out⟩)
set_option maxHeartbeats 4000000 in
set_option maxRecDepth 100000 in
theorem scans_yes (A0 : Option Addr) (c0 : Nat) (l : List S38) (lo hi : ByteArray) (most : Int) (w : World) (hC : Kd.C k38 w A0 l.length l) (hc : l.length ≤ c0) (hb : garnerlaw10_Light.f 300 l = some true) (hl : l.length ≤ 100) (hx : ∀ x ∈ l, x.f0.size ≤ 200 ∧ x.f2.f1.length ≤ 200) (h1 : decide (200 < (lo.size : Int)) = false) (h2 : decide (200 < (hi.size : Int)) = false) :
    Calls Try.prog 5 #[.slice A0 l.length c0, .agg #[.string lo, .string hi, .int .i64 most]] w fun e w' => e = .returned (.bool true) ∧ Below w.heap.size w w' := by
  have HC := Lib.hid hC
  have HL := Lib.hid hb
  have HX := Lib.hid hx
  have hlite := allL_lite l 100 hl (by omega) hx
  have HLT := Lib.hid hlite
  have hlen := hlite.1
  have HAF := Lib.hid (all_f l 5000 (by omega) (by omega))
  have HSF := Lib.hid (scan_f (allL l) lo hi most 5000 (by omega) (by omega))
  have HMF : Hid (garnerref10_Same.f 5000 (((allL l).filter (inR lo hi)).take most.toNat) (((allL l).filter (inR lo hi)).take most.toNat) = some true) := Lib.hid (by
    have hle : (((allL l).filter (inR lo hi)).take most.toNat).length ≤ (allL l).length := Nat.le_trans (List.length_take_le' _ _) (List.length_filter_le _ _)
    exact Same_f 5000 _ (by omega) (by omega) (fun x hx => by have := (hlite.2 x (List.mem_filter.1 (List.mem_of_mem_take hx)).1).2; omega))
  have HQ : Hid (∃ R : List S38, ((allL l).filter (inR lo hi)).take most.toNat = R) := Lib.hid ⟨_, rfl⟩
  obtain ⟨R, hR⟩ := HQ.out
  rw [hR] at HSF HMF
  have HR := Lib.hid hR
  clear hC hb hx hlite hR HQ
  go_enter Try.func5, Try.ntmps5
  go_wp2_with (first
    | (go_at_call 22; refine (light_calls 300 A0 c0 l _ _ (Kd.C_alloc HC.out _) hc HL.out).mono ?_; rintro e w1 ⟨rfl, hb1⟩; have hbx := one_new w _ hb1; obtain ⟨d0, d1, d2⟩ := cells3 hbx; have hs1 : w.heap.size + 1 ≤ w1.heap.size := (by have := hb1.size; simp only [World.size_alloc] at this; exact this); have HBX := Lib.hid hbx; have HB1 := Lib.hid (below_step (below_alloc (Below.refl w.heap.size w) _) hb1); clear hbx hb1)
    | (go_at_call 24; refine (made_calls A0 c0 l _ (Kd.C_below HC.out HB1.out) hc hl HX.out).mono ?_; rintro e w2 ⟨rfl, hH2, hb2⟩; have hs2 := hb2.size; obtain ⟨g0, g1, g2⟩ := cells3 ((hb2.block w.heap.size (by omega)).trans HBX.out); have HH2 := Lib.hid hH2; have HB2 := Lib.hid (below_step HB1.out hb2); clear hH2 hb2))
  have HSZ : w.heap.size + 1 ≤ w2.heap.size := Nat.le_trans hs1 hs2
  go_region_held3 (fun w' => w'.cell? ⟨w.heap.size, 0, none⟩ = some (.string lo) ∧ w'.cell? ⟨w.heap.size, 1, none⟩ = some (.string hi) ∧ w'.cell? ⟨w.heap.size, 2, none⟩ = some (.int .i64 most)) ((refine ⟨?_, ?_, ?_⟩ <;> (first | (rw [hb7.cell (by simp <;> omega)]; go_keep) | (rw [hb6.cell (by simp <;> omega)]; go_keep) | (rw [hb5.cell (by simp <;> omega)]; go_keep) | (rw [hb4.cell (by simp <;> omega)]; go_keep) | (rw [hb3.cell (by simp <;> omega)]; go_keep) | go_keep)))
    (first
      | (go_at_call 25; refine (hold_scan _ _ w1.heap.size (allL l) lo hi most (HH2.out.below (Go.Joins.below_draws _ _ 1)) HLT.out).mono ?_; rintro e w3 ⟨v3, rfl, hN3, hb3⟩; rw [HR.out] at hN3; obtain ⟨A3, c3, rfl⟩ := Kd.N_slice hN3; have hs3 : w2.heap.size ≤ w3.heap.size := hb3.size; have HN3 := Lib.hid hN3; have HB3 := Lib.hid (below_step (HB2.out.trans (Go.Joins.below_draws _ _ 1)) hb3); clear hN3)
      | (go_at_call 27; refine (garnerref10_All.calls 5000 (fun _ => True) A0 c0 l (allL l) _ (V_all (Kd.C_below HC.out HB3.out) hc _) HAF.out).mono ?_; rintro e w4 ⟨v4, rfl, hN4, hb4⟩; obtain ⟨A4, c4, rfl⟩ := Kd.N_slice hN4; have hs4 : w3.heap.size ≤ w4.heap.size := hb4.size; have HN3 := Lib.hid (Kd.N_below HN3.out hb4); have HN4 := Lib.hid hN4; have HB4 := Lib.hid (below_step HB3.out hb4); clear hN4)
      | (go_at_call 26; refine (garnerref10_Scan.calls 5000 (fun k => True ∨ w3.heap.size ≤ k) A4 c4 (allL l) lo hi most _ _ (Kd.N_V HN4.out) HSF.out).mono ?_; rintro e w5 ⟨v5, rfl, hN5, hb5⟩; obtain ⟨A5, c5, rfl⟩ := Kd.N_slice hN5; have hs5 : w4.heap.size ≤ w5.heap.size := hb5.size; have HN3 := Lib.hid (Kd.N_below HN3.out hb5); have HN5 := Lib.hid hN5; have HB5 := Lib.hid (below_step HB4.out hb5); clear hN5)
      | (go_at_call 21; refine (garnerref10_Same.calls 5000 A3 c3 _ A5 c5 _ true _ (Kd.N_reads' HN3.out).2.2 (Kd.N_reads' HN3.out).2.1 (Kd.N_reads' HN5.out).2.2 (Kd.N_reads' HN5.out).2.1 HMF.out).mono ?_; rintro e w6 ⟨rfl, hb6⟩; have hs6 : w5.heap.size ≤ w6.heap.size := hb6.size; have HB6 := Lib.hid (below_step HB5.out hb6))
      | (go_at_call 23; refine (awake_calls _).mono ?_; rintro e w7 ⟨rfl, hb7⟩; have HB7 := Lib.hid (below_step HB6.out hb7)))
  go_wp2
  go_ret
  exact ⟨rfl, HB7.out⟩
end Go.Proofs.Ytgoidimipchejaa.Tr
