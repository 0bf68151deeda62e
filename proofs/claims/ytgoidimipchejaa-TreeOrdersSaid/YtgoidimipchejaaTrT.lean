/- Layer 10: the statements' own small example; no condition. -/
import Derived.Test.YtgoidimipchejaaTrR
import Derived.Deep.RegionWith
import Derived.Lib.SmallJoins
import Derived.Test.YtgoidimipchejaaPTx4
namespace Go.Proofs.Ytgoidimipchejaa.Tr
open Go.RowKit Go.Proofs.Ytgoidimipchejaa.PT Go.Proofs.YtgoidimipchejaaW.PrintWords Go.Proofs.YtgoidimipchejaaW.PrintLast Go.Proofs.YtgoidimipchejaaW.PrintMore
set_option linter.unusedVariables false
set_option linter.unusedSimpArgs false
attribute [local go_sem ↓] Go.wp_at_zero Go.wp_at_succ

def itB : S38 := ⟨⟨#[98]⟩, false, ⟨false, [], ⟨0, 0, 0, 0⟩⟩⟩
def itA : S38 := ⟨⟨#[97]⟩, true, ⟨false, [], ⟨0, 0, 0, 0⟩⟩⟩
theorem may_itB : mayB itB = true := by kernel_rfl
theorem may_itA : mayB itA = true := by kernel_rfl
theorem ins_B : insM [] itB = [itB] := by unfold insM; rw [if_pos may_itB]; rfl
theorem ins_A : insM [itB] itA = [itA, itB] := by
  unfold insM
  rw [if_pos may_itA]
  have h1 : ¬ kOf itA = kOf itB := by simp [kOf, itA, itB]
  have h2 : kOf itA < kOf itB := by simp [kOf, itA, itB]; decide
  simp only [insL]
  rw [if_neg h1, if_pos h2]
theorem sorted_AB : tree_Sorted.f 20 [itA, itB] = some true := by kernel_rfl
theorem lite_AB : Lite [itA, itB] := ⟨by simp, by intro x hx; simp at hx; rcases hx with rfl | rfl <;> exact ⟨by decide, by decide⟩⟩
theorem lite_B : Lite [itB] := ⟨by simp, by intro x hx; simp at hx; subst hx; exact ⟨by decide, by decide⟩⟩
theorem lite_0 : Lite [] := ⟨by simp, by intro x hx; simp at hx⟩
theorem weight_AB : wtL [itA, itB] = 34 := by decide

set_option maxHeartbeats 2000000 in
set_option maxRecDepth 100000 in
theorem awake_calls (w : World) : Calls Try.prog 23 #[] w fun e w' => e = .returned (.bool true) ∧ Below w.heap.size w w' := by
  go_enter Try.func23, Try.ntmps23
  go_wp2_with (first
    | (go_at_call 28; refine (new_holds _ (fun k => w.heap.size < k)).mono ?_; rintro e w1 ⟨rfl, hH1, hb1, hs1⟩; have HH1 := Lib.hid hH1; have HB1 := Lib.hid hb1; clear hH1 hb1)
    | (go_at_call 29; refine (put_all (fun k => w.heap.size < k) w.heap.size [itB] itA none 0 _ (fun k hk => by omega) HH2.out (Kd.C_nil _ _) (by simp [itA]) lite_B (lite_AB.2 itA (by simp))).mono ?_; rintro e w3 ⟨rfl, hH3, hg3⟩; have hs3 : w.heap.size + 1 ≤ w3.heap.size := Nat.le_trans hs2 hg3.size; rw [ins_A] at hH3; have HH3 := Lib.hid (hH3.mono (ok' := fun k => w.heap.size < k) (fun k hk => hk.elim id (fun h => by omega))); have HB3 : Hid (Below w.heap.size w w3) := Lib.hid (pw_below_grown HB2.out _ (by omega) hg3 (fun k hk => by injection hk with hk; omega)); clear hH3 hg3)
    | (go_at_call 29; refine (put_all (fun k => w.heap.size < k) w.heap.size [] itB none 0 _ (fun k hk => by omega) HH1.out (Kd.C_nil _ _) (by simp [itB]) lite_0 (lite_AB.2 itB (by simp))).mono ?_; rintro e w2 ⟨rfl, hH2, hg2⟩; have hs2 : w.heap.size + 1 ≤ w2.heap.size := Nat.le_trans hs1 hg2.size; rw [ins_B] at hH2; have HH2 := Lib.hid (hH2.mono (ok' := fun k => w.heap.size < k) (fun k hk => hk.elim id (fun h => by omega))); have HB2 : Hid (Below w.heap.size w w2) := Lib.hid (pw_below_grown HB1.out _ (by omega) hg2 (fun k hk => by injection hk with hk; omega)); clear hH2 hg2)
    | (go_at_call 30; refine (hold_all _ _ w.heap.size [itA, itB] HH3.out lite_AB).mono ?_; rintro e w4 ⟨v4, rfl, hN4, hb4⟩; obtain ⟨A4, c4, rfl⟩ := Kd.N_slice hN4; have hr4 := Kd.N_reads' hN4; obtain ⟨ad, A5, c5, eA, x0, x1, x2, x3, x4, x5, x6, x7, hl5, hi5⟩ := at_T38 hr4.2.2 0 (by omega) (by simp); cases eA; have HC4 := Lib.hid hr4.2.2; have hc4 := hr4.2.1; have HH4 := Lib.hid (HH3.out.below hb4); have hs4 := hb4.size; have HB4 := Lib.hid (below_then HB3.out (by omega) hb4); clear hN4 hr4 hi5 hb4; simp [rd_T38, itA, itB, show ad.add 0 = ad from by cases ad; rfl] at x0 x1; clear x2 x3 x4 x5 x6 x7)
    | (go_at_call 41; refine (tree_Sorted.calls 20 _ c4 [itA, itB] true _ HC4.out hc4 sorted_AB).mono ?_; rintro e w5 ⟨rfl, hb5⟩; have HH5 := Lib.hid (HH4.out.below hb5); have HB5 := Lib.hid (below_then HB4.out (by omega) hb5); clear hb5)
    | (go_at_call 32; refine (hold_weight _ _ w.heap.size [itA, itB] HH5.out).mono ?_; rintro e w6 ⟨rfl, rfl⟩; rw [weight_AB]))
  go_ret
  exact ⟨rfl, HB5.out⟩
end Go.Proofs.Ytgoidimipchejaa.Tr
