/- Layer 14: a walk in memory; which list is ahead, by contract; no condition beyond the bounds that each lemma names. -/
import Derived.Test.YtgoidimipchejaaMgB
import Derived.Test.YtgoidimipchejaaTrI
import Derived.Test.YtgoidimipchejaaWNEv
import Derived.Deep.LoopGhost
import Derived.Deep.RegionWith
import Derived.Deep.DrawnRows
import Derived.Deep.DeepCutAuto
import Derived.Deep.RegionHeld3
import Derived.Lib.SmallJoins
import Derived.IntWalk
namespace Go.Proofs.Ytgoidimipchejaa.Mg
open Go.RowKit Go.Proofs.Ytgoidimipchejaa.PT Go.Proofs.Ytgoidimipchejaa.Tr Go.Proofs.YtgoidimipchejaaW.PrintWords Go.Proofs.YtgoidimipchejaaW.PrintLast Go.Proofs.YtgoidimipchejaaW.PrintMore
set_option linter.unusedVariables false
set_option linter.unusedSimpArgs false
attribute [local go_sem ↓] Go.wp_at_zero Go.wp_at_succ

/-- A walk in memory: its handle H, its lists (row lv), its heap (row A, c); what the lists lead to lies in Q. -/
structure HasWalk (W : World) (base : Nat) (Q : Nat → Prop) (H : Nat) (lv : Value) (A : Option Addr) (c : Nat) (ls : List (List S38)) (hp : List Int) : Prop where
  obj : W.heap[H]? = some (.cells #[lv, .slice A hp.length c] 45 (0, 0))
  lists : Kd.N (Kd.slice 38 k38) 29 W base (fun k => (k ≠ H ∧ some k ≠ (Value.slice A hp.length c).ownBlock) ∧ Q k) lv ls
  heap : (Kd.int .i64).R 3 W base (fun k => k ≠ H) (.slice A hp.length c) hp
theorem cells2 {w : World} {b : Nat} {v0 v1 : Value} {t : TypeId} {fr : Nat × Nat} (h : w.heap[b]? = some (.cells #[v0, v1] t fr)) : w.cell? ⟨b, 0, none⟩ = some v0 ∧ w.cell? ⟨b, 1, none⟩ = some v1 := by
  simp [World.cell?, h]
theorem ownBlock_len (A : Option Addr) (n m c d : Nat) : (Value.slice A n c).ownBlock = (Value.slice A m d).ownBlock := by cases A <;> rfl
theorem HasWalk.step {W W1 : World} {base : Nat} {Q : Nat → Prop} {H : Nat} {lv : Value} {A : Option Addr} {c : Nat} {ls : List (List S38)} {hp : List Int} (h : HasWalk W base Q H lv A c ls hp) (hm : ∀ k, k < W.heap.size → W1.heap[k]? = W.heap[k]?) : HasWalk W1 base Q H lv A c ls hp :=
  ⟨(hm H (lt_of_block h.obj)).trans h.obj, Kd.N_step h.lists fun k _ hk => hm k hk, Kd.R_step h.heap fun k _ hk => hm k hk⟩
theorem HasWalk.below {W W1 : World} {base : Nat} {Q : Nat → Prop} {H : Nat} {lv : Value} {A : Option Addr} {c : Nat} {ls : List (List S38)} {hp : List Int} (h : HasWalk W base Q H lv A c ls hp) (hb : Below W.heap.size W W1) : HasWalk W1 base Q H lv A c ls hp := h.step fun k hk => hb.block k hk

theorem rdL_lst (ls : List (List S38)) (z : Int) : rd_L9 ls z = lst ls z := rfl
theorem bl_self (l : List UInt8) : Op.bytesLess l l = false := (less_not l l).2 (k_irr l)
theorem add0 (ad : Addr) : ad.add 0 = ad := by cases ad; rfl

set_option maxHeartbeats 2000000 in
set_option maxRecDepth 100000 in
theorem less_calls (w : World) (base : Nat) (Q : Nat → Prop) (H : Nat) (lv : Value) (A : Option Addr) (c : Nat) (ls : List (List S38)) (hp : List Int) (a b : Int) (h : HasWalk w base Q H lv A c ls hp)
    (ha : 0 ≤ a ∧ a < ls.length ∧ lst ls a ≠ []) (hb : 0 ≤ b ∧ b < ls.length ∧ lst ls b ≠ []) :
    Calls Try.prog 64 #[.pointer (some ⟨H, 0, none⟩), .int .i64 a, .int .i64 b] w fun e w' => e = .returned (.bool (lessW ls a b)) ∧ ∃ n, w' = w.drewN n := by
  obtain ⟨hc0, hc1⟩ := cells2 h.obj
  obtain ⟨AL, cL, rfl⟩ := Kd.N_slice h.lists
  have hC := (Kd.N_reads' h.lists).2.2
  obtain ⟨adL, A1, c1, eL, x0, hl1, hC1⟩ := at_L9 hC a ha.1 ha.2.1
  obtain ⟨adL2, A2, c2, eL2, y0, hl2, hC2⟩ := at_L9 hC b hb.1 hb.2.1
  rw [eL] at eL2
  cases eL2
  subst eL
  rw [rdL_lst] at x0 hl1 hC1 y0 hl2 hC2
  have n1 : 0 < (lst ls a).length := List.length_pos_iff.2 ha.2.2
  have n2 : 0 < (lst ls b).length := List.length_pos_iff.2 hb.2.2
  obtain ⟨ad1, A3, c3, eA, z0, z1, z2, z3, z4, z5, z6, z7, hl3, hC3⟩ := at_T38 hC1 0 (by omega) (by omega)
  obtain ⟨ad2, A4, c4, eA2, v0, v1, v2, v3, v4, v5, v6, v7, hl4, hC4⟩ := at_T38 hC2 0 (by omega) (by omega)
  cases eA
  cases eA2
  simp only [Int.toNat_zero, Nat.zero_mul, add0] at z0 v0
  have HL : Hid (lessW ls a b = (Op.bytesLess (rd_T38 (lst ls a) 0).f0.toList (rd_T38 (lst ls b) 0).f0.toList || (decide ((rd_T38 (lst ls a) 0).f0.toList = (rd_T38 (lst ls b) 0).f0.toList) && decide (a < b)))) := Lib.hid rfl
  generalize hq1 : (rd_T38 (lst ls a) 0).f0 = k1 at *
  generalize hq2 : (rd_T38 (lst ls b) 0).f0 = k2 at *
  generalize hm1 : (lst ls a).length = m1 at *
  generalize hm2 : (lst ls b).length = m2 at *
  obtain ⟨p1, q1, r1⟩ := ha
  obtain ⟨p2, q2, r2⟩ := hb
  have t1 := eq_true p1
  have t2 := eq_true p2
  have s1 := eq_true q1
  have s2 := eq_true q2
  clear z1 z2 z3 z4 z5 z6 z7 v1 v2 v3 v4 v5 v6 v7 hC1 hC2 hC3 hC4 hq1 hq2 hm1 hm2 hC h r1 r2
  go_enter Try.func64, Try.ntmps64
  go_wp2_with fail
  go_quiet (fail)
  go_wp2
  all_goals (
    go_ret
    exact ⟨by rw [HL.out]; simp [*, bl_self], _, rfl⟩)
end Go.Proofs.Ytgoidimipchejaa.Mg
