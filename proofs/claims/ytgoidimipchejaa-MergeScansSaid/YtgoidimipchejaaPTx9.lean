/- Of the laws that this set serves: the Go functions come to the printed Lean functions, and the law's row out of its plain statement; no condition beyond those that each theorem names. Written by a program of this session (a turned copy of the print). -/
import Derived.Test.YtgoidimipchejaaPTx0
import Derived.Test.YtgoidimipchejaaPTx3
import Derived.Test.YtgoidimipchejaaPTx6
namespace Go.Proofs.Ytgoidimipchejaa.PT
open Go.RowKit Go.Proofs.YtgoidimipchejaaW.PrintWords Go.Proofs.YtgoidimipchejaaW.PrintLast Go.Proofs.YtgoidimipchejaaW.PrintMore
attribute [local go_sem] max2_int min2_int max_two min_two max_three min_three max_four min_four   -- for this text's walks alone
set_option linter.unusedVariables false
set_option linter.unusedSimpArgs false

-- NOT PRINTED: function 61 (api_Item_61)

-- NOT PRINTED: function 43 (tree_Same)

-- NOT PRINTED: function 11 (garnerlaw10_TreeChecks)

/-! ### garnerref14_All: function 16 -/
mutual
def garnerref14_All.l0 : Nat → List (List (S38)) → Bool → List (S38) → Int → Option ((List (S38)))
 | 0, _, _, _, _ => none
 | k + 1, x0, x1, x5, x6 => if x6 ≥ 0 then (garnerref14_All.l1 k x0 x1 x5 x6 0) else (garnerref14_All.l2 k x1 x5 (([] : List (S38))) 0)
def garnerref14_All.l1 : Nat → List (List (S38)) → Bool → List (S38) → Int → Int → Option ((List (S38)))
 | 0, _, _, _, _, _ => none
 | k + 1, x0, x1, x5, x6, x7 => if 0 ≤ x6 then (if x6 < (x0.length : Int) then (if x7 < ((rd_L9 x0 x6).length : Int) then (if 0 ≤ x7 then ((garnerref10_Put.f k x5 ((rd_T38 (rd_L9 x0 x6) x7).f0) ((rd_T38 (rd_L9 x0 x6) x7).f1) ((rd_T38 (rd_L9 x0 x6) x7).f2.f0) ((rd_T38 (rd_L9 x0 x6) x7).f2.f1) ((rd_T38 (rd_L9 x0 x6) x7).f2.f2.f0) ((rd_T38 (rd_L9 x0 x6) x7).f2.f2.f1) ((rd_T38 (rd_L9 x0 x6) x7).f2.f2.f2) ((rd_T38 (rd_L9 x0 x6) x7).f2.f2.f3)).bind fun t227 => (garnerref14_All.l1 k x0 x1 t227 x6 (wrap64 (x7 + 1)))) else (none)) else (garnerref14_All.l0 k x0 x1 x5 (wrap64 (x6 - 1)))) else (none)) else (none)
def garnerref14_All.l2 : Nat → Bool → List (S38) → List (S38) → Int → Option ((List (S38)))
 | 0, _, _, _, _ => none
 | k + 1, x1, x5, x8, x9 => if x9 < (x5.length : Int) then (if x1 = true then (if 0 ≤ x9 then (if ((rd_T38 x5 x9).f1 = true) then (garnerref14_All.l2 k x1 x5 x8 (wrap64 (x9 + 1))) else (if x8.length < 1599289640401 then (garnerref14_All.l2 k x1 x5 (x8 ++ [(⟨(rd_T38 x5 x9).f0, (rd_T38 x5 x9).f1, (⟨(rd_T38 x5 x9).f2.f0, (rd_T38 x5 x9).f2.f1, (⟨(rd_T38 x5 x9).f2.f2.f0, (rd_T38 x5 x9).f2.f2.f1, (rd_T38 x5 x9).f2.f2.f2, (rd_T38 x5 x9).f2.f2.f3⟩ : S34)⟩ : S36)⟩ : S38)]) (wrap64 (x9 + 1))) else (none))) else (none)) else (if 0 ≤ x9 then (if x8.length < 1599289640401 then (garnerref14_All.l2 k x1 x5 (x8 ++ [(⟨(rd_T38 x5 x9).f0, (rd_T38 x5 x9).f1, (⟨(rd_T38 x5 x9).f2.f0, (rd_T38 x5 x9).f2.f1, (⟨(rd_T38 x5 x9).f2.f2.f0, (rd_T38 x5 x9).f2.f2.f1, (rd_T38 x5 x9).f2.f2.f2, (rd_T38 x5 x9).f2.f2.f3⟩ : S34)⟩ : S36)⟩ : S38)]) (wrap64 (x9 + 1))) else (none)) else (none))) else (some x8)
end
def garnerref14_All.f (k : Nat) (l0 : List (List (S38))) (a1 : Bool) : Option ((List (S38))) := garnerref14_All.l0 k l0 a1 (([] : List (S38))) (wrap64 ((l0.length : Int) - 1))
theorem garnerref14_All.mono_l : ∀ k, (∀ y0 y1 y2 y3, LeO (garnerref14_All.l0 k y0 y1 y2 y3) (garnerref14_All.l0 (k + 1) y0 y1 y2 y3)) ∧ (∀ y0 y1 y2 y3 y4, LeO (garnerref14_All.l1 k y0 y1 y2 y3 y4) (garnerref14_All.l1 (k + 1) y0 y1 y2 y3 y4)) ∧ (∀ y0 y1 y2 y3, LeO (garnerref14_All.l2 k y0 y1 y2 y3) (garnerref14_All.l2 (k + 1) y0 y1 y2 y3))
 | 0 => ⟨fun _ _ _ _ r h => by simp [garnerref14_All.l0] at h, fun _ _ _ _ _ r h => by simp [garnerref14_All.l1] at h, fun _ _ _ _ r h => by simp [garnerref14_All.l2] at h⟩
 | k + 1 => by
  obtain ⟨ih0, ih1, ih2⟩ := garnerref14_All.mono_l k
  refine ⟨?_, ?_, ?_⟩
  ·intro y0 y1 y2 y3
   unfold garnerref14_All.l0
   repeat' first
   | (with_reducible exact ih0 _ _ _ _)
   | (with_reducible exact ih1 _ _ _ _ _)
   | (with_reducible exact ih2 _ _ _ _)
   | (with_reducible exact garnerref10_Put.mono _ _ _ _ _ _ _ _ _ _)
   | (with_reducible exact LeO.refl _)
   | (with_reducible exact LeO.none _)
   | (with_reducible refine LeO.ite ?_ ?_)
   | (with_reducible refine LeO.bind ?_ (fun _ => ?_))
   | exact ih0 _ _ _ _
   | exact ih1 _ _ _ _ _
   | exact ih2 _ _ _ _
   | exact garnerref10_Put.mono _ _ _ _ _ _ _ _ _ _
   | exact LeO.none _
   | refine LeO.ite ?_ ?_
   | refine LeO.bind ?_ (fun _ => ?_)
  ·intro y0 y1 y2 y3 y4
   unfold garnerref14_All.l1
   repeat' first
   | (with_reducible exact ih0 _ _ _ _)
   | (with_reducible exact ih1 _ _ _ _ _)
   | (with_reducible exact ih2 _ _ _ _)
   | (with_reducible exact garnerref10_Put.mono _ _ _ _ _ _ _ _ _ _)
   | (with_reducible exact LeO.refl _)
   | (with_reducible exact LeO.none _)
   | (with_reducible refine LeO.ite ?_ ?_)
   | (with_reducible refine LeO.bind ?_ (fun _ => ?_))
   | exact ih0 _ _ _ _
   | exact ih1 _ _ _ _ _
   | exact ih2 _ _ _ _
   | exact garnerref10_Put.mono _ _ _ _ _ _ _ _ _ _
   | exact LeO.none _
   | refine LeO.ite ?_ ?_
   | refine LeO.bind ?_ (fun _ => ?_)
  ·intro y0 y1 y2 y3
   unfold garnerref14_All.l2
   repeat' first
   | (with_reducible exact ih0 _ _ _ _)
   | (with_reducible exact ih1 _ _ _ _ _)
   | (with_reducible exact ih2 _ _ _ _)
   | (with_reducible exact garnerref10_Put.mono _ _ _ _ _ _ _ _ _ _)
   | (with_reducible exact LeO.refl _)
   | (with_reducible exact LeO.none _)
   | (with_reducible refine LeO.ite ?_ ?_)
   | (with_reducible refine LeO.bind ?_ (fun _ => ?_))
   | exact ih0 _ _ _ _
   | exact ih1 _ _ _ _ _
   | exact ih2 _ _ _ _
   | exact garnerref10_Put.mono _ _ _ _ _ _ _ _ _ _
   | exact LeO.none _
   | refine LeO.ite ?_ ?_
   | refine LeO.bind ?_ (fun _ => ?_)
theorem garnerref14_All.mono : ∀ a0 a1 k, LeO (garnerref14_All.f k a0 a1) (garnerref14_All.f (k + 1) a0 a1) := by
 intro a0 a1 k
 obtain ⟨ih0, ih1, ih2⟩ := garnerref14_All.mono_l k
 unfold garnerref14_All.f
 repeat' first
   | (with_reducible exact ih0 _ _ _ _)
   | (with_reducible exact ih1 _ _ _ _ _)
   | (with_reducible exact ih2 _ _ _ _)
   | (with_reducible exact garnerref10_Put.mono _ _ _ _ _ _ _ _ _ _)
   | (with_reducible exact LeO.refl _)
   | (with_reducible exact LeO.none _)
   | (with_reducible refine LeO.ite ?_ ?_)
   | (with_reducible refine LeO.bind ?_ (fun _ => ?_))
   | exact ih0 _ _ _ _
   | exact ih1 _ _ _ _ _
   | exact ih2 _ _ _ _
   | exact garnerref10_Put.mono _ _ _ _ _ _ _ _ _ _
   | exact LeO.none _
   | refine LeO.ite ?_ ?_
   | refine LeO.bind ?_ (fun _ => ?_)
set_option maxHeartbeats 8000000 in
set_option maxRecDepth 100000 in
theorem garnerref14_All.calls (k : Nat) (P0_ : Nat → Prop) (A0 : Option Addr) (c0 : Nat) (l0 : List (List (S38))) (a1 : Bool) (r : List (S38)) (w : World) (hs0 : Kd.V (Kd.slice 38 k38) 29 w w.heap.size (fun k_ => P0_ k_) (.slice A0 l0.length c0) l0) (h : garnerref14_All.f k l0 a1 = some r) :
  Calls Try.prog 16 #[.slice A0 l0.length c0, .bool a1] w fun e w' => ∃ v0_ : Value, e = .returned (v0_) ∧ Kd.N k38 38 w' w.heap.size (fun k_ => (P0_ k_ ∨ w.heap.size ≤ k_)) v0_ r ∧ Below w.heap.size w w' := by
 have hu38 := Try.underlying38
 have HO0 := Aside0.mk (show Kd.V (Kd.slice 38 k38) 29 w w.heap.size (fun k_ => (P0_ k_ ∨ w.heap.size ≤ k_)) (.slice A0 l0.length c0) l0 from Kd.V_mono hs0 (fun k_ hk => .inl hk))
 have HB := Aside0.mk (Below.refl w.heap.size w)
 have H : (garnerref14_All.l0 k l0 a1 (([] : List (S38))) (wrap64 ((l0.length : Int) - 1))) = some r := h
 clear h
 obtain ⟨y221, hy221⟩ : ∃ y_ : List (S38), y_ = (([] : List (S38))) := ⟨_, rfl⟩
 replace H : (garnerref14_All.l0 k l0 a1 y221 (wrap64 ((l0.length : Int) - 1))) = some r := by first | (rw [hy221]; with_reducible exact H) | (have H2_ := (Option.bind_some _ _).symm.trans H; rw [hy221]; with_reducible exact H2_) | (have H2_ := (Option.bind_some _ _).symm.trans H; with_reducible exact H2_) | with_reducible exact H | (rw [hy221]; exact H) | exact H
 have Ny221 := Aside0.mk hy221
 clear hy221
 have H' := Aside0.mk H
 clear H
 go_enter Try.func16, Try.ntmps16
 go_wp2_with (((with_reducible refine gate_dst (N := 10) rfl ?_); refine Kd.N_lit k38 _ 38 ?hg (N' := 10) ?hd (xs := ([] : List (S38))) (inner := []) (ok := (fun k_ => (P0_ k_ ∨ w.heap.size ≤ k_))) (okp := (fun k_ => (P0_ k_ ∨ w.heap.size ≤ k_))) ?hr ?hp (fun _ hk => hk) ((show ∀ k_, w.heap.size ≤ k_ → (fun k_ => (P0_ k_ ∨ w.heap.size ≤ k_)) k_ from fun k_ hk => (.inr (Nat.le_trans (below_size (by repeat ((with_reducible first | exact HB.out | apply below_alloc | apply pw_below_drewN | apply below_drew1)))) hk))) _ (Nat.le_refl _)) (Below.refl _ _) (Nat.le_refl _) (by simp) ?_; (case hd => rfl); (case hg => rfl); (case hr => first | (go_simp; done) | (go_simp; rfl)); (case hp => exact (Reps.none _ _)); intro v222 w3 ho4 hb hg_ hnew_; clear hg_ hnew_; (rw [← Ny221.out] at ho4); have n0_ := Aside0.mk (Kd.V_elder' (by (with_reducible repeat (fail)); exact HO0.out) (Kd.N_base ho4) hb); have n1_ := Aside0.mk (Kd.N_lower ho4 (below_size (by repeat ((with_reducible first | exact HB.out | apply below_alloc | apply pw_below_drewN | apply below_drew1))))); have n2_ := Aside0.mk (below_step (by repeat ((with_reducible first | exact HB.out | apply below_alloc | apply pw_below_drewN | apply below_drew1))) hb); clear HO0; clear HB; have HO0 := n0_; have HO223 := n1_; have HB := n2_; clear n0_ n1_ n2_; clear hb ho4))
 go_loopg [5, 6] k (fun kq v5 v6 w' => ∃ (x5_1 : List (S38)) (x6_1 : Int), v6 = .int .i64 x6_1 ∧ Aside0 (garnerref14_All.l0 kq l0 a1 x5_1 x6_1 = some r) ∧ Aside0 (kq ≤ k) ∧ Aside0 (Kd.V (Kd.slice 38 k38) 29 w' w.heap.size (fun k_ => (P0_ k_ ∨ w.heap.size ≤ k_) ∧ some k_ ≠ (v5 : Value).ownBlock) (.slice A0 l0.length c0) l0) ∧ Aside0 (Kd.N k38 38 w' w.heap.size (fun k_ => (P0_ k_ ∨ w.heap.size ≤ k_)) v5 x5_1) ∧ Aside0 (Below w.heap.size w w'))
 case atStart => exact ⟨(y221), (wrap64 ((l0.length : Int) - 1)), (by first | rfl | (simp; done) | (simp [*]; done)), H', ⟨Nat.le_refl _⟩, ⟨by (with_reducible repeat (fail)); exact HO0.out⟩, ⟨by (with_reducible repeat (fail)); exact HO223.out⟩, ⟨by repeat ((with_reducible first | exact HB.out | apply below_alloc | apply pw_below_drewN | apply below_drew1))⟩⟩
 case round =>
  clear H'
  try clear c1
  try clear p2
  obtain ⟨x5_1, x6_1, rfl, HA, HK1, HO_0, HO_5, HB⟩ := hrel
  cases gk with
  | zero => exact absurd HA.out (by simp [garnerref14_All.l0])
  | succ k1 =>
   have H := HA.out
   clear HA
   simp only [garnerref14_All.l0] at H
   by_cases c5 : x6_1 ≥ 0
   ·rw [if_pos c5] at H
    have c5b0 : decide (0 ≤ x6_1) = true := decide_eq_true c5
    clear c5
    have H' := Aside0.mk H
    clear H
    go_wp2
    go_loopg [5, 7] k1 (fun kq v5 v7 w' => ∃ (x5_2 : List (S38)) (x7_2 : Int), v7 = .int .i64 x7_2 ∧ Aside0 (garnerref14_All.l1 kq l0 a1 x5_2 x6_1 x7_2 = some r) ∧ Aside0 (kq ≤ k1) ∧ Aside0 (Kd.V (Kd.slice 38 k38) 29 w' w.heap.size (fun k_ => (P0_ k_ ∨ w.heap.size ≤ k_) ∧ some k_ ≠ (v5 : Value).ownBlock) (.slice A0 l0.length c0) l0) ∧ Aside0 (Kd.N k38 38 w' w.heap.size (fun k_ => (P0_ k_ ∨ w.heap.size ≤ k_)) v5 x5_2) ∧ Aside0 (Below w.heap.size w w'))
    case atStart => exact ⟨(x5_1), (0), (by first | rfl | (simp; done) | (simp [*]; done)), H', ⟨Nat.le_refl _⟩, ⟨by (with_reducible repeat (fail)); exact HO_0.out⟩, ⟨by (with_reducible repeat (fail)); exact HO_5.out⟩, ⟨by repeat ((with_reducible first | exact HB.out | apply below_alloc | apply pw_below_drewN | apply below_drew1))⟩⟩
    case round =>
     clear H'
     try clear c1
     try clear p2
     try clear c5
     try clear c5b0
     try clear p2
     obtain ⟨x5_2, x7_2, rfl, HA, HK2, HO_0, HO_5, HB⟩ := hrel
     cases gk with
     | zero => exact absurd HA.out (by simp [garnerref14_All.l1])
     | succ k2 =>
      have H := HA.out
      clear HA
      simp only [garnerref14_All.l1] at H
      by_cases c6 : 0 ≤ x6_1
      ·rw [if_pos c6] at H
       have c6b0 : decide (0 ≤ x6_1) = true := decide_eq_true c6
       clear c6
       by_cases c7 : x6_1 < (l0.length : Int)
       ·rw [if_pos c7] at H
        have c7b0 : decide (x6_1 < (l0.length : Int)) = true := decide_eq_true c7
        clear c7
        by_cases c8 : x7_2 < ((rd_L9 l0 x6_1).length : Int)
        ·rw [if_pos c8] at H
         have c8b0 : decide (x7_2 < ((rd_L9 l0 x6_1).length : Int)) = true := decide_eq_true c8
         clear c8
         by_cases c9 : 0 ≤ x7_2
         ·rw [if_pos c9] at H
          have c9b0 : decide (0 ≤ x7_2) = true := decide_eq_true c9
          clear c9
          replace H := Option.bind_eq_some_iff.mp H
          obtain ⟨t227, A100, H⟩ := H
          replace H : (garnerref14_All.l1 k2 l0 a1 t227 x6_1 (wrap64 (x7_2 + 1))) = some r := H
          have A10 := Aside0.mk A100
          clear A100
          have H' := Aside0.mk H
          clear H
          have p224 : 0 ≤ (x6_1 : Int) := of_decide_eq_true (by first | (with_reducible assumption) | assumption)
          have q224 : x6_1 < (l0.length : Int) := of_decide_eq_true (by first | (with_reducible assumption) | assumption)
          obtain ⟨ad224, A224_0, c224_0, e224, hx224_0, hl224_0, hi224_0⟩ := at_L9 (Kd.V_reads' HO_0.out).2.2 x6_1 p224 q224
          cases e224
          obtain ⟨ce224, hce224, hMe224, hcc224⟩ := Kd.V_get HO_0.out [] x6_1 p224 (by first | exact q224 | exact of_decide_eq_true (by first | (with_reducible assumption) | assumption) | (have e_ := (Kd.V_reads' HO_0.out).1; omega))
          obtain ⟨ua224_0, uc224_0, rfl, ul224_0, ge224_0⟩ := Kd.FK_slice_open hMe224
          have hv224_0 := hcc224 0 _ rfl
          rw [Nat.add_zero, show ((Kd.slice 38 k38)).sz = 1 from rfl, Nat.mul_one] at hv224_0
          replace hv224_0 := Option.some.inj (hv224_0.symm.trans hx224_0)
          injection hv224_0 with hva_ hvn_ hvc_
          rw [hva_] at ge224_0
          rw [hvc_] at ul224_0
          have HL224_0 := Aside0.mk (show Kd.V k38 38 _ w.heap.size _ _ (rd_L9 l0 x6_1) from Kd.V_mk ul224_0 ge224_0)
          clear hva_ hvn_ hvc_ ge224_0 ul224_0
          clear hcc224 hce224
          have HR224_0 := Aside0.mk hi224_0
          have HC224_0 := Aside0.mk hl224_0
          clear hi224_0 hl224_0
          replace p224 := eq_true p224
          replace q224 := eq_true q224
          have p225 : 0 ≤ (x6_1 : Int) := of_decide_eq_true (by first | (with_reducible assumption) | assumption)
          have q225 : x6_1 < (l0.length : Int) := of_decide_eq_true (by first | (with_reducible assumption) | assumption)
          obtain ⟨ad225, A225_0, c225_0, e225, hx225_0, hl225_0, hi225_0⟩ := at_L9 (Kd.V_reads' HO_0.out).2.2 x6_1 p225 q225
          obtain rfl : ad224 = ad225 := (by injection e225)
          obtain ⟨ce225, hce225, hMe225, hcc225⟩ := Kd.V_get HO_0.out [] x6_1 p225 (by first | exact q225 | exact of_decide_eq_true (by first | (with_reducible assumption) | assumption) | (have e_ := (Kd.V_reads' HO_0.out).1; omega))
          obtain ⟨ua225_0, uc225_0, rfl, ul225_0, ge225_0⟩ := Kd.FK_slice_open hMe225
          have hv225_0 := hcc225 0 _ rfl
          rw [Nat.add_zero, show ((Kd.slice 38 k38)).sz = 1 from rfl, Nat.mul_one] at hv225_0
          replace hv225_0 := Option.some.inj (hv225_0.symm.trans hx225_0)
          injection hv225_0 with hva_ hvn_ hvc_
          rw [hva_] at ge225_0
          rw [hvc_] at ul225_0
          have HL225_0 := Aside0.mk (show Kd.V k38 38 _ w.heap.size _ _ (rd_L9 l0 x6_1) from Kd.V_mk ul225_0 ge225_0)
          clear hva_ hvn_ hvc_ ge225_0 ul225_0
          clear hcc225 hce225
          have HR225_0 := Aside0.mk hi225_0
          have HC225_0 := Aside0.mk hl225_0
          clear hi225_0 hl225_0
          replace p225 := eq_true p225
          replace q225 := eq_true q225
          have ea_ := Option.some.inj (hx224_0.symm.trans hx225_0)
          injection ea_ with ea_ en_ ec_
          subst ea_
          subst ec_
          clear en_
          have p226 : 0 ≤ (x7_2 : Int) := of_decide_eq_true (by first | (with_reducible assumption) | assumption)
          have q226 : x7_2 < ((rd_L9 l0 x6_1).length : Int) := of_decide_eq_true (by first | (with_reducible assumption) | assumption)
          obtain ⟨ad226, A226_3, c226_3, e226, hx226_0, hx226_1, hx226_2, hx226_3, hx226_4, hx226_5, hx226_6, hx226_7, hl226_3, hi226_3⟩ := at_T38 (by repeat ((with_reducible exact HR225_0.out))) x7_2 p226 q226
          cases e226
          obtain ⟨ce226, hce226, hMe226, hcc226⟩ := Kd.V_get HL225_0.out z38 x7_2 p226 (by first | exact q226 | exact of_decide_eq_true (by first | (with_reducible assumption) | assumption) | (have e_ := (Kd.V_reads' HL225_0.out).1; omega))
          obtain ⟨ua226_3, uc226_3, rfl, ul226_3, ge226_3⟩ := k38_openF hMe226
          have hv226_3 := hcc226 3 _ rfl
          rw [add_field _ _ 3 (by omega)] at hv226_3
          replace hv226_3 := Option.some.inj (hv226_3.symm.trans hx226_3)
          injection hv226_3 with hva_ hvn_ hvc_
          rw [hva_] at ge226_3
          rw [hvc_] at ul226_3
          have HL226_3 := Aside0.mk (show Kd.V (Kd.int .u8) 5 _ w.heap.size _ _ ((rd_T38 (rd_L9 l0 x6_1) x7_2).f2.f1) from Kd.V_mk ul226_3 ge226_3)
          clear hva_ hvn_ hvc_ ge226_3 ul226_3
          clear hcc226 hce226
          have HR226_3 := Aside0.mk hi226_3
          have HC226_3 := Aside0.mk hl226_3
          clear hi226_3 hl226_3
          replace p226 := eq_true p226
          replace q226 := eq_true q226
          obtain ⟨Ao11, co11, eo11⟩ := Kd.N_slice HO_5.out
          subst eo11
          go_wp2_with (((with_reducible refine gate_callee (f := 48) rfl ?_); refine goesL_ (some 35) rfl rfl Try.func48 (by kernel_rfl) rfl #[.slice Ao11 x5_2.length co11, .agg #[.string ((rd_T38 (rd_L9 l0 x6_1) x7_2).f0), .bool ((rd_T38 (rd_L9 l0 x6_1) x7_2).f1), .bool ((rd_T38 (rd_L9 l0 x6_1) x7_2).f2.f0), .slice A226_3 ((rd_T38 (rd_L9 l0 x6_1) x7_2).f2.f1).length c226_3, .int .i64 ((rd_T38 (rd_L9 l0 x6_1) x7_2).f2.f2.f0), .int .i64 ((rd_T38 (rd_L9 l0 x6_1) x7_2).f2.f2.f1), .int .i64 ((rd_T38 (rd_L9 l0 x6_1) x7_2).f2.f2.f2), .int .u32 ((rd_T38 (rd_L9 l0 x6_1) x7_2).f2.f2.f3)]] rfl (by (try simp only [List.map_toArray, List.map_cons, List.map_nil]); first | done | rfl | (simp only [List.length_drop, List.length_take]; rfl)) ?_; (with_reducible refine (garnerref10_Put.calls k2 (fun k_ => (P0_ k_ ∨ w.heap.size ≤ k_)) _ _ x5_2 ((rd_T38 (rd_L9 l0 x6_1) x7_2).f0) ((rd_T38 (rd_L9 l0 x6_1) x7_2).f1) ((rd_T38 (rd_L9 l0 x6_1) x7_2).f2.f0) (fun k_ => ((P0_ k_ ∨ w.heap.size ≤ k_) ∧ some k_ ≠ (.slice Ao11 x5_2.length co11 : Value).ownBlock)) _ _ ((rd_T38 (rd_L9 l0 x6_1) x7_2).f2.f1) ((rd_T38 (rd_L9 l0 x6_1) x7_2).f2.f2.f0) ((rd_T38 (rd_L9 l0 x6_1) x7_2).f2.f2.f1) ((rd_T38 (rd_L9 l0 x6_1) x7_2).f2.f2.f2) ((rd_T38 (rd_L9 l0 x6_1) x7_2).f2.f2.f3) t227 _ ?side1 ?side2 A10.out).mono ?_); (case side1 => exact Kd.N_V (HO_5.out)); (case side2 => exact HL226_3.out); rintro e w12 ⟨v228, rfl, ho0, hb⟩; refine ⟨_, rfl, ?_⟩; have n0_ := Aside0.mk (Kd.V_elder' (by (with_reducible repeat (fail)); exact HO_0.out) (Kd.N_base ho0) hb); have n1_ := Aside0.mk (Kd.N_elder' (by (with_reducible repeat (fail)); exact HO_5.out) (Kd.N_base ho0) hb); have n2_ := Aside0.mk (Kd.V_elder' (by (with_reducible repeat (fail)); exact HL224_0.out) (Kd.N_base ho0) hb); have n3_ := Aside0.mk (Kd.V_elder' (by (with_reducible repeat (fail)); exact HL225_0.out) (Kd.N_base ho0) hb); have n4_ := Aside0.mk (Kd.V_elder' (by (with_reducible repeat (fail)); exact HL226_3.out) (Kd.N_base ho0) hb); have n5_ := Aside0.mk (Kd.N_lower (Kd.N_mono (ok' := fun k_ => (P0_ k_ ∨ w.heap.size ≤ k_)) ho0 (fun k_ hk_ => Or.elim hk_ (fun hs_ => Or.elim hs_ (fun hs_ => hs_) (fun hs_ => hs_.1)) (fun hn_ => (.inr (Nat.le_trans (below_size (by repeat ((with_reducible first | exact HB.out | apply below_alloc | apply pw_below_drewN | apply below_drew1)))) hn_))))) (below_size (by repeat ((with_reducible first | exact HB.out | apply below_alloc | apply pw_below_drewN | apply below_drew1))))); have n6_ := Aside0.mk (Kd.C_below (by repeat ((with_reducible exact HR224_0.out))) hb); have n7_ := Aside0.mk (Kd.C_below (by repeat ((with_reducible exact HR225_0.out))) hb); have n8_ := Aside0.mk (Kd.C_below (by repeat ((with_reducible exact HR226_3.out))) hb); have n9_ := Aside0.mk (below_step (by repeat ((with_reducible first | exact HB.out | apply below_alloc | apply pw_below_drewN | apply below_drew1))) hb); clear HO_0; clear HO_5; clear HL224_0; clear HL225_0; clear HL226_3; clear HR224_0; clear HR225_0; clear HR226_3; clear HB; have HO_0 := n0_; have HO_5 := n1_; have HL224_0 := n2_; have HL225_0 := n3_; have HL226_3 := n4_; have HO229 := n5_; have HR224_0 := n6_; have HR225_0 := n7_; have HR226_3 := n8_; have HB := n9_; clear n0_ n1_ n2_ n3_ n4_ n5_ n6_ n7_ n8_ n9_; (try clear hb); (try clear hb2); (try clear hk); (try clear hi); (try clear ho0)))
          go_roundg k2
          case measure => have := HK1.out; have := HK2.out; omega
          case rel => exact ⟨(t227), (wrap64 (x7_2 + 1)), (by first | rfl | (simp; done) | (simp [*]; done)), H', ⟨by have := HK1.out; have := HK2.out; omega⟩, ⟨by (with_reducible repeat (fail)); exact Kd.V_mono HO_0.out (fun _ hk => ⟨hk.1.1, hk.2⟩)⟩, ⟨by (with_reducible repeat (fail)); exact HO229.out⟩, ⟨by repeat ((with_reducible first | exact HB.out | apply below_alloc | apply pw_below_drewN | apply below_drew1))⟩⟩
         ·rw [if_neg c9] at H
          exact absurd H (by simp)
        ·rw [if_neg c8] at H
         have c8b0 : decide (x7_2 < ((rd_L9 l0 x6_1).length : Int)) = false := decide_eq_false c8
         clear c8
         have H' := Aside0.mk H
         clear H
         have p224 : 0 ≤ (x6_1 : Int) := of_decide_eq_true (by first | (with_reducible assumption) | assumption)
         have q224 : x6_1 < (l0.length : Int) := of_decide_eq_true (by first | (with_reducible assumption) | assumption)
         obtain ⟨ad224, A224_0, c224_0, e224, hx224_0, hl224_0, hi224_0⟩ := at_L9 (Kd.V_reads' HO_0.out).2.2 x6_1 p224 q224
         cases e224
         obtain ⟨ce224, hce224, hMe224, hcc224⟩ := Kd.V_get HO_0.out [] x6_1 p224 (by first | exact q224 | exact of_decide_eq_true (by first | (with_reducible assumption) | assumption) | (have e_ := (Kd.V_reads' HO_0.out).1; omega))
         obtain ⟨ua224_0, uc224_0, rfl, ul224_0, ge224_0⟩ := Kd.FK_slice_open hMe224
         have hv224_0 := hcc224 0 _ rfl
         rw [Nat.add_zero, show ((Kd.slice 38 k38)).sz = 1 from rfl, Nat.mul_one] at hv224_0
         replace hv224_0 := Option.some.inj (hv224_0.symm.trans hx224_0)
         injection hv224_0 with hva_ hvn_ hvc_
         rw [hva_] at ge224_0
         rw [hvc_] at ul224_0
         have HL224_0 := Aside0.mk (show Kd.V k38 38 _ w.heap.size _ _ (rd_L9 l0 x6_1) from Kd.V_mk ul224_0 ge224_0)
         clear hva_ hvn_ hvc_ ge224_0 ul224_0
         clear hcc224 hce224
         have HR224_0 := Aside0.mk hi224_0
         have HC224_0 := Aside0.mk hl224_0
         clear hi224_0 hl224_0
         replace p224 := eq_true p224
         replace q224 := eq_true q224
         go_wp2
         go_roundg k2
         case measure => have := HK1.out; have := HK2.out; omega
         case rel => exact ⟨(x5_2), (wrap64 (x6_1 - 1)), (by first | rfl | (simp; done) | (simp [*]; done)), H', ⟨by have := HK1.out; have := HK2.out; omega⟩, ⟨by (with_reducible repeat (fail)); exact HO_0.out⟩, ⟨by (with_reducible repeat (fail)); exact HO_5.out⟩, ⟨by repeat ((with_reducible first | exact HB.out | apply below_alloc | apply pw_below_drewN | apply below_drew1))⟩⟩
       ·rw [if_neg c7] at H
        exact absurd H (by simp)
      ·rw [if_neg c6] at H
       exact absurd H (by simp)
   ·rw [if_neg c5] at H
    have c5b0 : decide (0 ≤ x6_1) = false := decide_eq_false c5
    clear c5
    obtain ⟨y230, hy230⟩ : ∃ y_ : List (S38), y_ = (([] : List (S38))) := ⟨_, rfl⟩
    replace H : (garnerref14_All.l2 k1 a1 x5_1 y230 0) = some r := by first | (rw [hy230]; with_reducible exact H) | (have H2_ := (Option.bind_some _ _).symm.trans H; rw [hy230]; with_reducible exact H2_) | (have H2_ := (Option.bind_some _ _).symm.trans H; with_reducible exact H2_) | with_reducible exact H | (rw [hy230]; exact H) | exact H
    have Ny230 := Aside0.mk hy230
    clear hy230
    have H' := Aside0.mk H
    clear H
    go_wp2_with (((with_reducible refine gate_dst (N := 36) rfl ?_); refine Kd.N_lit k38 _ 38 ?hg (N' := 36) ?hd (xs := ([] : List (S38))) (inner := []) (ok := (fun k_ => (P0_ k_ ∨ w.heap.size ≤ k_) ∧ some k_ ≠ (u5 : Value).ownBlock)) (okp := (fun k_ => (P0_ k_ ∨ w.heap.size ≤ k_) ∧ some k_ ≠ (u5 : Value).ownBlock)) ?hr ?hp (fun _ hk => hk) ((show ∀ k_, wr.heap.size ≤ k_ → (fun k_ => (P0_ k_ ∨ w.heap.size ≤ k_) ∧ some k_ ≠ (u5 : Value).ownBlock) k_ from fun k_ hk => ⟨(.inr (Nat.le_trans (below_size (by repeat ((with_reducible first | exact HB.out | apply below_alloc | apply pw_below_drewN | apply below_drew1)))) hk)), Kd.fresh' (Kd.N_lt (by (with_reducible repeat (fail)); exact HO_5.out)) k_ hk⟩) _ (Nat.le_refl _)) (Below.refl _ _) (Nat.le_refl _) (by simp) ?_; (case hd => rfl); (case hg => rfl); (case hr => first | (go_simp; done) | (go_simp; rfl)); (case hp => exact (Reps.none _ _)); intro v231 w13 ho14 hb hg_ hnew_; clear hg_ hnew_; (rw [← Ny230.out] at ho14); have n0_ := Aside0.mk (Kd.V_elder' (by (with_reducible repeat (fail)); exact HO_0.out) (Kd.N_base ho14) hb); have n1_ := Aside0.mk (Kd.N_elder' (by (with_reducible repeat (fail)); exact HO_5.out) (Kd.N_base ho14) hb); have n2_ := Aside0.mk (Kd.N_lower ho14 (below_size (by repeat ((with_reducible first | exact HB.out | apply below_alloc | apply pw_below_drewN | apply below_drew1))))); have n3_ := Aside0.mk (below_step (by repeat ((with_reducible first | exact HB.out | apply below_alloc | apply pw_below_drewN | apply below_drew1))) hb); clear HO_0; clear HO_5; clear HB; have HO_0 := n0_; have HO_5 := n1_; have HO232 := n2_; have HB := n3_; clear n0_ n1_ n2_ n3_; clear hb ho14))
    go_loopg [8, 9] k1 (fun kq v8 v9 w' => ∃ (x8_2 : List (S38)) (x9_2 : Int), v9 = .int .i64 x9_2 ∧ Aside0 (garnerref14_All.l2 kq a1 x5_1 x8_2 x9_2 = some r) ∧ Aside0 (kq ≤ k1) ∧ Aside0 (Kd.N k38 38 w' w.heap.size (fun k_ => (P0_ k_ ∨ w.heap.size ≤ k_) ∧ some k_ ≠ (v8 : Value).ownBlock) u5 x5_1) ∧ Aside0 (Kd.N k38 38 w' w.heap.size (fun k_ => (P0_ k_ ∨ w.heap.size ≤ k_) ∧ some k_ ≠ (u5 : Value).ownBlock) v8 x8_2) ∧ Aside0 (Below w.heap.size w w'))
    case atStart => exact ⟨(y230), (0), (by first | rfl | (simp; done) | (simp [*]; done)), H', ⟨Nat.le_refl _⟩, ⟨by (with_reducible repeat (fail)); exact HO_5.out⟩, ⟨by (with_reducible repeat (fail)); exact HO232.out⟩, ⟨by repeat ((with_reducible first | exact HB.out | apply below_alloc | apply pw_below_drewN | apply below_drew1))⟩⟩
    case round =>
     clear H'
     try clear c1
     try clear c2
     try clear p2
     try clear q2
     try clear hx2
     try clear c4
     try clear c5
     try clear c5b0
     try clear c6
     try clear c6b0
     try clear p6
     try clear c7
     try clear c7b0
     try clear c8
     try clear c8b0
     try clear c9
     try clear c9b0
     try clear hx224_0
     try clear hx225_0
     try clear hx226_0
     try clear hx226_1
     try clear hx226_2
     try clear hx226_3
     try clear hx226_4
     try clear hx226_5
     try clear hx226_6
     try clear hx226_7
     try clear p2
     try clear p224
     try clear p225
     try clear p226
     try clear q224
     try clear q225
     try clear q226
     obtain ⟨x8_2, x9_2, rfl, HA, HK2, HO_5, HO_8, HB⟩ := hrel
     cases gk with
     | zero => exact absurd HA.out (by simp [garnerref14_All.l2])
     | succ k2 =>
      have H := HA.out
      clear HA
      simp only [garnerref14_All.l2] at H
      by_cases c15 : x9_2 < (x5_1.length : Int)
      ·rw [if_pos c15] at H
       have c15b0 : decide (x9_2 < (x5_1.length : Int)) = true := decide_eq_true c15
       clear c15
       by_cases c16 : a1 = true
       ·subst c16
        have H1 : (if 0 ≤ x9_2 then (if ((rd_T38 x5_1 x9_2).f1 = true) then (garnerref14_All.l2 k2 true x5_1 x8_2 (wrap64 (x9_2 + 1))) else (if x8_2.length < 1599289640401 then (garnerref14_All.l2 k2 true x5_1 (x8_2 ++ [(⟨(rd_T38 x5_1 x9_2).f0, (rd_T38 x5_1 x9_2).f1, (⟨(rd_T38 x5_1 x9_2).f2.f0, (rd_T38 x5_1 x9_2).f2.f1, (⟨(rd_T38 x5_1 x9_2).f2.f2.f0, (rd_T38 x5_1 x9_2).f2.f2.f1, (rd_T38 x5_1 x9_2).f2.f2.f2, (rd_T38 x5_1 x9_2).f2.f2.f3⟩ : S34)⟩ : S36)⟩ : S38)]) (wrap64 (x9_2 + 1))) else (none))) else (none)) = some r := by rw [if_pos rfl] at H; exact H
        clear H
        have H := H1
        clear H1
        by_cases c17 : 0 ≤ x9_2
        ·rw [if_pos c17] at H
         have c17b0 : decide (0 ≤ x9_2) = true := decide_eq_true c17
         clear c17
         obtain ⟨bq18, hbq18⟩ : ∃ b_ : Bool, b_ = ((rd_T38 x5_1 x9_2).f1) := ⟨_, rfl⟩
         replace H : (if (bq18 = true) then (garnerref14_All.l2 k2 true x5_1 x8_2 (wrap64 (x9_2 + 1))) else (if x8_2.length < 1599289640401 then (garnerref14_All.l2 k2 true x5_1 (x8_2 ++ [(⟨(rd_T38 x5_1 x9_2).f0, bq18, (⟨(rd_T38 x5_1 x9_2).f2.f0, (rd_T38 x5_1 x9_2).f2.f1, (⟨(rd_T38 x5_1 x9_2).f2.f2.f0, (rd_T38 x5_1 x9_2).f2.f2.f1, (rd_T38 x5_1 x9_2).f2.f2.f2, (rd_T38 x5_1 x9_2).f2.f2.f3⟩ : S34)⟩ : S36)⟩ : S38)]) (wrap64 (x9_2 + 1))) else (none))) = some r := by rw [← hbq18] at H; exact H
         have Nbq18 := Aside0.mk hbq18
         clear hbq18
         by_cases c19 : (bq18 = true)
         ·subst c19
          have H1 : (garnerref14_All.l2 k2 true x5_1 x8_2 (wrap64 (x9_2 + 1))) = some r := by rw [if_pos rfl] at H; exact H
          clear H
          have H := H1
          clear H1
          have H' := Aside0.mk H
          clear H
          obtain ⟨Ao20, co20, eo20⟩ := Kd.N_slice HO_5.out
          subst eo20
          have p233 : 0 ≤ (x9_2 : Int) := of_decide_eq_true (by first | (with_reducible assumption) | assumption)
          have q233 : x9_2 < (x5_1.length : Int) := of_decide_eq_true (by first | (with_reducible assumption) | assumption)
          obtain ⟨ad233, A233_3, c233_3, e233, hx233_0, hx233_1, hx233_2, hx233_3, hx233_4, hx233_5, hx233_6, hx233_7, hl233_3, hi233_3⟩ := at_T38 (Kd.N_reads' HO_5.out).2.2 x9_2 p233 q233
          (try rw [← Nbq18.out] at hx233_1)
          (try rw [← Nbq18.out] at hx233_2)
          cases e233
          obtain ⟨ce233, hce233, hMe233, hcc233⟩ := Kd.N_get HO_5.out z38 x9_2 p233 (by first | exact q233 | exact of_decide_eq_true (by first | (with_reducible assumption) | assumption) | (have e_ := (Kd.N_reads' HO_5.out).1; omega))
          obtain ⟨ua233_3, uc233_3, rfl, ul233_3, ge233_3⟩ := k38_openF hMe233
          have hv233_3 := hcc233 3 _ rfl
          rw [add_field _ _ 3 (by omega)] at hv233_3
          replace hv233_3 := Option.some.inj (hv233_3.symm.trans hx233_3)
          injection hv233_3 with hva_ hvn_ hvc_
          rw [hva_] at ge233_3
          rw [hvc_] at ul233_3
          have HL233_3 := Aside0.mk (show Kd.V (Kd.int .u8) 5 _ w.heap.size _ _ ((rd_T38 x5_1 x9_2).f2.f1) from Kd.V_mk ul233_3 ge233_3)
          clear hva_ hvn_ hvc_ ge233_3 ul233_3
          clear hcc233 hce233
          have HR233_3 := Aside0.mk hi233_3
          have HC233_3 := Aside0.mk hl233_3
          clear hi233_3 hl233_3
          replace p233 := eq_true p233
          replace q233 := eq_true q233
          go_wp2
          go_roundg k2
          case measure => have := HK1.out; have := HK2.out; omega
          case rel => exact ⟨(x8_2), (wrap64 (x9_2 + 1)), (by first | rfl | (simp; done) | (simp [*]; done)), H', ⟨by have := HK1.out; have := HK2.out; omega⟩, ⟨by (with_reducible repeat (fail)); exact HO_5.out⟩, ⟨by (with_reducible repeat (fail)); exact HO_8.out⟩, ⟨by repeat ((with_reducible first | exact HB.out | apply below_alloc | apply pw_below_drewN | apply below_drew1))⟩⟩
         ·replace c19 := Bool.eq_false_iff.mpr c19
          subst c19
          have H1 : (if x8_2.length < 1599289640401 then (garnerref14_All.l2 k2 true x5_1 (x8_2 ++ [(⟨(rd_T38 x5_1 x9_2).f0, false, (⟨(rd_T38 x5_1 x9_2).f2.f0, (rd_T38 x5_1 x9_2).f2.f1, (⟨(rd_T38 x5_1 x9_2).f2.f2.f0, (rd_T38 x5_1 x9_2).f2.f2.f1, (rd_T38 x5_1 x9_2).f2.f2.f2, (rd_T38 x5_1 x9_2).f2.f2.f3⟩ : S34)⟩ : S36)⟩ : S38)]) (wrap64 (x9_2 + 1))) else (none)) = some r := by rw [if_neg (show ¬ (false = true) by decide)] at H; exact H
          clear H
          have H := H1
          clear H1
          by_cases c21 : x8_2.length < 1599289640401
          ·rw [if_pos c21] at H
           have LMc21 := Aside0.mk c21
           clear c21
           obtain ⟨y235, hy235⟩ : ∃ y_ : List (S38), y_ = (x8_2 ++ [(⟨(rd_T38 x5_1 x9_2).f0, false, (⟨(rd_T38 x5_1 x9_2).f2.f0, (rd_T38 x5_1 x9_2).f2.f1, (⟨(rd_T38 x5_1 x9_2).f2.f2.f0, (rd_T38 x5_1 x9_2).f2.f2.f1, (rd_T38 x5_1 x9_2).f2.f2.f2, (rd_T38 x5_1 x9_2).f2.f2.f3⟩ : S34)⟩ : S36)⟩ : S38)]) := ⟨_, rfl⟩
           replace H : (garnerref14_All.l2 k2 true x5_1 y235 (wrap64 (x9_2 + 1))) = some r := by first | (rw [hy235]; with_reducible exact H) | (have H2_ := (Option.bind_some _ _).symm.trans H; rw [hy235]; with_reducible exact H2_) | (have H2_ := (Option.bind_some _ _).symm.trans H; with_reducible exact H2_) | with_reducible exact H | (rw [hy235]; exact H) | exact H
           have Ny235 := Aside0.mk hy235
           clear hy235
           have H' := Aside0.mk H
           clear H
           obtain ⟨Ao22, co22, eo22⟩ := Kd.N_slice HO_5.out
           subst eo22
           have p233 : 0 ≤ (x9_2 : Int) := of_decide_eq_true (by first | (with_reducible assumption) | assumption)
           have q233 : x9_2 < (x5_1.length : Int) := of_decide_eq_true (by first | (with_reducible assumption) | assumption)
           obtain ⟨ad233, A233_3, c233_3, e233, hx233_0, hx233_1, hx233_2, hx233_3, hx233_4, hx233_5, hx233_6, hx233_7, hl233_3, hi233_3⟩ := at_T38 (Kd.N_reads' HO_5.out).2.2 x9_2 p233 q233
           (try rw [← Nbq18.out] at hx233_1)
           (try rw [← Nbq18.out] at hx233_2)
           cases e233
           obtain ⟨ce233, hce233, hMe233, hcc233⟩ := Kd.N_get HO_5.out z38 x9_2 p233 (by first | exact q233 | exact of_decide_eq_true (by first | (with_reducible assumption) | assumption) | (have e_ := (Kd.N_reads' HO_5.out).1; omega))
           obtain ⟨ua233_3, uc233_3, rfl, ul233_3, ge233_3⟩ := k38_openF hMe233
           have hv233_3 := hcc233 3 _ rfl
           rw [add_field _ _ 3 (by omega)] at hv233_3
           replace hv233_3 := Option.some.inj (hv233_3.symm.trans hx233_3)
           injection hv233_3 with hva_ hvn_ hvc_
           rw [hva_] at ge233_3
           rw [hvc_] at ul233_3
           have HL233_3 := Aside0.mk (show Kd.V (Kd.int .u8) 5 _ w.heap.size _ _ ((rd_T38 x5_1 x9_2).f2.f1) from Kd.V_mk ul233_3 ge233_3)
           clear hva_ hvn_ hvc_ ge233_3 ul233_3
           clear hcc233 hce233
           have HR233_3 := Aside0.mk hi233_3
           have HC233_3 := Aside0.mk hl233_3
           clear hi233_3 hl233_3
           replace p233 := eq_true p233
           replace q233 := eq_true q233
           have p234 : 0 ≤ (x9_2 : Int) := of_decide_eq_true (by first | (with_reducible assumption) | assumption)
           have q234 : x9_2 < (x5_1.length : Int) := of_decide_eq_true (by first | (with_reducible assumption) | assumption)
           obtain ⟨ad234, A234_3, c234_3, e234, hx234_0, hx234_1, hx234_2, hx234_3, hx234_4, hx234_5, hx234_6, hx234_7, hl234_3, hi234_3⟩ := at_T38 (Kd.N_reads' HO_5.out).2.2 x9_2 p234 q234
           (try rw [← Nbq18.out] at hx234_1)
           (try rw [← Nbq18.out] at hx234_2)
           obtain rfl : ad233 = ad234 := (by injection e234)
           obtain ⟨ce234, hce234, hMe234, hcc234⟩ := Kd.N_get HO_5.out z38 x9_2 p234 (by first | exact q234 | exact of_decide_eq_true (by first | (with_reducible assumption) | assumption) | (have e_ := (Kd.N_reads' HO_5.out).1; omega))
           obtain ⟨ua234_3, uc234_3, rfl, ul234_3, ge234_3⟩ := k38_openF hMe234
           have hv234_3 := hcc234 3 _ rfl
           rw [add_field _ _ 3 (by omega)] at hv234_3
           replace hv234_3 := Option.some.inj (hv234_3.symm.trans hx234_3)
           injection hv234_3 with hva_ hvn_ hvc_
           rw [hva_] at ge234_3
           rw [hvc_] at ul234_3
           have HL234_3 := Aside0.mk (show Kd.V (Kd.int .u8) 5 _ w.heap.size _ _ ((rd_T38 x5_1 x9_2).f2.f1) from Kd.V_mk ul234_3 ge234_3)
           clear hva_ hvn_ hvc_ ge234_3 ul234_3
           clear hcc234 hce234
           have HR234_3 := Aside0.mk hi234_3
           have HC234_3 := Aside0.mk hl234_3
           clear hi234_3 hl234_3
           replace p234 := eq_true p234
           replace q234 := eq_true q234
           have ea_ := Option.some.inj (hx233_3.symm.trans hx234_3)
           injection ea_ with ea_ en_ ec_
           subst ea_
           subst ec_
           clear en_
           go_wp2_with (((with_reducible refine gate_builtin (b := .append) (xs := #[.tmp 53, .tmp 58]) rfl ?_); at_builtin; refine Kd.N_append k38 (w0 := w) w.heap.size rfl (.tmp 53) (.tmp 58) 29 38 (.agg #[(.string ⟨#[]⟩), (.bool false), (.bool false), (.slice none 0 0), (.int .i64 0), (.int .i64 0), (.int .i64 0), (.int .u32 0)]) 88 rfl Try.underlying29 info38 rfl (by decide) (by omega) u8 x8_2 (⟨(rd_T38 x5_1 x9_2).f0, false, (⟨(rd_T38 x5_1 x9_2).f2.f0, (rd_T38 x5_1 x9_2).f2.f1, (⟨(rd_T38 x5_1 x9_2).f2.f2.f0, (rd_T38 x5_1 x9_2).f2.f2.f1, (rd_T38 x5_1 x9_2).f2.f2.f2, (rd_T38 x5_1 x9_2).f2.f2.f3⟩ : S34)⟩ : S36)⟩ : S38) [.string ((rd_T38 x5_1 x9_2).f0), .bool false, .bool ((rd_T38 x5_1 x9_2).f2.f0), .slice A233_3 ((rd_T38 x5_1 x9_2).f2.f1).length c233_3, .int .i64 ((rd_T38 x5_1 x9_2).f2.f2.f0), .int .i64 ((rd_T38 x5_1 x9_2).f2.f2.f1), .int .i64 ((rd_T38 x5_1 x9_2).f2.f2.f2), .int .u32 ((rd_T38 x5_1 x9_2).f2.f2.f3)] (fun k_ => (P0_ k_ ∨ w.heap.size ≤ k_) ∧ some k_ ≠ (.slice (some ad233) x5_1.length co22 : Value).ownBlock) (fun k_ => ((fun k_ => (P0_ k_ ∨ w.heap.size ≤ k_) ∧ some k_ ≠ (.slice (some ad233) x5_1.length co22 : Value).ownBlock)) k_ ∧ some k_ ≠ (u8 : Value).ownBlock) rfl rfl ?aP (fun _ hk => hk) ?aF ?aO ?aB ?aS ?aL ?_; (case aP => exact (k38_mkF _ _ (⟨(rd_T38 x5_1 x9_2).f0, false, (⟨(rd_T38 x5_1 x9_2).f2.f0, (rd_T38 x5_1 x9_2).f2.f1, (⟨(rd_T38 x5_1 x9_2).f2.f2.f0, (rd_T38 x5_1 x9_2).f2.f2.f1, (rd_T38 x5_1 x9_2).f2.f2.f2, (rd_T38 x5_1 x9_2).f2.f2.f3⟩ : S34)⟩ : S36)⟩ : S38) (Kd.V_reads' (Kd.V_mono (ok' := (fun k_ => ((fun k_ => (P0_ k_ ∨ w.heap.size ≤ k_) ∧ some k_ ≠ (.slice (some ad233) x5_1.length co22 : Value).ownBlock)) k_ ∧ some k_ ≠ (u8 : Value).ownBlock)) (HL234_3.out) (fun k_ hk => ⟨⟨hk.1.1, hk.2⟩, hk.1.2⟩))).2.1 (Kd.V_F (Kd.V_mono (ok' := (fun k_ => ((fun k_ => (P0_ k_ ∨ w.heap.size ≤ k_) ∧ some k_ ≠ (.slice (some ad233) x5_1.length co22 : Value).ownBlock)) k_ ∧ some k_ ≠ (u8 : Value).ownBlock)) (HL234_3.out) (fun k_ hk => ⟨⟨hk.1.1, hk.2⟩, hk.1.2⟩))))); (case aB => exact (by repeat ((with_reducible first | exact HB.out | apply below_alloc | apply pw_below_drewN | apply below_drew1)))); (case aF => exact (fun k_ hk => ⟨(.inr (Nat.le_trans (below_size (by repeat ((with_reducible first | exact HB.out | apply below_alloc | apply pw_below_drewN | apply below_drew1)))) hk)), Kd.fresh' (Kd.N_lt (by (with_reducible repeat (fail)); exact HO_5.out)) k_ hk⟩)); (case aO => exact (by (with_reducible repeat (fail)); exact HO_8.out)); (case aS => exact (below_size (by repeat ((with_reducible first | exact HB.out | apply below_alloc | apply pw_below_drewN | apply below_drew1))))); (case aL => have := LMc21.out; omega); intro v236 w23 ho hb hg hat; rw [← Ny235.out] at ho; have n0_ := Aside0.mk (Kd.N_afterv (ok := (fun k_ => (P0_ k_ ∨ w.heap.size ≤ k_))) (by (with_reducible repeat (fail)); exact HO_5.out) hg hat); have n1_ := Aside0.mk (Kd.V_afterv (ok := (fun k_ => (P0_ k_ ∨ w.heap.size ≤ k_) ∧ some k_ ≠ (.slice (some ad233) x5_1.length co22 : Value).ownBlock)) (by (with_reducible repeat (fail)); exact Kd.V_mono HL233_3.out (fun _ hk => ⟨⟨hk.1.1, hk.2⟩, hk.1.2⟩)) hg hat); have n2_ := Aside0.mk (Kd.V_afterv (ok := (fun k_ => (P0_ k_ ∨ w.heap.size ≤ k_) ∧ some k_ ≠ (.slice (some ad233) x5_1.length co22 : Value).ownBlock)) (by (with_reducible repeat (fail)); exact Kd.V_mono HL234_3.out (fun _ hk => ⟨⟨hk.1.1, hk.2⟩, hk.1.2⟩)) hg hat); have n3_ := Aside0.mk (hb); have n4_ := Aside0.mk (ho); clear HO_5; clear HL233_3; clear HL234_3; clear HB; clear HO_8; have HO_5 := n0_; have HL233_3 := n1_; have HL234_3 := n2_; have HB := n3_; have HO237 := n4_; clear n0_ n1_ n2_ n3_ n4_; clear ho hb hg hat))
           go_roundg k2
           case measure => have := HK1.out; have := HK2.out; omega
           case rel => exact ⟨(y235), (wrap64 (x9_2 + 1)), (by first | rfl | (simp; done) | (simp [*]; done)), H', ⟨by have := HK1.out; have := HK2.out; omega⟩, ⟨by (with_reducible repeat (fail)); exact HO_5.out⟩, ⟨by (with_reducible repeat (fail)); exact HO237.out⟩, ⟨by repeat ((with_reducible first | exact HB.out | apply below_alloc | apply pw_below_drewN | apply below_drew1))⟩⟩
          ·rw [if_neg c21] at H
           exact absurd H (by simp)
        ·rw [if_neg c17] at H
         exact absurd H (by simp)
       ·replace c16 := Bool.eq_false_iff.mpr c16
        subst c16
        have H1 : (if 0 ≤ x9_2 then (if x8_2.length < 1599289640401 then (garnerref14_All.l2 k2 false x5_1 (x8_2 ++ [(⟨(rd_T38 x5_1 x9_2).f0, (rd_T38 x5_1 x9_2).f1, (⟨(rd_T38 x5_1 x9_2).f2.f0, (rd_T38 x5_1 x9_2).f2.f1, (⟨(rd_T38 x5_1 x9_2).f2.f2.f0, (rd_T38 x5_1 x9_2).f2.f2.f1, (rd_T38 x5_1 x9_2).f2.f2.f2, (rd_T38 x5_1 x9_2).f2.f2.f3⟩ : S34)⟩ : S36)⟩ : S38)]) (wrap64 (x9_2 + 1))) else (none)) else (none)) = some r := by rw [if_neg (show ¬ (false = true) by decide)] at H; exact H
        clear H
        have H := H1
        clear H1
        by_cases c24 : 0 ≤ x9_2
        ·rw [if_pos c24] at H
         have c24b0 : decide (0 ≤ x9_2) = true := decide_eq_true c24
         clear c24
         by_cases c25 : x8_2.length < 1599289640401
         ·rw [if_pos c25] at H
          have LMc25 := Aside0.mk c25
          clear c25
          obtain ⟨y239, hy239⟩ : ∃ y_ : List (S38), y_ = (x8_2 ++ [(⟨(rd_T38 x5_1 x9_2).f0, (rd_T38 x5_1 x9_2).f1, (⟨(rd_T38 x5_1 x9_2).f2.f0, (rd_T38 x5_1 x9_2).f2.f1, (⟨(rd_T38 x5_1 x9_2).f2.f2.f0, (rd_T38 x5_1 x9_2).f2.f2.f1, (rd_T38 x5_1 x9_2).f2.f2.f2, (rd_T38 x5_1 x9_2).f2.f2.f3⟩ : S34)⟩ : S36)⟩ : S38)]) := ⟨_, rfl⟩
          replace H : (garnerref14_All.l2 k2 false x5_1 y239 (wrap64 (x9_2 + 1))) = some r := by first | (rw [hy239]; with_reducible exact H) | (have H2_ := (Option.bind_some _ _).symm.trans H; rw [hy239]; with_reducible exact H2_) | (have H2_ := (Option.bind_some _ _).symm.trans H; with_reducible exact H2_) | with_reducible exact H | (rw [hy239]; exact H) | exact H
          have Ny239 := Aside0.mk hy239
          clear hy239
          have H' := Aside0.mk H
          clear H
          obtain ⟨Ao26, co26, eo26⟩ := Kd.N_slice HO_5.out
          subst eo26
          have p238 : 0 ≤ (x9_2 : Int) := of_decide_eq_true (by first | (with_reducible assumption) | assumption)
          have q238 : x9_2 < (x5_1.length : Int) := of_decide_eq_true (by first | (with_reducible assumption) | assumption)
          obtain ⟨ad238, A238_3, c238_3, e238, hx238_0, hx238_1, hx238_2, hx238_3, hx238_4, hx238_5, hx238_6, hx238_7, hl238_3, hi238_3⟩ := at_T38 (Kd.N_reads' HO_5.out).2.2 x9_2 p238 q238
          cases e238
          obtain ⟨ce238, hce238, hMe238, hcc238⟩ := Kd.N_get HO_5.out z38 x9_2 p238 (by first | exact q238 | exact of_decide_eq_true (by first | (with_reducible assumption) | assumption) | (have e_ := (Kd.N_reads' HO_5.out).1; omega))
          obtain ⟨ua238_3, uc238_3, rfl, ul238_3, ge238_3⟩ := k38_openF hMe238
          have hv238_3 := hcc238 3 _ rfl
          rw [add_field _ _ 3 (by omega)] at hv238_3
          replace hv238_3 := Option.some.inj (hv238_3.symm.trans hx238_3)
          injection hv238_3 with hva_ hvn_ hvc_
          rw [hva_] at ge238_3
          rw [hvc_] at ul238_3
          have HL238_3 := Aside0.mk (show Kd.V (Kd.int .u8) 5 _ w.heap.size _ _ ((rd_T38 x5_1 x9_2).f2.f1) from Kd.V_mk ul238_3 ge238_3)
          clear hva_ hvn_ hvc_ ge238_3 ul238_3
          clear hcc238 hce238
          have HR238_3 := Aside0.mk hi238_3
          have HC238_3 := Aside0.mk hl238_3
          clear hi238_3 hl238_3
          replace p238 := eq_true p238
          replace q238 := eq_true q238
          go_wp2_with (((with_reducible refine gate_builtin (b := .append) (xs := #[.tmp 53, .tmp 58]) rfl ?_); at_builtin; refine Kd.N_append k38 (w0 := w) w.heap.size rfl (.tmp 53) (.tmp 58) 29 38 (.agg #[(.string ⟨#[]⟩), (.bool false), (.bool false), (.slice none 0 0), (.int .i64 0), (.int .i64 0), (.int .i64 0), (.int .u32 0)]) 88 rfl Try.underlying29 info38 rfl (by decide) (by omega) u8 x8_2 (⟨(rd_T38 x5_1 x9_2).f0, (rd_T38 x5_1 x9_2).f1, (⟨(rd_T38 x5_1 x9_2).f2.f0, (rd_T38 x5_1 x9_2).f2.f1, (⟨(rd_T38 x5_1 x9_2).f2.f2.f0, (rd_T38 x5_1 x9_2).f2.f2.f1, (rd_T38 x5_1 x9_2).f2.f2.f2, (rd_T38 x5_1 x9_2).f2.f2.f3⟩ : S34)⟩ : S36)⟩ : S38) [.string ((rd_T38 x5_1 x9_2).f0), .bool ((rd_T38 x5_1 x9_2).f1), .bool ((rd_T38 x5_1 x9_2).f2.f0), .slice A238_3 ((rd_T38 x5_1 x9_2).f2.f1).length c238_3, .int .i64 ((rd_T38 x5_1 x9_2).f2.f2.f0), .int .i64 ((rd_T38 x5_1 x9_2).f2.f2.f1), .int .i64 ((rd_T38 x5_1 x9_2).f2.f2.f2), .int .u32 ((rd_T38 x5_1 x9_2).f2.f2.f3)] (fun k_ => (P0_ k_ ∨ w.heap.size ≤ k_) ∧ some k_ ≠ (.slice (some ad238) x5_1.length co26 : Value).ownBlock) (fun k_ => ((fun k_ => (P0_ k_ ∨ w.heap.size ≤ k_) ∧ some k_ ≠ (.slice (some ad238) x5_1.length co26 : Value).ownBlock)) k_ ∧ some k_ ≠ (u8 : Value).ownBlock) rfl rfl ?aP (fun _ hk => hk) ?aF ?aO ?aB ?aS ?aL ?_; (case aP => exact (k38_mkF _ _ (⟨(rd_T38 x5_1 x9_2).f0, (rd_T38 x5_1 x9_2).f1, (⟨(rd_T38 x5_1 x9_2).f2.f0, (rd_T38 x5_1 x9_2).f2.f1, (⟨(rd_T38 x5_1 x9_2).f2.f2.f0, (rd_T38 x5_1 x9_2).f2.f2.f1, (rd_T38 x5_1 x9_2).f2.f2.f2, (rd_T38 x5_1 x9_2).f2.f2.f3⟩ : S34)⟩ : S36)⟩ : S38) (Kd.V_reads' (Kd.V_mono (ok' := (fun k_ => ((fun k_ => (P0_ k_ ∨ w.heap.size ≤ k_) ∧ some k_ ≠ (.slice (some ad238) x5_1.length co26 : Value).ownBlock)) k_ ∧ some k_ ≠ (u8 : Value).ownBlock)) (HL238_3.out) (fun k_ hk => ⟨⟨hk.1.1, hk.2⟩, hk.1.2⟩))).2.1 (Kd.V_F (Kd.V_mono (ok' := (fun k_ => ((fun k_ => (P0_ k_ ∨ w.heap.size ≤ k_) ∧ some k_ ≠ (.slice (some ad238) x5_1.length co26 : Value).ownBlock)) k_ ∧ some k_ ≠ (u8 : Value).ownBlock)) (HL238_3.out) (fun k_ hk => ⟨⟨hk.1.1, hk.2⟩, hk.1.2⟩))))); (case aB => exact (by repeat ((with_reducible first | exact HB.out | apply below_alloc | apply pw_below_drewN | apply below_drew1)))); (case aF => exact (fun k_ hk => ⟨(.inr (Nat.le_trans (below_size (by repeat ((with_reducible first | exact HB.out | apply below_alloc | apply pw_below_drewN | apply below_drew1)))) hk)), Kd.fresh' (Kd.N_lt (by (with_reducible repeat (fail)); exact HO_5.out)) k_ hk⟩)); (case aO => exact (by (with_reducible repeat (fail)); exact HO_8.out)); (case aS => exact (below_size (by repeat ((with_reducible first | exact HB.out | apply below_alloc | apply pw_below_drewN | apply below_drew1))))); (case aL => have := LMc25.out; omega); intro v240 w27 ho hb hg hat; rw [← Ny239.out] at ho; have n0_ := Aside0.mk (Kd.N_afterv (ok := (fun k_ => (P0_ k_ ∨ w.heap.size ≤ k_))) (by (with_reducible repeat (fail)); exact HO_5.out) hg hat); have n1_ := Aside0.mk (Kd.V_afterv (ok := (fun k_ => (P0_ k_ ∨ w.heap.size ≤ k_) ∧ some k_ ≠ (.slice (some ad238) x5_1.length co26 : Value).ownBlock)) (by (with_reducible repeat (fail)); exact Kd.V_mono HL238_3.out (fun _ hk => ⟨⟨hk.1.1, hk.2⟩, hk.1.2⟩)) hg hat); have n2_ := Aside0.mk (hb); have n3_ := Aside0.mk (ho); clear HO_5; clear HL238_3; clear HB; clear HO_8; have HO_5 := n0_; have HL238_3 := n1_; have HB := n2_; have HO241 := n3_; clear n0_ n1_ n2_ n3_; clear ho hb hg hat))
          go_roundg k2
          case measure => have := HK1.out; have := HK2.out; omega
          case rel => exact ⟨(y239), (wrap64 (x9_2 + 1)), (by first | rfl | (simp; done) | (simp [*]; done)), H', ⟨by have := HK1.out; have := HK2.out; omega⟩, ⟨by (with_reducible repeat (fail)); exact HO_5.out⟩, ⟨by (with_reducible repeat (fail)); exact HO241.out⟩, ⟨by repeat ((with_reducible first | exact HB.out | apply below_alloc | apply pw_below_drewN | apply below_drew1))⟩⟩
         ·rw [if_neg c25] at H
          exact absurd H (by simp)
        ·rw [if_neg c24] at H
         exact absurd H (by simp)
      ·rw [if_neg c15] at H
       have c15b0 : decide (x9_2 < (x5_1.length : Int)) = false := decide_eq_false c15
       clear c15
       obtain rfl := Option.some.inj H
       obtain ⟨Ao28, co28, eo28⟩ := Kd.N_slice HO_5.out
       subst eo28
       go_wp2
       go_ret
       exact ⟨_, by first | rfl | (simp [errW_none, errW_some] <;> rfl) | (simp [*, errW_none, errW_some] <;> rfl), by (with_reducible repeat (fail)); exact Kd.N_mono HO_8.out (fun _ hk => hk.1), by repeat ((with_reducible first | exact HB.out | apply below_alloc | apply pw_below_drewN | apply below_drew1))⟩

end Go.Proofs.Ytgoidimipchejaa.PT
-- REPACKED
