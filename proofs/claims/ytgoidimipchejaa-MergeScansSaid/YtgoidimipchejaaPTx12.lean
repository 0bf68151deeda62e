/- Of the laws that this set serves: the Go functions come to the printed Lean functions, and the law's row out of its plain statement; no condition beyond those that each theorem names. Written by a program of this session (a turned copy of the print). -/
import Derived.Test.YtgoidimipchejaaPTx0
import Derived.Test.YtgoidimipchejaaPTx5
import Derived.Test.YtgoidimipchejaaPTx1
import Derived.Test.YtgoidimipchejaaPTx2
namespace Go.Proofs.Ytgoidimipchejaa.PT
open Go.RowKit Go.Proofs.YtgoidimipchejaaW.PrintWords Go.Proofs.YtgoidimipchejaaW.PrintLast Go.Proofs.YtgoidimipchejaaW.PrintMore
attribute [local go_sem] max2_int min2_int max_two min_two max_three min_three max_four min_four   -- for this text's walks alone
set_option linter.unusedVariables false
set_option linter.unusedSimpArgs false

attribute [local go_sem high] eqA34
-- NOT PRINTED: function 23 (garnerlaw10_awake)

/-! ### garnerref10_Scan: function 26 -/
mutual
def garnerref10_Scan.l0 : Nat → List (S38) → ByteArray → ByteArray → Int → List (S38) → Int → Option ((List (S38)))
 | 0, _, _, _, _, _, _ => none
 | k + 1, x0, x1, x2, x3, x9, x10 => if x10 < (x0.length : Int) then (garnerref10_Scan.j1 k x0 x1 x2 x3 x9 x10 (decide ((x9.length : Int) < x3))) else (garnerref10_Scan.j1 k x0 x1 x2 x3 x9 x10 false)
def garnerref10_Scan.j1 : Nat → List (S38) → ByteArray → ByteArray → Int → List (S38) → Int → Bool → Option ((List (S38)))
 | 0, _, _, _, _, _, _, _ => none
 | k + 1, x0, x1, x2, x3, x9, x10, x21 => if x21 = true then (if 0 ≤ x10 then (if x10 < (x0.length : Int) then (if ((Op.bytesLess (((rd_T38 x0 x10).f0).toList) x1.toList) = true) then (garnerref10_Scan.l0 k x0 x1 x2 x3 x9 (wrap64 (x10 + 1))) else (if x2.toList = ([] : List UInt8) then (if x9.length < 1599289640401 then (garnerref10_Scan.l0 k x0 x1 x2 x3 (x9 ++ [(⟨(rd_T38 x0 x10).f0, (rd_T38 x0 x10).f1, (⟨(rd_T38 x0 x10).f2.f0, (rd_T38 x0 x10).f2.f1, (⟨(rd_T38 x0 x10).f2.f2.f0, (rd_T38 x0 x10).f2.f2.f1, (rd_T38 x0 x10).f2.f2.f2, (rd_T38 x0 x10).f2.f2.f3⟩ : S34)⟩ : S36)⟩ : S38)]) (wrap64 (x10 + 1))) else (none)) else (if (Op.bytesLess (((rd_T38 x0 x10).f0).toList) x2.toList) = true then (if x9.length < 1599289640401 then (garnerref10_Scan.l0 k x0 x1 x2 x3 (x9 ++ [(⟨(rd_T38 x0 x10).f0, (rd_T38 x0 x10).f1, (⟨(rd_T38 x0 x10).f2.f0, (rd_T38 x0 x10).f2.f1, (⟨(rd_T38 x0 x10).f2.f2.f0, (rd_T38 x0 x10).f2.f2.f1, (rd_T38 x0 x10).f2.f2.f2, (rd_T38 x0 x10).f2.f2.f3⟩ : S34)⟩ : S36)⟩ : S38)]) (wrap64 (x10 + 1))) else (none)) else (garnerref10_Scan.l0 k x0 x1 x2 x3 x9 (wrap64 (x10 + 1)))))) else (none)) else (none)) else (some x9)
end
def garnerref10_Scan.f (k : Nat) (l0 : List (S38)) (a1 : ByteArray) (a2 : ByteArray) (a3 : Int) : Option ((List (S38))) := garnerref10_Scan.l0 k l0 a1 a2 a3 (([] : List (S38))) 0
theorem garnerref10_Scan.mono_l : ∀ k, (∀ y0 y1 y2 y3 y4 y5, LeO (garnerref10_Scan.l0 k y0 y1 y2 y3 y4 y5) (garnerref10_Scan.l0 (k + 1) y0 y1 y2 y3 y4 y5)) ∧ (∀ y0 y1 y2 y3 y4 y5 y6, LeO (garnerref10_Scan.j1 k y0 y1 y2 y3 y4 y5 y6) (garnerref10_Scan.j1 (k + 1) y0 y1 y2 y3 y4 y5 y6))
 | 0 => ⟨fun _ _ _ _ _ _ r h => by simp [garnerref10_Scan.l0] at h, fun _ _ _ _ _ _ _ r h => by simp [garnerref10_Scan.j1] at h⟩
 | k + 1 => by
  obtain ⟨ih0, ih1⟩ := garnerref10_Scan.mono_l k
  refine ⟨?_, ?_⟩
  ·intro y0 y1 y2 y3 y4 y5
   unfold garnerref10_Scan.l0
   repeat' first
   | (with_reducible exact ih0 _ _ _ _ _ _)
   | (with_reducible exact ih1 _ _ _ _ _ _ _)
   | (with_reducible exact LeO.refl _)
   | (with_reducible exact LeO.none _)
   | (with_reducible refine LeO.ite ?_ ?_)
   | (with_reducible refine LeO.bind ?_ (fun _ => ?_))
   | exact ih0 _ _ _ _ _ _
   | exact ih1 _ _ _ _ _ _ _
   | exact LeO.none _
   | refine LeO.ite ?_ ?_
   | refine LeO.bind ?_ (fun _ => ?_)
  ·intro y0 y1 y2 y3 y4 y5 y6
   unfold garnerref10_Scan.j1
   repeat' first
   | (with_reducible exact ih0 _ _ _ _ _ _)
   | (with_reducible exact ih1 _ _ _ _ _ _ _)
   | (with_reducible exact LeO.refl _)
   | (with_reducible exact LeO.none _)
   | (with_reducible refine LeO.ite ?_ ?_)
   | (with_reducible refine LeO.bind ?_ (fun _ => ?_))
   | exact ih0 _ _ _ _ _ _
   | exact ih1 _ _ _ _ _ _ _
   | exact LeO.none _
   | refine LeO.ite ?_ ?_
   | refine LeO.bind ?_ (fun _ => ?_)
theorem garnerref10_Scan.mono : ∀ a0 a1 a2 a3 k, LeO (garnerref10_Scan.f k a0 a1 a2 a3) (garnerref10_Scan.f (k + 1) a0 a1 a2 a3) := by
 intro a0 a1 a2 a3 k
 obtain ⟨ih0, ih1⟩ := garnerref10_Scan.mono_l k
 unfold garnerref10_Scan.f
 repeat' first
   | (with_reducible exact ih0 _ _ _ _ _ _)
   | (with_reducible exact ih1 _ _ _ _ _ _ _)
   | (with_reducible exact LeO.refl _)
   | (with_reducible exact LeO.none _)
   | (with_reducible refine LeO.ite ?_ ?_)
   | (with_reducible refine LeO.bind ?_ (fun _ => ?_))
   | exact ih0 _ _ _ _ _ _
   | exact ih1 _ _ _ _ _ _ _
   | exact LeO.none _
   | refine LeO.ite ?_ ?_
   | refine LeO.bind ?_ (fun _ => ?_)
set_option maxHeartbeats 8000000 in
set_option maxRecDepth 100000 in
theorem garnerref10_Scan.calls (k : Nat) (P0_ : Nat → Prop) (A0 : Option Addr) (c0 : Nat) (l0 : List (S38)) (a1 : ByteArray) (a2 : ByteArray) (a3 : Int) (r : List (S38)) (w : World) (hs0 : Kd.V k38 38 w w.heap.size (fun k_ => P0_ k_) (.slice A0 l0.length c0) l0) (h : garnerref10_Scan.f k l0 a1 a2 a3 = some r) :
  Calls Try.prog 26 #[.slice A0 l0.length c0, .string a1, .string a2, .int .i64 a3] w fun e w' => ∃ v0_ : Value, e = .returned (v0_) ∧ Kd.N k38 38 w' w.heap.size (fun k_ => (P0_ k_ ∨ w.heap.size ≤ k_)) v0_ r ∧ Below w.heap.size w w' := by
 have hu38 := Try.underlying38
 have HO0 := Aside0.mk (show Kd.V k38 38 w w.heap.size (fun k_ => (P0_ k_ ∨ w.heap.size ≤ k_)) (.slice A0 l0.length c0) l0 from Kd.V_mono hs0 (fun k_ hk => .inl hk))
 have HB := Aside0.mk (Below.refl w.heap.size w)
 have H : (garnerref10_Scan.l0 k l0 a1 a2 a3 (([] : List (S38))) 0) = some r := h
 clear h
 obtain ⟨y138, hy138⟩ : ∃ y_ : List (S38), y_ = (([] : List (S38))) := ⟨_, rfl⟩
 replace H : (garnerref10_Scan.l0 k l0 a1 a2 a3 y138 0) = some r := by first | (rw [hy138]; with_reducible exact H) | (have H2_ := (Option.bind_some _ _).symm.trans H; rw [hy138]; with_reducible exact H2_) | (have H2_ := (Option.bind_some _ _).symm.trans H; with_reducible exact H2_) | with_reducible exact H | (rw [hy138]; exact H) | exact H
 have Ny138 := Aside0.mk hy138
 clear hy138
 have H' := Aside0.mk H
 clear H
 go_enter Try.func26, Try.ntmps26
 go_wp2_with (((with_reducible refine gate_dst (N := 11) rfl ?_); (try (refine gate_guard (by rfl) ?_; dsimp only)); refine Kd.N_lit k38 _ 38 ?hg (N' := 11) ?hd (xs := ([] : List (S38))) (inner := []) (ok := (fun k_ => (P0_ k_ ∨ w.heap.size ≤ k_))) (okp := (fun k_ => (P0_ k_ ∨ w.heap.size ≤ k_))) ?hr ?hp (fun _ hk => hk) ((show ∀ k_, w.heap.size ≤ k_ → (fun k_ => (P0_ k_ ∨ w.heap.size ≤ k_)) k_ from fun k_ hk => (.inr (Nat.le_trans (below_size (by repeat ((with_reducible first | exact HB.out | apply below_alloc | apply pw_below_drewN | apply below_drew1)))) hk))) _ (Nat.le_refl _)) (Below.refl _ _) (Nat.le_refl _) (by simp) ?_; (case hd => rfl); (case hg => rfl); (case hr => first | (go_simp; done) | (go_simp; rfl)); (case hp => exact (Reps.none _ _)); intro v139 w5 ho6 hb hg_ hnew_; clear hg_ hnew_; (rw [← Ny138.out] at ho6); have n0_ := Aside0.mk (Kd.V_elder' (by (with_reducible repeat (fail)); exact HO0.out) (Kd.N_base ho6) hb); have n1_ := Aside0.mk (Kd.N_lower ho6 (below_size (by repeat ((with_reducible first | exact HB.out | apply below_alloc | apply pw_below_drewN | apply below_drew1))))); have n2_ := Aside0.mk (below_step (by repeat ((with_reducible first | exact HB.out | apply below_alloc | apply pw_below_drewN | apply below_drew1))) hb); clear HO0; clear HB; have HO0 := n0_; have HO140 := n1_; have HB := n2_; clear n0_ n1_ n2_; clear hb ho6))
 go_loopg [9, 10] k (fun kq v9 v10 w' => ∃ (x9_1 : List (S38)) (x10_1 : Int), v10 = .int .i64 x10_1 ∧ Aside0 (garnerref10_Scan.l0 kq l0 a1 a2 a3 x9_1 x10_1 = some r) ∧ Aside0 (kq ≤ k) ∧ Aside0 (Kd.V k38 38 w' w.heap.size (fun k_ => (P0_ k_ ∨ w.heap.size ≤ k_) ∧ some k_ ≠ (v9 : Value).ownBlock) (.slice A0 l0.length c0) l0) ∧ Aside0 (Kd.N k38 38 w' w.heap.size (fun k_ => (P0_ k_ ∨ w.heap.size ≤ k_)) v9 x9_1) ∧ Aside0 (Below w.heap.size w w'))
 case atStart => exact ⟨(y138), (0), (by first | rfl | (simp; done) | (simp [*]; done)), H', ⟨Nat.le_refl _⟩, ⟨by (with_reducible repeat (fail)); exact HO0.out⟩, ⟨by (with_reducible repeat (fail)); exact HO140.out⟩, ⟨by repeat ((with_reducible first | exact HB.out | apply below_alloc | apply pw_below_drewN | apply below_drew1))⟩⟩
 case round =>
  clear H'
  try clear c2
  try clear p2
  obtain ⟨x9_1, x10_1, rfl, HA, HK1, HO_0, HO_9, HB⟩ := hrel
  cases gk with
  | zero => exact absurd HA.out (by simp [garnerref10_Scan.l0])
  | succ k1 =>
   have H := HA.out
   clear HA
   simp only [garnerref10_Scan.l0] at H
   have HC7 := Aside0.mk H
   clear H
   go_upto_region 3 with (fail)
   go_cut [21] (fun v21 wc => ∃ (kq : Nat) (x21_6 : Bool), v21 = .bool x21_6 ∧ Aside0 (garnerref10_Scan.j1 kq l0 a1 a2 a3 x9_1 x10_1 x21_6 = some r) ∧ Aside0 (kq ≤ k1) ∧ Aside0 (Kd.V k38 38 wc w.heap.size (fun k_ => (P0_ k_ ∨ w.heap.size ≤ k_) ∧ some k_ ≠ (u9 : Value).ownBlock) (.slice A0 l0.length c0) l0) ∧ Aside0 (Kd.N k38 38 wc w.heap.size (fun k_ => (P0_ k_ ∨ w.heap.size ≤ k_)) u9 x9_1) ∧ Aside0 (Below w.heap.size w wc))
   case first =>
    have H := HC7.out
    clear HC7
    by_cases c8 : x10_1 < (l0.length : Int)
    ·rw [if_pos c8] at H
     have c8b0 : decide (x10_1 < (l0.length : Int)) = true := decide_eq_true c8
     clear c8
     (skip)
     have H' := Aside0.mk H
     clear H
     obtain ⟨Ao9, co9, eo9⟩ := Kd.N_slice HO_9.out
     subst eo9
     go_wp2
     go_meet
     case rel => exact ⟨_, (decide ((x9_1.length : Int) < a3)), (by first | rfl | (simp; done) | (simp [*]; done)), H', ⟨by have := HK1.out; first | omega | exact Nat.le_refl _⟩, ⟨by (with_reducible repeat (fail)); exact HO_0.out⟩, ⟨by (with_reducible repeat (fail)); exact HO_9.out⟩, ⟨by repeat ((with_reducible first | exact HB.out | apply below_alloc | apply pw_below_drewN | apply below_drew1))⟩⟩
    ·rw [if_neg c8] at H
     have c8b0 : decide (x10_1 < (l0.length : Int)) = false := decide_eq_false c8
     clear c8
     (skip)
     have H' := Aside0.mk H
     clear H
     go_wp2
     go_meet
     case rel => exact ⟨_, (false), (by first | rfl | (simp; done) | (simp [*]; done)), H', ⟨by have := HK1.out; first | omega | exact Nat.le_refl _⟩, ⟨by (with_reducible repeat (fail)); exact HO_0.out⟩, ⟨by (with_reducible repeat (fail)); exact HO_9.out⟩, ⟨by repeat ((with_reducible first | exact HB.out | apply below_alloc | apply pw_below_drewN | apply below_drew1))⟩⟩
   case rest =>
    clear HC7
    try clear c2
    try clear p2
    try clear c8
    try clear c8b0
    try clear p2
    obtain ⟨kq, x21_6, rfl, HA, HJ6, HO_0, HO_9, HB⟩ := hcut
    cases kq with
    | zero => exact absurd HA.out (by simp [garnerref10_Scan.j1])
    | succ kj6 =>
     have H := HA.out
     clear HA
     simp only [garnerref10_Scan.j1] at H
     by_cases c10 : x21_6 = true
     ·subst c10
      have H1 : (if 0 ≤ x10_1 then (if x10_1 < (l0.length : Int) then (if ((Op.bytesLess (((rd_T38 l0 x10_1).f0).toList) a1.toList) = true) then (garnerref10_Scan.l0 kj6 l0 a1 a2 a3 x9_1 (wrap64 (x10_1 + 1))) else (if a2.toList = ([] : List UInt8) then (if x9_1.length < 1599289640401 then (garnerref10_Scan.l0 kj6 l0 a1 a2 a3 (x9_1 ++ [(⟨(rd_T38 l0 x10_1).f0, (rd_T38 l0 x10_1).f1, (⟨(rd_T38 l0 x10_1).f2.f0, (rd_T38 l0 x10_1).f2.f1, (⟨(rd_T38 l0 x10_1).f2.f2.f0, (rd_T38 l0 x10_1).f2.f2.f1, (rd_T38 l0 x10_1).f2.f2.f2, (rd_T38 l0 x10_1).f2.f2.f3⟩ : S34)⟩ : S36)⟩ : S38)]) (wrap64 (x10_1 + 1))) else (none)) else (if (Op.bytesLess (((rd_T38 l0 x10_1).f0).toList) a2.toList) = true then (if x9_1.length < 1599289640401 then (garnerref10_Scan.l0 kj6 l0 a1 a2 a3 (x9_1 ++ [(⟨(rd_T38 l0 x10_1).f0, (rd_T38 l0 x10_1).f1, (⟨(rd_T38 l0 x10_1).f2.f0, (rd_T38 l0 x10_1).f2.f1, (⟨(rd_T38 l0 x10_1).f2.f2.f0, (rd_T38 l0 x10_1).f2.f2.f1, (rd_T38 l0 x10_1).f2.f2.f2, (rd_T38 l0 x10_1).f2.f2.f3⟩ : S34)⟩ : S36)⟩ : S38)]) (wrap64 (x10_1 + 1))) else (none)) else (garnerref10_Scan.l0 kj6 l0 a1 a2 a3 x9_1 (wrap64 (x10_1 + 1)))))) else (none)) else (none)) = some r := by rw [if_pos rfl] at H; exact H
      clear H
      have H := H1
      clear H1
      by_cases c11 : 0 ≤ x10_1
      ·rw [if_pos c11] at H
       have c11b0 : decide (0 ≤ x10_1) = true := decide_eq_true c11
       clear c11
       by_cases c12 : x10_1 < (l0.length : Int)
       ·rw [if_pos c12] at H
        have c12b0 : decide (x10_1 < (l0.length : Int)) = true := decide_eq_true c12
        clear c12
        by_cases c13 : ((Op.bytesLess (((rd_T38 l0 x10_1).f0).toList) a1.toList) = true)
        ·rw [if_pos c13] at H
         have c13b0 : (Op.bytesLess (((rd_T38 l0 x10_1).f0).toList) a1.toList) = true := c13
         clear c13
         have H' := Aside0.mk H
         clear H
         have p141 : 0 ≤ (x10_1 : Int) := of_decide_eq_true (by first | (with_reducible assumption) | assumption)
         have q141 : x10_1 < (l0.length : Int) := of_decide_eq_true (by first | (with_reducible assumption) | assumption)
         obtain ⟨ad141, A141_3, c141_3, e141, hx141_0, hx141_1, hx141_2, hx141_3, hx141_4, hx141_5, hx141_6, hx141_7, hl141_3, hi141_3⟩ := at_T38 (Kd.V_reads' HO_0.out).2.2 x10_1 p141 q141
         cases e141
         obtain ⟨ce141, hce141, hMe141, hcc141⟩ := Kd.V_get HO_0.out z38 x10_1 p141 (by first | exact q141 | exact of_decide_eq_true (by first | (with_reducible assumption) | assumption) | (have e_ := (Kd.V_reads' HO_0.out).1; omega))
         obtain ⟨ua141_3, uc141_3, rfl, ul141_3, ge141_3⟩ := k38_openF hMe141
         have hv141_3 := hcc141 3 _ rfl
         rw [add_field _ _ 3 (by omega)] at hv141_3
         replace hv141_3 := Option.some.inj (hv141_3.symm.trans hx141_3)
         injection hv141_3 with hva_ hvn_ hvc_
         rw [hva_] at ge141_3
         rw [hvc_] at ul141_3
         have HL141_3 := Aside0.mk (show Kd.V (Kd.int .u8) 5 _ w.heap.size _ _ ((rd_T38 l0 x10_1).f2.f1) from Kd.V_mk ul141_3 ge141_3)
         clear hva_ hvn_ hvc_ ge141_3 ul141_3
         clear hcc141 hce141
         have HR141_3 := Aside0.mk hi141_3
         have HC141_3 := Aside0.mk hl141_3
         clear hi141_3 hl141_3
         replace p141 := eq_true p141
         replace q141 := eq_true q141
         go_wp2
         go_roundg kj6
         case measure => have := HK1.out; have := HJ6.out; omega
         case rel => exact ⟨(x9_1), (wrap64 (x10_1 + 1)), (by first | rfl | (simp; done) | (simp [*]; done)), H', ⟨by have := HK1.out; have := HJ6.out; omega⟩, ⟨by (with_reducible repeat (fail)); exact HO_0.out⟩, ⟨by (with_reducible repeat (fail)); exact HO_9.out⟩, ⟨by repeat ((with_reducible first | exact HB.out | apply below_alloc | apply pw_below_drewN | apply below_drew1))⟩⟩
        ·rw [if_neg c13] at H
         have c13b0 : (Op.bytesLess (((rd_T38 l0 x10_1).f0).toList) a1.toList) = false := by simpa using c13
         clear c13
         by_cases c14 : a2.toList = ([] : List UInt8)
         ·rw [if_pos c14] at H
          have c14b0 : (a2.toList == ([] : List UInt8)) = true := beq_iff_eq.mpr c14
          have c14b1 : (a2.toList != ([] : List UInt8)) = false := bne_eq_false_iff_eq.mpr c14
          clear c14
          by_cases c15 : x9_1.length < 1599289640401
          ·rw [if_pos c15] at H
           have LMc15 := Aside0.mk c15
           clear c15
           obtain ⟨y143, hy143⟩ : ∃ y_ : List (S38), y_ = (x9_1 ++ [(⟨(rd_T38 l0 x10_1).f0, (rd_T38 l0 x10_1).f1, (⟨(rd_T38 l0 x10_1).f2.f0, (rd_T38 l0 x10_1).f2.f1, (⟨(rd_T38 l0 x10_1).f2.f2.f0, (rd_T38 l0 x10_1).f2.f2.f1, (rd_T38 l0 x10_1).f2.f2.f2, (rd_T38 l0 x10_1).f2.f2.f3⟩ : S34)⟩ : S36)⟩ : S38)]) := ⟨_, rfl⟩
           replace H : (garnerref10_Scan.l0 kj6 l0 a1 a2 a3 y143 (wrap64 (x10_1 + 1))) = some r := by first | (rw [hy143]; with_reducible exact H) | (have H2_ := (Option.bind_some _ _).symm.trans H; rw [hy143]; with_reducible exact H2_) | (have H2_ := (Option.bind_some _ _).symm.trans H; with_reducible exact H2_) | with_reducible exact H | (rw [hy143]; exact H) | exact H
           have Ny143 := Aside0.mk hy143
           clear hy143
           have H' := Aside0.mk H
           clear H
           have p141 : 0 ≤ (x10_1 : Int) := of_decide_eq_true (by first | (with_reducible assumption) | assumption)
           have q141 : x10_1 < (l0.length : Int) := of_decide_eq_true (by first | (with_reducible assumption) | assumption)
           obtain ⟨ad141, A141_3, c141_3, e141, hx141_0, hx141_1, hx141_2, hx141_3, hx141_4, hx141_5, hx141_6, hx141_7, hl141_3, hi141_3⟩ := at_T38 (Kd.V_reads' HO_0.out).2.2 x10_1 p141 q141
           cases e141
           obtain ⟨ce141, hce141, hMe141, hcc141⟩ := Kd.V_get HO_0.out z38 x10_1 p141 (by first | exact q141 | exact of_decide_eq_true (by first | (with_reducible assumption) | assumption) | (have e_ := (Kd.V_reads' HO_0.out).1; omega))
           obtain ⟨ua141_3, uc141_3, rfl, ul141_3, ge141_3⟩ := k38_openF hMe141
           have hv141_3 := hcc141 3 _ rfl
           rw [add_field _ _ 3 (by omega)] at hv141_3
           replace hv141_3 := Option.some.inj (hv141_3.symm.trans hx141_3)
           injection hv141_3 with hva_ hvn_ hvc_
           rw [hva_] at ge141_3
           rw [hvc_] at ul141_3
           have HL141_3 := Aside0.mk (show Kd.V (Kd.int .u8) 5 _ w.heap.size _ _ ((rd_T38 l0 x10_1).f2.f1) from Kd.V_mk ul141_3 ge141_3)
           clear hva_ hvn_ hvc_ ge141_3 ul141_3
           clear hcc141 hce141
           have HR141_3 := Aside0.mk hi141_3
           have HC141_3 := Aside0.mk hl141_3
           clear hi141_3 hl141_3
           replace p141 := eq_true p141
           replace q141 := eq_true q141
           have p142 : 0 ≤ (x10_1 : Int) := of_decide_eq_true (by first | (with_reducible assumption) | assumption)
           have q142 : x10_1 < (l0.length : Int) := of_decide_eq_true (by first | (with_reducible assumption) | assumption)
           obtain ⟨ad142, A142_3, c142_3, e142, hx142_0, hx142_1, hx142_2, hx142_3, hx142_4, hx142_5, hx142_6, hx142_7, hl142_3, hi142_3⟩ := at_T38 (Kd.V_reads' HO_0.out).2.2 x10_1 p142 q142
           obtain rfl : ad141 = ad142 := (by injection e142)
           obtain ⟨ce142, hce142, hMe142, hcc142⟩ := Kd.V_get HO_0.out z38 x10_1 p142 (by first | exact q142 | exact of_decide_eq_true (by first | (with_reducible assumption) | assumption) | (have e_ := (Kd.V_reads' HO_0.out).1; omega))
           obtain ⟨ua142_3, uc142_3, rfl, ul142_3, ge142_3⟩ := k38_openF hMe142
           have hv142_3 := hcc142 3 _ rfl
           rw [add_field _ _ 3 (by omega)] at hv142_3
           replace hv142_3 := Option.some.inj (hv142_3.symm.trans hx142_3)
           injection hv142_3 with hva_ hvn_ hvc_
           rw [hva_] at ge142_3
           rw [hvc_] at ul142_3
           have HL142_3 := Aside0.mk (show Kd.V (Kd.int .u8) 5 _ w.heap.size _ _ ((rd_T38 l0 x10_1).f2.f1) from Kd.V_mk ul142_3 ge142_3)
           clear hva_ hvn_ hvc_ ge142_3 ul142_3
           clear hcc142 hce142
           have HR142_3 := Aside0.mk hi142_3
           have HC142_3 := Aside0.mk hl142_3
           clear hi142_3 hl142_3
           replace p142 := eq_true p142
           replace q142 := eq_true q142
           have ea_ := Option.some.inj (hx141_3.symm.trans hx142_3)
           injection ea_ with ea_ en_ ec_
           subst ea_
           subst ec_
           clear en_
           go_wp2_with (((with_reducible refine gate_builtin (b := .append) (xs := #[.tmp 44, .tmp 49]) rfl ?_); (try (refine gate_guard (by rfl) ?_; dsimp only)); at_builtin; refine Kd.N_append k38 (w0 := w) w.heap.size rfl (.tmp 44) (.tmp 49) 29 38 (.agg #[(.string ⟨#[]⟩), (.bool false), (.bool false), (.slice none 0 0), (.int .i64 0), (.int .i64 0), (.int .i64 0), (.int .u32 0)]) 88 rfl Try.underlying29 info38 rfl (by decide) (by omega) u9 x9_1 (⟨(rd_T38 l0 x10_1).f0, (rd_T38 l0 x10_1).f1, (⟨(rd_T38 l0 x10_1).f2.f0, (rd_T38 l0 x10_1).f2.f1, (⟨(rd_T38 l0 x10_1).f2.f2.f0, (rd_T38 l0 x10_1).f2.f2.f1, (rd_T38 l0 x10_1).f2.f2.f2, (rd_T38 l0 x10_1).f2.f2.f3⟩ : S34)⟩ : S36)⟩ : S38) [.string ((rd_T38 l0 x10_1).f0), .bool ((rd_T38 l0 x10_1).f1), .bool ((rd_T38 l0 x10_1).f2.f0), .slice A141_3 ((rd_T38 l0 x10_1).f2.f1).length c141_3, .int .i64 ((rd_T38 l0 x10_1).f2.f2.f0), .int .i64 ((rd_T38 l0 x10_1).f2.f2.f1), .int .i64 ((rd_T38 l0 x10_1).f2.f2.f2), .int .u32 ((rd_T38 l0 x10_1).f2.f2.f3)] (fun k_ => (P0_ k_ ∨ w.heap.size ≤ k_)) (fun k_ => ((fun k_ => (P0_ k_ ∨ w.heap.size ≤ k_))) k_ ∧ some k_ ≠ (u9 : Value).ownBlock) rfl rfl ?aP (fun _ hk => hk) ?aF ?aO ?aB ?aS ?aL ?_; (case aP => exact (k38_mkF _ _ (⟨(rd_T38 l0 x10_1).f0, (rd_T38 l0 x10_1).f1, (⟨(rd_T38 l0 x10_1).f2.f0, (rd_T38 l0 x10_1).f2.f1, (⟨(rd_T38 l0 x10_1).f2.f2.f0, (rd_T38 l0 x10_1).f2.f2.f1, (rd_T38 l0 x10_1).f2.f2.f2, (rd_T38 l0 x10_1).f2.f2.f3⟩ : S34)⟩ : S36)⟩ : S38) (Kd.V_reads' (Kd.V_mono (ok' := (fun k_ => ((fun k_ => (P0_ k_ ∨ w.heap.size ≤ k_))) k_ ∧ some k_ ≠ (u9 : Value).ownBlock)) (HL142_3.out) (fun k_ hk => ⟨hk.1, hk.2⟩))).2.1 (Kd.V_F (Kd.V_mono (ok' := (fun k_ => ((fun k_ => (P0_ k_ ∨ w.heap.size ≤ k_))) k_ ∧ some k_ ≠ (u9 : Value).ownBlock)) (HL142_3.out) (fun k_ hk => ⟨hk.1, hk.2⟩))))); (case aB => exact (by repeat ((with_reducible first | exact HB.out | apply below_alloc | apply pw_below_drewN | apply below_drew1)))); (case aF => exact (fun k_ hk => (.inr (Nat.le_trans (below_size (by repeat ((with_reducible first | exact HB.out | apply below_alloc | apply pw_below_drewN | apply below_drew1)))) hk)))); (case aO => exact (by (with_reducible repeat (fail)); exact HO_9.out)); (case aS => exact (below_size (by repeat ((with_reducible first | exact HB.out | apply below_alloc | apply pw_below_drewN | apply below_drew1))))); (case aL => have := LMc15.out; omega); intro v144 w16 ho hb hg hat; rw [← Ny143.out] at ho; have n0_ := Aside0.mk (Kd.V_afterv (ok := (fun k_ => (P0_ k_ ∨ w.heap.size ≤ k_))) (by (with_reducible repeat (fail)); exact HO_0.out) hg hat); have n1_ := Aside0.mk (Kd.V_afterv (ok := (fun k_ => (P0_ k_ ∨ w.heap.size ≤ k_))) (by (with_reducible repeat (fail)); exact HL141_3.out) hg hat); have n2_ := Aside0.mk (Kd.V_afterv (ok := (fun k_ => (P0_ k_ ∨ w.heap.size ≤ k_))) (by (with_reducible repeat (fail)); exact HL142_3.out) hg hat); have n3_ := Aside0.mk (hb); have n4_ := Aside0.mk (ho); clear HO_0; clear HL141_3; clear HL142_3; clear HB; clear HO_9; have HO_0 := n0_; have HL141_3 := n1_; have HL142_3 := n2_; have HB := n3_; have HO145 := n4_; clear n0_ n1_ n2_ n3_ n4_; clear ho hb hg hat))
           go_roundg kj6
           case measure => have := HK1.out; have := HJ6.out; omega
           case rel => exact ⟨(y143), (wrap64 (x10_1 + 1)), (by first | rfl | (simp; done) | (simp [*]; done)), H', ⟨by have := HK1.out; have := HJ6.out; omega⟩, ⟨by (with_reducible repeat (fail)); exact HO_0.out⟩, ⟨by (with_reducible repeat (fail)); exact HO145.out⟩, ⟨by repeat ((with_reducible first | exact HB.out | apply below_alloc | apply pw_below_drewN | apply below_drew1))⟩⟩
          ·rw [if_neg c15] at H
           exact absurd H (by simp)
         ·rw [if_neg c14] at H
          have c14b0 : (a2.toList == ([] : List UInt8)) = false := beq_eq_false_iff_ne.mpr c14
          have c14b1 : (a2.toList != ([] : List UInt8)) = true := bne_iff_ne.mpr c14
          by_cases c17 : (Op.bytesLess (((rd_T38 l0 x10_1).f0).toList) a2.toList) = true
          ·rw [if_pos c17] at H
           have c17b0 : (Op.bytesLess (((rd_T38 l0 x10_1).f0).toList) a2.toList) = true := c17
           clear c17
           by_cases c18 : x9_1.length < 1599289640401
           ·rw [if_pos c18] at H
            have LMc18 := Aside0.mk c18
            clear c18
            obtain ⟨y148, hy148⟩ : ∃ y_ : List (S38), y_ = (x9_1 ++ [(⟨(rd_T38 l0 x10_1).f0, (rd_T38 l0 x10_1).f1, (⟨(rd_T38 l0 x10_1).f2.f0, (rd_T38 l0 x10_1).f2.f1, (⟨(rd_T38 l0 x10_1).f2.f2.f0, (rd_T38 l0 x10_1).f2.f2.f1, (rd_T38 l0 x10_1).f2.f2.f2, (rd_T38 l0 x10_1).f2.f2.f3⟩ : S34)⟩ : S36)⟩ : S38)]) := ⟨_, rfl⟩
            replace H : (garnerref10_Scan.l0 kj6 l0 a1 a2 a3 y148 (wrap64 (x10_1 + 1))) = some r := by first | (rw [hy148]; with_reducible exact H) | (have H2_ := (Option.bind_some _ _).symm.trans H; rw [hy148]; with_reducible exact H2_) | (have H2_ := (Option.bind_some _ _).symm.trans H; with_reducible exact H2_) | with_reducible exact H | (rw [hy148]; exact H) | exact H
            have Ny148 := Aside0.mk hy148
            clear hy148
            have H' := Aside0.mk H
            clear H
            have p141 : 0 ≤ (x10_1 : Int) := of_decide_eq_true (by first | (with_reducible assumption) | assumption)
            have q141 : x10_1 < (l0.length : Int) := of_decide_eq_true (by first | (with_reducible assumption) | assumption)
            obtain ⟨ad141, A141_3, c141_3, e141, hx141_0, hx141_1, hx141_2, hx141_3, hx141_4, hx141_5, hx141_6, hx141_7, hl141_3, hi141_3⟩ := at_T38 (Kd.V_reads' HO_0.out).2.2 x10_1 p141 q141
            cases e141
            obtain ⟨ce141, hce141, hMe141, hcc141⟩ := Kd.V_get HO_0.out z38 x10_1 p141 (by first | exact q141 | exact of_decide_eq_true (by first | (with_reducible assumption) | assumption) | (have e_ := (Kd.V_reads' HO_0.out).1; omega))
            obtain ⟨ua141_3, uc141_3, rfl, ul141_3, ge141_3⟩ := k38_openF hMe141
            have hv141_3 := hcc141 3 _ rfl
            rw [add_field _ _ 3 (by omega)] at hv141_3
            replace hv141_3 := Option.some.inj (hv141_3.symm.trans hx141_3)
            injection hv141_3 with hva_ hvn_ hvc_
            rw [hva_] at ge141_3
            rw [hvc_] at ul141_3
            have HL141_3 := Aside0.mk (show Kd.V (Kd.int .u8) 5 _ w.heap.size _ _ ((rd_T38 l0 x10_1).f2.f1) from Kd.V_mk ul141_3 ge141_3)
            clear hva_ hvn_ hvc_ ge141_3 ul141_3
            clear hcc141 hce141
            have HR141_3 := Aside0.mk hi141_3
            have HC141_3 := Aside0.mk hl141_3
            clear hi141_3 hl141_3
            replace p141 := eq_true p141
            replace q141 := eq_true q141
            have p146 : 0 ≤ (x10_1 : Int) := of_decide_eq_true (by first | (with_reducible assumption) | assumption)
            have q146 : x10_1 < (l0.length : Int) := of_decide_eq_true (by first | (with_reducible assumption) | assumption)
            obtain ⟨ad146, A146_3, c146_3, e146, hx146_0, hx146_1, hx146_2, hx146_3, hx146_4, hx146_5, hx146_6, hx146_7, hl146_3, hi146_3⟩ := at_T38 (Kd.V_reads' HO_0.out).2.2 x10_1 p146 q146
            obtain rfl : ad141 = ad146 := (by injection e146)
            obtain ⟨ce146, hce146, hMe146, hcc146⟩ := Kd.V_get HO_0.out z38 x10_1 p146 (by first | exact q146 | exact of_decide_eq_true (by first | (with_reducible assumption) | assumption) | (have e_ := (Kd.V_reads' HO_0.out).1; omega))
            obtain ⟨ua146_3, uc146_3, rfl, ul146_3, ge146_3⟩ := k38_openF hMe146
            have hv146_3 := hcc146 3 _ rfl
            rw [add_field _ _ 3 (by omega)] at hv146_3
            replace hv146_3 := Option.some.inj (hv146_3.symm.trans hx146_3)
            injection hv146_3 with hva_ hvn_ hvc_
            rw [hva_] at ge146_3
            rw [hvc_] at ul146_3
            have HL146_3 := Aside0.mk (show Kd.V (Kd.int .u8) 5 _ w.heap.size _ _ ((rd_T38 l0 x10_1).f2.f1) from Kd.V_mk ul146_3 ge146_3)
            clear hva_ hvn_ hvc_ ge146_3 ul146_3
            clear hcc146 hce146
            have HR146_3 := Aside0.mk hi146_3
            have HC146_3 := Aside0.mk hl146_3
            clear hi146_3 hl146_3
            replace p146 := eq_true p146
            replace q146 := eq_true q146
            have ea_ := Option.some.inj (hx141_3.symm.trans hx146_3)
            injection ea_ with ea_ en_ ec_
            subst ea_
            subst ec_
            clear en_
            have p147 : 0 ≤ (x10_1 : Int) := of_decide_eq_true (by first | (with_reducible assumption) | assumption)
            have q147 : x10_1 < (l0.length : Int) := of_decide_eq_true (by first | (with_reducible assumption) | assumption)
            obtain ⟨ad147, A147_3, c147_3, e147, hx147_0, hx147_1, hx147_2, hx147_3, hx147_4, hx147_5, hx147_6, hx147_7, hl147_3, hi147_3⟩ := at_T38 (Kd.V_reads' HO_0.out).2.2 x10_1 p147 q147
            obtain rfl : ad141 = ad147 := (by injection e147)
            obtain ⟨ce147, hce147, hMe147, hcc147⟩ := Kd.V_get HO_0.out z38 x10_1 p147 (by first | exact q147 | exact of_decide_eq_true (by first | (with_reducible assumption) | assumption) | (have e_ := (Kd.V_reads' HO_0.out).1; omega))
            obtain ⟨ua147_3, uc147_3, rfl, ul147_3, ge147_3⟩ := k38_openF hMe147
            have hv147_3 := hcc147 3 _ rfl
            rw [add_field _ _ 3 (by omega)] at hv147_3
            replace hv147_3 := Option.some.inj (hv147_3.symm.trans hx147_3)
            injection hv147_3 with hva_ hvn_ hvc_
            rw [hva_] at ge147_3
            rw [hvc_] at ul147_3
            have HL147_3 := Aside0.mk (show Kd.V (Kd.int .u8) 5 _ w.heap.size _ _ ((rd_T38 l0 x10_1).f2.f1) from Kd.V_mk ul147_3 ge147_3)
            clear hva_ hvn_ hvc_ ge147_3 ul147_3
            clear hcc147 hce147
            have HR147_3 := Aside0.mk hi147_3
            have HC147_3 := Aside0.mk hl147_3
            clear hi147_3 hl147_3
            replace p147 := eq_true p147
            replace q147 := eq_true q147
            have ea_ := Option.some.inj (hx141_3.symm.trans hx147_3)
            injection ea_ with ea_ en_ ec_
            subst ea_
            subst ec_
            clear en_
            go_wp2_with (((with_reducible refine gate_builtin (b := .append) (xs := #[.tmp 44, .tmp 49]) rfl ?_); (try (refine gate_guard (by rfl) ?_; dsimp only)); at_builtin; refine Kd.N_append k38 (w0 := w) w.heap.size rfl (.tmp 44) (.tmp 49) 29 38 (.agg #[(.string ⟨#[]⟩), (.bool false), (.bool false), (.slice none 0 0), (.int .i64 0), (.int .i64 0), (.int .i64 0), (.int .u32 0)]) 88 rfl Try.underlying29 info38 rfl (by decide) (by omega) u9 x9_1 (⟨(rd_T38 l0 x10_1).f0, (rd_T38 l0 x10_1).f1, (⟨(rd_T38 l0 x10_1).f2.f0, (rd_T38 l0 x10_1).f2.f1, (⟨(rd_T38 l0 x10_1).f2.f2.f0, (rd_T38 l0 x10_1).f2.f2.f1, (rd_T38 l0 x10_1).f2.f2.f2, (rd_T38 l0 x10_1).f2.f2.f3⟩ : S34)⟩ : S36)⟩ : S38) [.string ((rd_T38 l0 x10_1).f0), .bool ((rd_T38 l0 x10_1).f1), .bool ((rd_T38 l0 x10_1).f2.f0), .slice A141_3 ((rd_T38 l0 x10_1).f2.f1).length c141_3, .int .i64 ((rd_T38 l0 x10_1).f2.f2.f0), .int .i64 ((rd_T38 l0 x10_1).f2.f2.f1), .int .i64 ((rd_T38 l0 x10_1).f2.f2.f2), .int .u32 ((rd_T38 l0 x10_1).f2.f2.f3)] (fun k_ => (P0_ k_ ∨ w.heap.size ≤ k_)) (fun k_ => ((fun k_ => (P0_ k_ ∨ w.heap.size ≤ k_))) k_ ∧ some k_ ≠ (u9 : Value).ownBlock) rfl rfl ?aP (fun _ hk => hk) ?aF ?aO ?aB ?aS ?aL ?_; (case aP => exact (k38_mkF _ _ (⟨(rd_T38 l0 x10_1).f0, (rd_T38 l0 x10_1).f1, (⟨(rd_T38 l0 x10_1).f2.f0, (rd_T38 l0 x10_1).f2.f1, (⟨(rd_T38 l0 x10_1).f2.f2.f0, (rd_T38 l0 x10_1).f2.f2.f1, (rd_T38 l0 x10_1).f2.f2.f2, (rd_T38 l0 x10_1).f2.f2.f3⟩ : S34)⟩ : S36)⟩ : S38) (Kd.V_reads' (Kd.V_mono (ok' := (fun k_ => ((fun k_ => (P0_ k_ ∨ w.heap.size ≤ k_))) k_ ∧ some k_ ≠ (u9 : Value).ownBlock)) (HL147_3.out) (fun k_ hk => ⟨hk.1, hk.2⟩))).2.1 (Kd.V_F (Kd.V_mono (ok' := (fun k_ => ((fun k_ => (P0_ k_ ∨ w.heap.size ≤ k_))) k_ ∧ some k_ ≠ (u9 : Value).ownBlock)) (HL147_3.out) (fun k_ hk => ⟨hk.1, hk.2⟩))))); (case aB => exact (by repeat ((with_reducible first | exact HB.out | apply below_alloc | apply pw_below_drewN | apply below_drew1)))); (case aF => exact (fun k_ hk => (.inr (Nat.le_trans (below_size (by repeat ((with_reducible first | exact HB.out | apply below_alloc | apply pw_below_drewN | apply below_drew1)))) hk)))); (case aO => exact (by (with_reducible repeat (fail)); exact HO_9.out)); (case aS => exact (below_size (by repeat ((with_reducible first | exact HB.out | apply below_alloc | apply pw_below_drewN | apply below_drew1))))); (case aL => have := LMc18.out; omega); intro v149 w19 ho hb hg hat; rw [← Ny148.out] at ho; have n0_ := Aside0.mk (Kd.V_afterv (ok := (fun k_ => (P0_ k_ ∨ w.heap.size ≤ k_))) (by (with_reducible repeat (fail)); exact HO_0.out) hg hat); have n1_ := Aside0.mk (Kd.V_afterv (ok := (fun k_ => (P0_ k_ ∨ w.heap.size ≤ k_))) (by (with_reducible repeat (fail)); exact HL141_3.out) hg hat); have n2_ := Aside0.mk (Kd.V_afterv (ok := (fun k_ => (P0_ k_ ∨ w.heap.size ≤ k_))) (by (with_reducible repeat (fail)); exact HL146_3.out) hg hat); have n3_ := Aside0.mk (Kd.V_afterv (ok := (fun k_ => (P0_ k_ ∨ w.heap.size ≤ k_))) (by (with_reducible repeat (fail)); exact HL147_3.out) hg hat); have n4_ := Aside0.mk (hb); have n5_ := Aside0.mk (ho); clear HO_0; clear HL141_3; clear HL146_3; clear HL147_3; clear HB; clear HO_9; have HO_0 := n0_; have HL141_3 := n1_; have HL146_3 := n2_; have HL147_3 := n3_; have HB := n4_; have HO150 := n5_; clear n0_ n1_ n2_ n3_ n4_ n5_; clear ho hb hg hat))
            go_roundg kj6
            case measure => have := HK1.out; have := HJ6.out; omega
            case rel => exact ⟨(y148), (wrap64 (x10_1 + 1)), (by first | rfl | (simp; done) | (simp [*]; done)), H', ⟨by have := HK1.out; have := HJ6.out; omega⟩, ⟨by (with_reducible repeat (fail)); exact HO_0.out⟩, ⟨by (with_reducible repeat (fail)); exact HO150.out⟩, ⟨by repeat ((with_reducible first | exact HB.out | apply below_alloc | apply pw_below_drewN | apply below_drew1))⟩⟩
           ·rw [if_neg c18] at H
            exact absurd H (by simp)
          ·rw [if_neg c17] at H
           have c17b0 : (Op.bytesLess (((rd_T38 l0 x10_1).f0).toList) a2.toList) = false := by simpa using c17
           clear c17
           have H' := Aside0.mk H
           clear H
           have p141 : 0 ≤ (x10_1 : Int) := of_decide_eq_true (by first | (with_reducible assumption) | assumption)
           have q141 : x10_1 < (l0.length : Int) := of_decide_eq_true (by first | (with_reducible assumption) | assumption)
           obtain ⟨ad141, A141_3, c141_3, e141, hx141_0, hx141_1, hx141_2, hx141_3, hx141_4, hx141_5, hx141_6, hx141_7, hl141_3, hi141_3⟩ := at_T38 (Kd.V_reads' HO_0.out).2.2 x10_1 p141 q141
           cases e141
           obtain ⟨ce141, hce141, hMe141, hcc141⟩ := Kd.V_get HO_0.out z38 x10_1 p141 (by first | exact q141 | exact of_decide_eq_true (by first | (with_reducible assumption) | assumption) | (have e_ := (Kd.V_reads' HO_0.out).1; omega))
           obtain ⟨ua141_3, uc141_3, rfl, ul141_3, ge141_3⟩ := k38_openF hMe141
           have hv141_3 := hcc141 3 _ rfl
           rw [add_field _ _ 3 (by omega)] at hv141_3
           replace hv141_3 := Option.some.inj (hv141_3.symm.trans hx141_3)
           injection hv141_3 with hva_ hvn_ hvc_
           rw [hva_] at ge141_3
           rw [hvc_] at ul141_3
           have HL141_3 := Aside0.mk (show Kd.V (Kd.int .u8) 5 _ w.heap.size _ _ ((rd_T38 l0 x10_1).f2.f1) from Kd.V_mk ul141_3 ge141_3)
           clear hva_ hvn_ hvc_ ge141_3 ul141_3
           clear hcc141 hce141
           have HR141_3 := Aside0.mk hi141_3
           have HC141_3 := Aside0.mk hl141_3
           clear hi141_3 hl141_3
           replace p141 := eq_true p141
           replace q141 := eq_true q141
           have p146 : 0 ≤ (x10_1 : Int) := of_decide_eq_true (by first | (with_reducible assumption) | assumption)
           have q146 : x10_1 < (l0.length : Int) := of_decide_eq_true (by first | (with_reducible assumption) | assumption)
           obtain ⟨ad146, A146_3, c146_3, e146, hx146_0, hx146_1, hx146_2, hx146_3, hx146_4, hx146_5, hx146_6, hx146_7, hl146_3, hi146_3⟩ := at_T38 (Kd.V_reads' HO_0.out).2.2 x10_1 p146 q146
           obtain rfl : ad141 = ad146 := (by injection e146)
           obtain ⟨ce146, hce146, hMe146, hcc146⟩ := Kd.V_get HO_0.out z38 x10_1 p146 (by first | exact q146 | exact of_decide_eq_true (by first | (with_reducible assumption) | assumption) | (have e_ := (Kd.V_reads' HO_0.out).1; omega))
           obtain ⟨ua146_3, uc146_3, rfl, ul146_3, ge146_3⟩ := k38_openF hMe146
           have hv146_3 := hcc146 3 _ rfl
           rw [add_field _ _ 3 (by omega)] at hv146_3
           replace hv146_3 := Option.some.inj (hv146_3.symm.trans hx146_3)
           injection hv146_3 with hva_ hvn_ hvc_
           rw [hva_] at ge146_3
           rw [hvc_] at ul146_3
           have HL146_3 := Aside0.mk (show Kd.V (Kd.int .u8) 5 _ w.heap.size _ _ ((rd_T38 l0 x10_1).f2.f1) from Kd.V_mk ul146_3 ge146_3)
           clear hva_ hvn_ hvc_ ge146_3 ul146_3
           clear hcc146 hce146
           have HR146_3 := Aside0.mk hi146_3
           have HC146_3 := Aside0.mk hl146_3
           clear hi146_3 hl146_3
           replace p146 := eq_true p146
           replace q146 := eq_true q146
           have ea_ := Option.some.inj (hx141_3.symm.trans hx146_3)
           injection ea_ with ea_ en_ ec_
           subst ea_
           subst ec_
           clear en_
           go_wp2
           go_roundg kj6
           case measure => have := HK1.out; have := HJ6.out; omega
           case rel => exact ⟨(x9_1), (wrap64 (x10_1 + 1)), (by first | rfl | (simp; done) | (simp [*]; done)), H', ⟨by have := HK1.out; have := HJ6.out; omega⟩, ⟨by (with_reducible repeat (fail)); exact HO_0.out⟩, ⟨by (with_reducible repeat (fail)); exact HO_9.out⟩, ⟨by repeat ((with_reducible first | exact HB.out | apply below_alloc | apply pw_below_drewN | apply below_drew1))⟩⟩
       ·rw [if_neg c12] at H
        exact absurd H (by simp)
      ·rw [if_neg c11] at H
       exact absurd H (by simp)
     ·replace c10 := Bool.eq_false_iff.mpr c10
      subst c10
      have H1 : (some x9_1) = some r := by rw [if_neg (show ¬ (false = true) by decide)] at H; exact H
      clear H
      have H := H1
      clear H1
      obtain rfl := Option.some.inj H
      go_wp2
      go_ret
      exact ⟨_, by first | rfl | (simp [errW_none, errW_some] <;> rfl) | (simp [*, errW_none, errW_some] <;> rfl), by (with_reducible repeat (fail)); exact HO_9.out, by repeat ((with_reducible first | exact HB.out | apply below_alloc | apply pw_below_drewN | apply below_drew1))⟩

end Go.Proofs.Ytgoidimipchejaa.PT
-- REPACKED
