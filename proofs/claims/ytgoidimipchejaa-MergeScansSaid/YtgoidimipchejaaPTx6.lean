/- Of the laws that this set serves: the Go functions come to the printed Lean functions, and the law's row out of its plain statement; no condition beyond those that each theorem names. Written by a program of this session (a turned copy of the print). -/
import Derived.Test.YtgoidimipchejaaPTx0
import Derived.Test.YtgoidimipchejaaPTx5
namespace Go.Proofs.Ytgoidimipchejaa.PT
open Go.RowKit Go.Proofs.YtgoidimipchejaaW.PrintWords Go.Proofs.YtgoidimipchejaaW.PrintLast Go.Proofs.YtgoidimipchejaaW.PrintMore
attribute [local go_sem] max2_int min2_int max_two min_two max_three min_three max_four min_four   -- for this text's walks alone
set_option linter.unusedVariables false
set_option linter.unusedSimpArgs false

/-! ### garnerref10_Put: function 48 -/
mutual
def garnerref10_Put.l0 : Nat → List (S38) → List (S38) → Bool → Int → ByteArray → Bool → Bool → List Int → Int → Int → Int → Int → Option ((List (S38)))
 | 0, _, _, _, _, _, _, _, _, _, _, _, _ => none
 | k + 1, x0, x5, x6, x7, x152000, x152001, x152002, x152003, x152004, x152005, x152006, x152007 => if x7 < (x0.length : Int) then (if x6 = true then (garnerref10_Put.j1 k x0 x5 x6 x7 false x152000 x152001 x152002 x152003 x152004 x152005 x152006 x152007) else (if 0 ≤ x7 then (garnerref10_Put.j1 k x0 x5 x6 x7 (!(Op.bytesLess (((rd_T38 x0 x7).f0).toList) x152000.toList)) x152000 x152001 x152002 x152003 x152004 x152005 x152006 x152007) else (none))) else (if x6 = true then (some x5) else (if x5.length < 1599289640401 then (some (x5 ++ [(⟨x152000, x152001, (⟨x152002, x152003, (⟨x152004, x152005, x152006, x152007⟩ : S34)⟩ : S36)⟩ : S38)])) else (none)))
def garnerref10_Put.j1 : Nat → List (S38) → List (S38) → Bool → Int → Bool → ByteArray → Bool → Bool → List Int → Int → Int → Int → Int → Option ((List (S38)))
 | 0, _, _, _, _, _, _, _, _, _, _, _, _, _ => none
 | k + 1, x0, x5, x6, x7, x26, x152000, x152001, x152002, x152003, x152004, x152005, x152006, x152007 => if x26 = true then (if x5.length < 1599289640401 then ((some (x5 ++ [(⟨x152000, x152001, (⟨x152002, x152003, (⟨x152004, x152005, x152006, x152007⟩ : S34)⟩ : S36)⟩ : S38)] : List (S38))).bind fun y159 => (if 0 ≤ x7 then (if x7 < (x0.length : Int) then (if ((rd_T38 x0 x7).f0).toList = x152000.toList then (garnerref10_Put.l0 k x0 y159 true (wrap64 (x7 + 1)) x152000 x152001 x152002 x152003 x152004 x152005 x152006 x152007) else (if y159.length < 1599289640401 then (garnerref10_Put.l0 k x0 (y159 ++ [(⟨(rd_T38 x0 x7).f0, (rd_T38 x0 x7).f1, (⟨(rd_T38 x0 x7).f2.f0, (rd_T38 x0 x7).f2.f1, (⟨(rd_T38 x0 x7).f2.f2.f0, (rd_T38 x0 x7).f2.f2.f1, (rd_T38 x0 x7).f2.f2.f2, (rd_T38 x0 x7).f2.f2.f3⟩ : S34)⟩ : S36)⟩ : S38)]) true (wrap64 (x7 + 1)) x152000 x152001 x152002 x152003 x152004 x152005 x152006 x152007) else (none))) else (none)) else (none))) else (none)) else (if 0 ≤ x7 then (if x7 < (x0.length : Int) then (if ((rd_T38 x0 x7).f0).toList = x152000.toList then (garnerref10_Put.l0 k x0 x5 x6 (wrap64 (x7 + 1)) x152000 x152001 x152002 x152003 x152004 x152005 x152006 x152007) else (if x5.length < 1599289640401 then (garnerref10_Put.l0 k x0 (x5 ++ [(⟨(rd_T38 x0 x7).f0, (rd_T38 x0 x7).f1, (⟨(rd_T38 x0 x7).f2.f0, (rd_T38 x0 x7).f2.f1, (⟨(rd_T38 x0 x7).f2.f2.f0, (rd_T38 x0 x7).f2.f2.f1, (rd_T38 x0 x7).f2.f2.f2, (rd_T38 x0 x7).f2.f2.f3⟩ : S34)⟩ : S36)⟩ : S38)]) x6 (wrap64 (x7 + 1)) x152000 x152001 x152002 x152003 x152004 x152005 x152006 x152007) else (none))) else (none)) else (none))
end
def garnerref10_Put.f (k : Nat) (l0 : List (S38)) (a1_0 : ByteArray) (a1_1 : Bool) (a1_2 : Bool) (l1_3 : List Int) (a1_4 : Int) (a1_5 : Int) (a1_6 : Int) (a1_7 : Int) : Option ((List (S38))) := garnerref10_Put.l0 k l0 (([] : List (S38))) false 0 a1_0 a1_1 a1_2 l1_3 a1_4 a1_5 a1_6 a1_7
theorem garnerref10_Put.mono_l : ∀ k, (∀ y0 y1 y2 y3 y4 y5 y6 y7 y8 y9 y10 y11, LeO (garnerref10_Put.l0 k y0 y1 y2 y3 y4 y5 y6 y7 y8 y9 y10 y11) (garnerref10_Put.l0 (k + 1) y0 y1 y2 y3 y4 y5 y6 y7 y8 y9 y10 y11)) ∧ (∀ y0 y1 y2 y3 y4 y5 y6 y7 y8 y9 y10 y11 y12, LeO (garnerref10_Put.j1 k y0 y1 y2 y3 y4 y5 y6 y7 y8 y9 y10 y11 y12) (garnerref10_Put.j1 (k + 1) y0 y1 y2 y3 y4 y5 y6 y7 y8 y9 y10 y11 y12))
 | 0 => ⟨fun _ _ _ _ _ _ _ _ _ _ _ _ r h => by simp [garnerref10_Put.l0] at h, fun _ _ _ _ _ _ _ _ _ _ _ _ _ r h => by simp [garnerref10_Put.j1] at h⟩
 | k + 1 => by
  obtain ⟨ih0, ih1⟩ := garnerref10_Put.mono_l k
  refine ⟨?_, ?_⟩
  ·intro y0 y1 y2 y3 y4 y5 y6 y7 y8 y9 y10 y11
   unfold garnerref10_Put.l0
   repeat' first
   | (with_reducible exact ih0 _ _ _ _ _ _ _ _ _ _ _ _)
   | (with_reducible exact ih1 _ _ _ _ _ _ _ _ _ _ _ _ _)
   | (with_reducible exact LeO.refl _)
   | (with_reducible exact LeO.none _)
   | (with_reducible refine LeO.ite ?_ ?_)
   | (with_reducible refine LeO.bind ?_ (fun _ => ?_))
   | exact ih0 _ _ _ _ _ _ _ _ _ _ _ _
   | exact ih1 _ _ _ _ _ _ _ _ _ _ _ _ _
   | exact LeO.none _
   | refine LeO.ite ?_ ?_
   | refine LeO.bind ?_ (fun _ => ?_)
  ·intro y0 y1 y2 y3 y4 y5 y6 y7 y8 y9 y10 y11 y12
   unfold garnerref10_Put.j1
   repeat' first
   | (with_reducible exact ih0 _ _ _ _ _ _ _ _ _ _ _ _)
   | (with_reducible exact ih1 _ _ _ _ _ _ _ _ _ _ _ _ _)
   | (with_reducible exact LeO.refl _)
   | (with_reducible exact LeO.none _)
   | (with_reducible refine LeO.ite ?_ ?_)
   | (with_reducible refine LeO.bind ?_ (fun _ => ?_))
   | exact ih0 _ _ _ _ _ _ _ _ _ _ _ _
   | exact ih1 _ _ _ _ _ _ _ _ _ _ _ _ _
   | exact LeO.none _
   | refine LeO.ite ?_ ?_
   | refine LeO.bind ?_ (fun _ => ?_)
theorem garnerref10_Put.mono : ∀ a0 a1 a2 a3 a4 a5 a6 a7 a8 k, LeO (garnerref10_Put.f k a0 a1 a2 a3 a4 a5 a6 a7 a8) (garnerref10_Put.f (k + 1) a0 a1 a2 a3 a4 a5 a6 a7 a8) := by
 intro a0 a1 a2 a3 a4 a5 a6 a7 a8 k
 obtain ⟨ih0, ih1⟩ := garnerref10_Put.mono_l k
 unfold garnerref10_Put.f
 repeat' first
   | (with_reducible exact ih0 _ _ _ _ _ _ _ _ _ _ _ _)
   | (with_reducible exact ih1 _ _ _ _ _ _ _ _ _ _ _ _ _)
   | (with_reducible exact LeO.refl _)
   | (with_reducible exact LeO.none _)
   | (with_reducible refine LeO.ite ?_ ?_)
   | (with_reducible refine LeO.bind ?_ (fun _ => ?_))
   | exact ih0 _ _ _ _ _ _ _ _ _ _ _ _
   | exact ih1 _ _ _ _ _ _ _ _ _ _ _ _ _
   | exact LeO.none _
   | refine LeO.ite ?_ ?_
   | refine LeO.bind ?_ (fun _ => ?_)
set_option maxHeartbeats 8000000 in
set_option maxRecDepth 100000 in
theorem garnerref10_Put.calls (k : Nat) (P0_ : Nat → Prop) (A0 : Option Addr) (c0 : Nat) (l0 : List (S38)) (a1_0 : ByteArray) (a1_1 : Bool) (a1_2 : Bool) (P1_3_ : Nat → Prop) (A1_3 : Option Addr) (c1_3 : Nat) (l1_3 : List Int) (a1_4 : Int) (a1_5 : Int) (a1_6 : Int) (a1_7 : Int) (r : List (S38)) (w : World) (hs0 : Kd.V k38 38 w w.heap.size (fun k_ => P0_ k_) (.slice A0 l0.length c0) l0) (hs1_3 : Kd.V (Kd.int .u8) 5 w w.heap.size (fun k_ => P1_3_ k_) (.slice A1_3 l1_3.length c1_3) l1_3) (h : garnerref10_Put.f k l0 a1_0 a1_1 a1_2 l1_3 a1_4 a1_5 a1_6 a1_7 = some r) :
  Calls Try.prog 48 #[.slice A0 l0.length c0, .agg #[.string a1_0, .bool a1_1, .bool a1_2, .slice A1_3 l1_3.length c1_3, .int .i64 a1_4, .int .i64 a1_5, .int .i64 a1_6, .int .u32 a1_7]] w fun e w' => ∃ v0_ : Value, e = .returned (v0_) ∧ Kd.N k38 38 w' w.heap.size (fun k_ => ((P0_ k_ ∨ P1_3_ k_) ∨ w.heap.size ≤ k_)) v0_ r ∧ Below w.heap.size w w' := by
 have hu38 := Try.underlying38
 have HO0 := Aside0.mk (show Kd.V k38 38 w w.heap.size (fun k_ => ((P0_ k_ ∨ P1_3_ k_) ∨ w.heap.size ≤ k_)) (.slice A0 l0.length c0) l0 from Kd.V_mono hs0 (fun k_ hk => .inl (.inl hk)))
 have HO1_3 := Aside0.mk (show Kd.V (Kd.int .u8) 5 w w.heap.size (fun k_ => ((P0_ k_ ∨ P1_3_ k_) ∨ w.heap.size ≤ k_)) (.slice A1_3 l1_3.length c1_3) l1_3 from Kd.V_mono hs1_3 (fun k_ hk => .inl (.inr hk)))
 have HB := Aside0.mk (Below.refl w.heap.size w)
 have H : (garnerref10_Put.l0 k l0 (([] : List (S38))) false 0 a1_0 a1_1 a1_2 l1_3 a1_4 a1_5 a1_6 a1_7) = some r := h
 clear h
 obtain ⟨y152, hy152⟩ : ∃ y_ : List (S38), y_ = (([] : List (S38))) := ⟨_, rfl⟩
 replace H : (garnerref10_Put.l0 k l0 y152 false 0 a1_0 a1_1 a1_2 l1_3 a1_4 a1_5 a1_6 a1_7) = some r := by first | (rw [hy152]; with_reducible exact H) | (have H2_ := (Option.bind_some _ _).symm.trans H; rw [hy152]; with_reducible exact H2_) | (have H2_ := (Option.bind_some _ _).symm.trans H; with_reducible exact H2_) | with_reducible exact H | (rw [hy152]; exact H) | exact H
 have Ny152 := Aside0.mk hy152
 clear hy152
 have H' := Aside0.mk H
 clear H
 go_enter Try.func48, Try.ntmps48
 go_wp2_with (first | ((with_reducible refine gate_dst (N := 3) rfl ?_); refine box_event ?hg (N := 3) ?hd (cs := #[.string a1_0, .bool a1_1, .bool a1_2, .slice A1_3 l1_3.length c1_3, .int .i64 a1_4, .int .i64 a1_5, .int .i64 a1_6, .int .u32 a1_7]) (t := 38) ?hr ?_; (case hd => rfl); (case hg => rfl); (case hr => first | (go_simp; done) | (go_simp; rfl)); intro gb151 hg w3 hbox hb; have n0_ := Aside0.mk (Kd.V_below (Kd.V_elderB (by (with_reducible repeat (fail)); exact HO0.out) gb151 (Nat.le_of_eq hg.symm)) hb); have n1_ := Aside0.mk (Kd.V_below (Kd.V_elderB (by (with_reducible repeat (fail)); exact HO1_3.out) gb151 (Nat.le_of_eq hg.symm)) hb); have n2_ := Aside0.mk (below_step (by repeat ((with_reducible first | exact HB.out | apply below_alloc | apply pw_below_drewN | apply below_drew1))) hb); have n3_ := Aside0.mk (hbox); have n4_ := Aside0.mk ((by rw [hg]; exact (below_size (by repeat ((with_reducible first | exact HB.out | apply below_alloc | apply pw_below_drewN | apply below_drew1)))) : w.heap.size ≤ gb151)); have n5_ := Aside0.mk ((by rw [hg]; exact (below_size (by repeat ((with_reducible first | exact HB.out | apply below_alloc | apply pw_below_drewN | apply below_drew1)))) : w.heap.size ≤ gb151)); clear HO0; clear HO1_3; clear HB; have HO0 := n0_; have HO1_3 := n1_; have HB := n2_; have BK151 := n3_; have GW151 := n4_; have GE151 := n5_; clear n0_ n1_ n2_ n3_ n4_ n5_; clear hb hbox hg) | ((with_reducible refine gate_dst (N := 8) rfl ?_); refine Kd.N_lit k38 _ 38 ?hg (N' := 8) ?hd (xs := ([] : List (S38))) (inner := []) (ok := (fun k_ => ((P0_ k_ ∨ P1_3_ k_) ∨ w.heap.size ≤ k_) ∧ k_ ≠ gb151)) (okp := (fun k_ => ((P0_ k_ ∨ P1_3_ k_) ∨ w.heap.size ≤ k_) ∧ k_ ≠ gb151)) ?hr ?hp (fun _ hk => hk) ((show ∀ k_, w3.heap.size ≤ k_ → (fun k_ => ((P0_ k_ ∨ P1_3_ k_) ∨ w.heap.size ≤ k_) ∧ k_ ≠ gb151) k_ from fun k_ hk => ⟨(.inr (Nat.le_trans (below_size (by repeat ((with_reducible first | exact HB.out | apply below_alloc | apply pw_below_drewN | apply below_drew1 | refine below_set ?_ GE151.out)))) hk)), Kd.freshB (g := gb151) (o := .cells #[.string a1_0, .bool a1_1, .bool a1_2, .slice A1_3 l1_3.length c1_3, .int .i64 a1_4, .int .i64 a1_5, .int .i64 a1_6, .int .u32 a1_7] 38 (0, 0)) (by (with_reducible repeat (fail)); exact BK151.out) k_ hk⟩) _ (Nat.le_refl _)) (Below.refl _ _) (Nat.le_refl _) (by simp) ?_; (case hd => rfl); (case hg => rfl); (case hr => first | (go_simp; done) | (go_simp; rfl)); (case hp => exact (Reps.none _ _)); intro v153 w4 ho5 hb hg_ hnew_; clear hg_ hnew_; (rw [← Ny152.out] at ho5); have n0_ := Aside0.mk (Kd.V_elder' (by (with_reducible repeat (fail)); exact HO0.out) (Kd.N_base ho5) hb); have n1_ := Aside0.mk (Kd.V_elder' (by (with_reducible repeat (fail)); exact HO1_3.out) (Kd.N_base ho5) hb); have n2_ := Aside0.mk (Kd.N_lower ho5 (below_size (by repeat ((with_reducible first | exact HB.out | apply below_alloc | apply pw_below_drewN | apply below_drew1 | refine below_set ?_ GE151.out))))); have n3_ := Aside0.mk (blk_below (g := gb151) (o := .cells #[.string a1_0, .bool a1_1, .bool a1_2, .slice A1_3 l1_3.length c1_3, .int .i64 a1_4, .int .i64 a1_5, .int .i64 a1_6, .int .u32 a1_7] 38 (0, 0)) (by (with_reducible repeat (fail)); exact BK151.out) hb); have n4_ := Aside0.mk (below_step (by repeat ((with_reducible first | exact HB.out | apply below_alloc | apply pw_below_drewN | apply below_drew1 | refine below_set ?_ GE151.out))) hb); clear HO0; clear HO1_3; clear BK151; clear HB; have HO0 := n0_; have HO1_3 := n1_; have HO154 := n2_; have BK151 := n3_; have HB := n4_; clear n0_ n1_ n2_ n3_ n4_; clear hb ho5))
 repeat (go_quiet (fail); try go_wp2_with (fail))
 go_loopg [5, 6, 7] k (fun kq v5 v6 v7 w' => ∃ (x5_1 : List (S38)) (x6_1 : Bool) (x7_1 : Int), v6 = .bool x6_1 ∧ v7 = .int .i64 x7_1 ∧ Aside0 (garnerref10_Put.l0 kq l0 x5_1 x6_1 x7_1 a1_0 a1_1 a1_2 l1_3 a1_4 a1_5 a1_6 a1_7 = some r) ∧ Aside0 (kq ≤ k) ∧ Aside0 (Kd.V k38 38 w' w.heap.size (fun k_ => ((P0_ k_ ∨ P1_3_ k_) ∨ w.heap.size ≤ k_) ∧ some k_ ≠ (v5 : Value).ownBlock ∧ k_ ≠ gb151) (.slice A0 l0.length c0) l0) ∧ Aside0 (Kd.N k38 38 w' w.heap.size (fun k_ => ((P0_ k_ ∨ P1_3_ k_) ∨ w.heap.size ≤ k_) ∧ k_ ≠ gb151) v5 x5_1) ∧ Aside0 (Kd.V (Kd.int .u8) 5 w' w.heap.size (fun k_ => ((P0_ k_ ∨ P1_3_ k_) ∨ w.heap.size ≤ k_) ∧ some k_ ≠ (v5 : Value).ownBlock ∧ k_ ≠ gb151) (.slice A1_3 l1_3.length c1_3) l1_3) ∧ Aside0 (w'.heap[gb151]? = some (.cells #[.string a1_0, .bool a1_1, .bool a1_2, (.slice A1_3 l1_3.length c1_3), .int .i64 a1_4, .int .i64 a1_5, .int .i64 a1_6, .int .u32 a1_7] 38 (0, 0))) ∧ Aside0 (Below w.heap.size w w'))
 case atStart => exact ⟨(y152), (false), (0), (by first | rfl | (simp; done) | (simp [*]; done)), (by first | rfl | (simp; done) | (simp [*]; done)), H', ⟨Nat.le_refl _⟩, ⟨by (with_reducible repeat (fail)); exact Kd.V_mono HO0.out (fun _ hk => ⟨hk.1.1, ⟨hk.2, hk.1.2⟩⟩)⟩, ⟨by (with_reducible repeat (fail)); exact HO154.out⟩, ⟨by (with_reducible repeat (fail)); exact Kd.V_mono HO1_3.out (fun _ hk => ⟨hk.1.1, ⟨hk.2, hk.1.2⟩⟩)⟩, ⟨by (with_reducible repeat (fail)); exact BK151.out⟩, ⟨by repeat ((with_reducible first | exact HB.out | apply below_alloc | apply pw_below_drewN | apply below_drew1 | refine below_set ?_ GE151.out))⟩⟩
 case round =>
  clear H'
  try clear c1
  try clear p2
  try clear c4
  obtain ⟨x5_1, x6_1, x7_1, rfl, rfl, HA, HK1, HO_0, HO_5, HO_152003, BK151, HB⟩ := hrel
  cases gk with
  | zero => exact absurd HA.out (by simp [garnerref10_Put.l0])
  | succ k1 =>
   have H := HA.out
   clear HA
   simp only [garnerref10_Put.l0] at H
   by_cases c6 : x7_1 < (l0.length : Int)
   ·rw [if_pos c6] at H
    have c6b0 : decide (x7_1 < (l0.length : Int)) = true := decide_eq_true c6
    clear c6
    have HC7 := Aside0.mk H
    clear H
    go_upto_region 6 with (fail)
    repeat (go_quiet (fail); go_upto_region 6 with (fail))
    go_cut [26] (fun v26 wc => ∃ (kq : Nat) (x26_6 : Bool), v26 = .bool x26_6 ∧ Aside0 (garnerref10_Put.j1 kq l0 x5_1 x6_1 x7_1 x26_6 a1_0 a1_1 a1_2 l1_3 a1_4 a1_5 a1_6 a1_7 = some r) ∧ Aside0 (kq ≤ k1) ∧ Aside0 (Kd.V k38 38 wc w.heap.size (fun k_ => ((P0_ k_ ∨ P1_3_ k_) ∨ w.heap.size ≤ k_) ∧ some k_ ≠ (u5 : Value).ownBlock ∧ k_ ≠ gb151) (.slice A0 l0.length c0) l0) ∧ Aside0 (Kd.N k38 38 wc w.heap.size (fun k_ => ((P0_ k_ ∨ P1_3_ k_) ∨ w.heap.size ≤ k_) ∧ k_ ≠ gb151) u5 x5_1) ∧ Aside0 (Kd.V (Kd.int .u8) 5 wc w.heap.size (fun k_ => ((P0_ k_ ∨ P1_3_ k_) ∨ w.heap.size ≤ k_) ∧ some k_ ≠ (u5 : Value).ownBlock ∧ k_ ≠ gb151) (.slice A1_3 l1_3.length c1_3) l1_3) ∧ Aside0 (wc.heap[gb151]? = some (.cells #[.string a1_0, .bool a1_1, .bool a1_2, (.slice A1_3 l1_3.length c1_3), .int .i64 a1_4, .int .i64 a1_5, .int .i64 a1_6, .int .u32 a1_7] 38 (0, 0))) ∧ Aside0 (Below w.heap.size w wc))
    case first =>
     have H := HC7.out
     clear HC7
     by_cases c8 : x6_1 = true
     ·subst c8
      have H1 : (garnerref10_Put.j1 k1 l0 x5_1 true x7_1 false a1_0 a1_1 a1_2 l1_3 a1_4 a1_5 a1_6 a1_7) = some r := by rw [if_pos rfl] at H; exact H
      clear H
      have H := H1
      clear H1
      have H' := Aside0.mk H
      clear H
      go_wp2
      repeat (go_quiet (fail); try go_wp2)
      go_meet
      case rel => exact ⟨_, (false), (by first | rfl | (simp; done) | (simp [*]; done)), H', ⟨by have := HK1.out; first | omega | exact Nat.le_refl _⟩, ⟨by (with_reducible repeat (apply Kd.V_drewN)); exact HO_0.out⟩, ⟨by (with_reducible repeat (apply Kd.N_drewN)); exact HO_5.out⟩, ⟨by (with_reducible repeat (apply Kd.V_drewN)); exact HO_152003.out⟩, ⟨by (with_reducible repeat (refine blk_drewN ?_ _)); exact BK151.out⟩, ⟨by repeat ((with_reducible first | exact HB.out | apply below_alloc | apply pw_below_drewN | apply below_drew1 | refine below_set ?_ GE151.out))⟩⟩
     ·replace c8 := Bool.eq_false_iff.mpr c8
      subst c8
      have H1 : (if 0 ≤ x7_1 then (garnerref10_Put.j1 k1 l0 x5_1 false x7_1 (!(Op.bytesLess (((rd_T38 l0 x7_1).f0).toList) a1_0.toList)) a1_0 a1_1 a1_2 l1_3 a1_4 a1_5 a1_6 a1_7) else (none)) = some r := by rw [if_neg (show ¬ (false = true) by decide)] at H; exact H
      clear H
      have H := H1
      clear H1
      by_cases c9 : 0 ≤ x7_1
      ·rw [if_pos c9] at H
       have c9b0 : decide (0 ≤ x7_1) = true := decide_eq_true c9
       clear c9
       (skip)
       have H' := Aside0.mk H
       clear H
       have p158 : 0 ≤ (x7_1 : Int) := of_decide_eq_true (by first | (with_reducible assumption) | assumption)
       have q158 : x7_1 < (l0.length : Int) := of_decide_eq_true (by first | (with_reducible assumption) | assumption)
       obtain ⟨ad158, A158_3, c158_3, e158, hx158_0, hx158_1, hx158_2, hx158_3, hx158_4, hx158_5, hx158_6, hx158_7, hl158_3, hi158_3⟩ := at_T38 (Kd.V_reads' HO_0.out).2.2 x7_1 p158 q158
       cases e158
       obtain ⟨ce158, hce158, hMe158, hcc158⟩ := Kd.V_get HO_0.out z38 x7_1 p158 (by first | exact q158 | exact of_decide_eq_true (by first | (with_reducible assumption) | assumption) | (have e_ := (Kd.V_reads' HO_0.out).1; omega))
       obtain ⟨ua158_3, uc158_3, rfl, ul158_3, ge158_3⟩ := k38_openF hMe158
       have hv158_3 := hcc158 3 _ rfl
       rw [add_field _ _ 3 (by omega)] at hv158_3
       replace hv158_3 := Option.some.inj (hv158_3.symm.trans hx158_3)
       injection hv158_3 with hva_ hvn_ hvc_
       rw [hva_] at ge158_3
       rw [hvc_] at ul158_3
       have HL158_3 := Aside0.mk (show Kd.V (Kd.int .u8) 5 _ w.heap.size _ _ ((rd_T38 l0 x7_1).f2.f1) from Kd.V_mk ul158_3 ge158_3)
       clear hva_ hvn_ hvc_ ge158_3 ul158_3
       clear hcc158 hce158
       have HR158_3 := Aside0.mk hi158_3
       have HC158_3 := Aside0.mk hl158_3
       clear hi158_3 hl158_3
       replace p158 := eq_true p158
       replace q158 := eq_true q158
       have hcz10_0 : wr.cell? ⟨gb151, 0, none⟩ = some (.string a1_0) := (blk_cell BK151.out 0).trans rfl
       have hcz10_1 : wr.cell? ⟨gb151, 1, none⟩ = some (.bool a1_1) := (blk_cell BK151.out 1).trans rfl
       have hcz10_2 : wr.cell? ⟨gb151, 2, none⟩ = some (.bool a1_2) := (blk_cell BK151.out 2).trans rfl
       have hcz10_3 : wr.cell? ⟨gb151, 3, none⟩ = some (.slice A1_3 l1_3.length c1_3) := (blk_cell BK151.out 3).trans rfl
       have hcz10_4 : wr.cell? ⟨gb151, 4, none⟩ = some (.int .i64 a1_4) := (blk_cell BK151.out 4).trans rfl
       have hcz10_5 : wr.cell? ⟨gb151, 5, none⟩ = some (.int .i64 a1_5) := (blk_cell BK151.out 5).trans rfl
       have hcz10_6 : wr.cell? ⟨gb151, 6, none⟩ = some (.int .i64 a1_6) := (blk_cell BK151.out 6).trans rfl
       have hcz10_7 : wr.cell? ⟨gb151, 7, none⟩ = some (.int .u32 a1_7) := (blk_cell BK151.out 7).trans rfl
       have hfz10_0 := blk_frozen BK151.out 0
       have hfz10_1 := blk_frozen BK151.out 1
       have hfz10_2 := blk_frozen BK151.out 2
       have hfz10_3 := blk_frozen BK151.out 3
       have hfz10_4 := blk_frozen BK151.out 4
       have hfz10_5 := blk_frozen BK151.out 5
       have hfz10_6 := blk_frozen BK151.out 6
       have hfz10_7 := blk_frozen BK151.out 7
       go_wp2
       repeat (go_quiet (fail); try go_wp2)
       go_meet
       case rel => exact ⟨_, (!(Op.bytesLess (((rd_T38 l0 x7_1).f0).toList) a1_0.toList)), (by first | rfl | (simp; done) | (simp [*]; done)), H', ⟨by have := HK1.out; first | omega | exact Nat.le_refl _⟩, ⟨by (with_reducible repeat (apply Kd.V_drewN)); exact HO_0.out⟩, ⟨by (with_reducible repeat (apply Kd.N_drewN)); exact HO_5.out⟩, ⟨by (with_reducible repeat (apply Kd.V_drewN)); exact HO_152003.out⟩, ⟨by (with_reducible repeat (refine blk_drewN ?_ _)); exact BK151.out⟩, ⟨by repeat ((with_reducible first | exact HB.out | apply below_alloc | apply pw_below_drewN | apply below_drew1 | refine below_set ?_ GE151.out))⟩⟩
      ·rw [if_neg c9] at H
       exact absurd H (by simp)
    case rest =>
     clear HC7
     try clear c1
     try clear p1
     try clear q1
     try clear hx1
     try clear p2
     try clear c4
     try clear c6
     try clear c6b0
     try clear c8
     try clear c9
     try clear c9b0
     try clear hcz10_0
     try clear hcz10_1
     try clear hcz10_2
     try clear hcz10_3
     try clear hcz10_4
     try clear hcz10_5
     try clear hcz10_6
     try clear hcz10_7
     try clear hfz10_0
     try clear hfz10_1
     try clear hfz10_2
     try clear hfz10_3
     try clear hfz10_4
     try clear hfz10_5
     try clear hfz10_6
     try clear hfz10_7
     try clear hx158_0
     try clear hx158_1
     try clear hx158_2
     try clear hx158_3
     try clear hx158_4
     try clear hx158_5
     try clear hx158_6
     try clear hx158_7
     try clear p158
     try clear p2
     try clear q158
     obtain ⟨kq, x26_6, rfl, HA, HJ6, HO_0, HO_5, HO_152003, BK151, HB⟩ := hcut
     cases kq with
     | zero => exact absurd HA.out (by simp [garnerref10_Put.j1])
     | succ kj6 =>
      have H := HA.out
      clear HA
      simp only [garnerref10_Put.j1] at H
      by_cases c11 : x26_6 = true
      ·subst c11
       have H1 : (if x5_1.length < 1599289640401 then ((some (x5_1 ++ [(⟨a1_0, a1_1, (⟨a1_2, l1_3, (⟨a1_4, a1_5, a1_6, a1_7⟩ : S34)⟩ : S36)⟩ : S38)] : List (S38))).bind fun y159 => (if 0 ≤ x7_1 then (if x7_1 < (l0.length : Int) then (if ((rd_T38 l0 x7_1).f0).toList = a1_0.toList then (garnerref10_Put.l0 kj6 l0 y159 true (wrap64 (x7_1 + 1)) a1_0 a1_1 a1_2 l1_3 a1_4 a1_5 a1_6 a1_7) else (if y159.length < 1599289640401 then (garnerref10_Put.l0 kj6 l0 (y159 ++ [(⟨(rd_T38 l0 x7_1).f0, (rd_T38 l0 x7_1).f1, (⟨(rd_T38 l0 x7_1).f2.f0, (rd_T38 l0 x7_1).f2.f1, (⟨(rd_T38 l0 x7_1).f2.f2.f0, (rd_T38 l0 x7_1).f2.f2.f1, (rd_T38 l0 x7_1).f2.f2.f2, (rd_T38 l0 x7_1).f2.f2.f3⟩ : S34)⟩ : S36)⟩ : S38)]) true (wrap64 (x7_1 + 1)) a1_0 a1_1 a1_2 l1_3 a1_4 a1_5 a1_6 a1_7) else (none))) else (none)) else (none))) else (none)) = some r := by rw [if_pos rfl] at H; exact H
       clear H
       have H := H1
       clear H1
       by_cases c12 : x5_1.length < 1599289640401
       ·rw [if_pos c12] at H
        have LMc12 := Aside0.mk c12
        clear c12
        obtain ⟨y159, hy159⟩ : ∃ y_ : List (S38), y_ = (x5_1 ++ [(⟨a1_0, a1_1, (⟨a1_2, l1_3, (⟨a1_4, a1_5, a1_6, a1_7⟩ : S34)⟩ : S36)⟩ : S38)]) := ⟨_, rfl⟩
        replace H : (if 0 ≤ x7_1 then (if x7_1 < (l0.length : Int) then (if ((rd_T38 l0 x7_1).f0).toList = a1_0.toList then (garnerref10_Put.l0 kj6 l0 y159 true (wrap64 (x7_1 + 1)) a1_0 a1_1 a1_2 l1_3 a1_4 a1_5 a1_6 a1_7) else (if y159.length < 1599289640401 then (garnerref10_Put.l0 kj6 l0 (y159 ++ [(⟨(rd_T38 l0 x7_1).f0, (rd_T38 l0 x7_1).f1, (⟨(rd_T38 l0 x7_1).f2.f0, (rd_T38 l0 x7_1).f2.f1, (⟨(rd_T38 l0 x7_1).f2.f2.f0, (rd_T38 l0 x7_1).f2.f2.f1, (rd_T38 l0 x7_1).f2.f2.f2, (rd_T38 l0 x7_1).f2.f2.f3⟩ : S34)⟩ : S36)⟩ : S38)]) true (wrap64 (x7_1 + 1)) a1_0 a1_1 a1_2 l1_3 a1_4 a1_5 a1_6 a1_7) else (none))) else (none)) else (none)) = some r := by first | (rw [hy159]; with_reducible exact H) | (have H2_ := (Option.bind_some _ _).symm.trans H; rw [hy159]; with_reducible exact H2_) | (have H2_ := (Option.bind_some _ _).symm.trans H; with_reducible exact H2_) | with_reducible exact H | (rw [hy159]; exact H) | exact H
        have Ny159 := Aside0.mk hy159
        clear hy159
        by_cases c13 : 0 ≤ x7_1
        ·rw [if_pos c13] at H
         have c13b0 : decide (0 ≤ x7_1) = true := decide_eq_true c13
         clear c13
         by_cases c14 : x7_1 < (l0.length : Int)
         ·rw [if_pos c14] at H
          have c14b0 : decide (x7_1 < (l0.length : Int)) = true := decide_eq_true c14
          clear c14
          by_cases c15 : ((rd_T38 l0 x7_1).f0).toList = a1_0.toList
          ·rw [if_pos c15] at H
           have c15b0 : (((rd_T38 l0 x7_1).f0).toList == a1_0.toList) = true := beq_iff_eq.mpr c15
           have c15b1 : (((rd_T38 l0 x7_1).f0).toList != a1_0.toList) = false := bne_eq_false_iff_eq.mpr c15
           clear c15
           have H' := Aside0.mk H
           clear H
           have hcz16_0 : wc.cell? ⟨gb151, 0, none⟩ = some (.string a1_0) := (blk_cell BK151.out 0).trans rfl
           have hcz16_1 : wc.cell? ⟨gb151, 1, none⟩ = some (.bool a1_1) := (blk_cell BK151.out 1).trans rfl
           have hcz16_2 : wc.cell? ⟨gb151, 2, none⟩ = some (.bool a1_2) := (blk_cell BK151.out 2).trans rfl
           have hcz16_3 : wc.cell? ⟨gb151, 3, none⟩ = some (.slice A1_3 l1_3.length c1_3) := (blk_cell BK151.out 3).trans rfl
           have hcz16_4 : wc.cell? ⟨gb151, 4, none⟩ = some (.int .i64 a1_4) := (blk_cell BK151.out 4).trans rfl
           have hcz16_5 : wc.cell? ⟨gb151, 5, none⟩ = some (.int .i64 a1_5) := (blk_cell BK151.out 5).trans rfl
           have hcz16_6 : wc.cell? ⟨gb151, 6, none⟩ = some (.int .i64 a1_6) := (blk_cell BK151.out 6).trans rfl
           have hcz16_7 : wc.cell? ⟨gb151, 7, none⟩ = some (.int .u32 a1_7) := (blk_cell BK151.out 7).trans rfl
           have hfz16_0 := blk_frozen BK151.out 0
           have hfz16_1 := blk_frozen BK151.out 1
           have hfz16_2 := blk_frozen BK151.out 2
           have hfz16_3 := blk_frozen BK151.out 3
           have hfz16_4 := blk_frozen BK151.out 4
           have hfz16_5 := blk_frozen BK151.out 5
           have hfz16_6 := blk_frozen BK151.out 6
           have hfz16_7 := blk_frozen BK151.out 7
           go_wp2_with (((with_reducible refine gate_builtin (b := .append) (xs := #[.tmp 27, .tmp 29]) rfl ?_); at_builtin; refine Kd.N_append k38 (w0 := w) w.heap.size rfl (.tmp 27) (.tmp 29) 29 38 (.agg #[(.string ⟨#[]⟩), (.bool false), (.bool false), (.slice none 0 0), (.int .i64 0), (.int .i64 0), (.int .i64 0), (.int .u32 0)]) 88 rfl Try.underlying29 info38 rfl (by decide) (by omega) u5 x5_1 (⟨a1_0, a1_1, (⟨a1_2, l1_3, (⟨a1_4, a1_5, a1_6, a1_7⟩ : S34)⟩ : S36)⟩ : S38) [.string a1_0, .bool a1_1, .bool a1_2, .slice A1_3 l1_3.length c1_3, .int .i64 a1_4, .int .i64 a1_5, .int .i64 a1_6, .int .u32 a1_7] (fun k_ => ((P0_ k_ ∨ P1_3_ k_) ∨ w.heap.size ≤ k_) ∧ k_ ≠ gb151) (fun k_ => ((fun k_ => ((P0_ k_ ∨ P1_3_ k_) ∨ w.heap.size ≤ k_) ∧ k_ ≠ gb151)) k_ ∧ some k_ ≠ (u5 : Value).ownBlock) rfl rfl ?aP (fun _ hk => hk) ?aF ?aO ?aB ?aS ?aL ?_; (case aP => exact (k38_mkF _ _ (⟨a1_0, a1_1, (⟨a1_2, l1_3, (⟨a1_4, a1_5, a1_6, a1_7⟩ : S34)⟩ : S36)⟩ : S38) (Kd.V_reads' (Kd.V_mono (ok' := (fun k_ => ((fun k_ => ((P0_ k_ ∨ P1_3_ k_) ∨ w.heap.size ≤ k_) ∧ k_ ≠ gb151)) k_ ∧ some k_ ≠ (u5 : Value).ownBlock)) (HO_152003.out) (fun k_ hk => ⟨⟨hk.1, hk.2.2⟩, hk.2.1⟩))).2.1 (Kd.V_F (Kd.V_mono (ok' := (fun k_ => ((fun k_ => ((P0_ k_ ∨ P1_3_ k_) ∨ w.heap.size ≤ k_) ∧ k_ ≠ gb151)) k_ ∧ some k_ ≠ (u5 : Value).ownBlock)) (HO_152003.out) (fun k_ hk => ⟨⟨hk.1, hk.2.2⟩, hk.2.1⟩))))); (case aB => exact (by repeat ((with_reducible first | exact HB.out | apply below_alloc | apply pw_below_drewN | apply below_drew1 | refine below_set ?_ GE151.out)))); (case aF => exact (fun k_ hk => ⟨(.inr (Nat.le_trans (below_size (by repeat ((with_reducible first | exact HB.out | apply below_alloc | apply pw_below_drewN | apply below_drew1 | refine below_set ?_ GE151.out)))) hk)), Kd.freshB (g := gb151) (o := .cells #[.string a1_0, .bool a1_1, .bool a1_2, .slice A1_3 l1_3.length c1_3, .int .i64 a1_4, .int .i64 a1_5, .int .i64 a1_6, .int .u32 a1_7] 38 (0, 0)) (by (with_reducible repeat (fail)); exact BK151.out) k_ hk⟩)); (case aO => exact (by (with_reducible repeat (fail)); exact HO_5.out)); (case aS => exact (below_size (by repeat ((with_reducible first | exact HB.out | apply below_alloc | apply pw_below_drewN | apply below_drew1 | refine below_set ?_ GE151.out))))); (case aL => have := LMc12.out; omega); intro v160 w17 ho hb hg hat; rw [← Ny159.out] at ho; have n0_ := Aside0.mk (Kd.V_afterv (ok := (fun k_ => ((P0_ k_ ∨ P1_3_ k_) ∨ w.heap.size ≤ k_) ∧ k_ ≠ gb151)) (by (with_reducible repeat (fail)); exact Kd.V_mono HO_0.out (fun _ hk => ⟨⟨hk.1, hk.2.2⟩, hk.2.1⟩)) hg hat); have n1_ := Aside0.mk (Kd.V_afterv (ok := (fun k_ => ((P0_ k_ ∨ P1_3_ k_) ∨ w.heap.size ≤ k_) ∧ k_ ≠ gb151)) (by (with_reducible repeat (fail)); exact Kd.V_mono HO_152003.out (fun _ hk => ⟨⟨hk.1, hk.2.2⟩, hk.2.1⟩)) hg hat); have n2_ := Aside0.mk (blk_grown (g := gb151) (o := .cells #[.string a1_0, .bool a1_1, .bool a1_2, .slice A1_3 l1_3.length c1_3, .int .i64 a1_4, .int .i64 a1_5, .int .i64 a1_6, .int .u32 a1_7] 38 (0, 0)) (by (with_reducible repeat (fail)); exact BK151.out) hg (Kd.N_away HO_5.out (fun _ hk => hk.2))); have n3_ := Aside0.mk (hb); have n4_ := Aside0.mk (ho); clear HO_0; clear HO_152003; clear BK151; clear HB; clear HO_5; have HO_0 := n0_; have HO_152003 := n1_; have BK151 := n2_; have HB := n3_; have HO161 := n4_; clear n0_ n1_ n2_ n3_ n4_; clear ho hb hg hat; have p162 : 0 ≤ (x7_1 : Int) := of_decide_eq_true (by first | (with_reducible assumption) | assumption); have q162 : x7_1 < (l0.length : Int) := of_decide_eq_true (by first | (with_reducible assumption) | assumption); obtain ⟨ad162, A162_3, c162_3, e162, hx162_0, hx162_1, hx162_2, hx162_3, hx162_4, hx162_5, hx162_6, hx162_7, hl162_3, hi162_3⟩ := at_T38 (Kd.V_reads' HO_0.out).2.2 x7_1 p162 q162; cases e162; obtain ⟨ce162, hce162, hMe162, hcc162⟩ := Kd.V_get HO_0.out z38 x7_1 p162 (by first | exact q162 | exact of_decide_eq_true (by first | (with_reducible assumption) | assumption) | (have e_ := (Kd.V_reads' HO_0.out).1; omega)); obtain ⟨ua162_3, uc162_3, rfl, ul162_3, ge162_3⟩ := k38_openF hMe162; have hv162_3 := hcc162 3 _ rfl; rw [add_field _ _ 3 (by omega)] at hv162_3; replace hv162_3 := Option.some.inj (hv162_3.symm.trans hx162_3); injection hv162_3 with hva_ hvn_ hvc_; rw [hva_] at ge162_3; rw [hvc_] at ul162_3; have HL162_3 := Aside0.mk (show Kd.V (Kd.int .u8) 5 _ w.heap.size _ _ ((rd_T38 l0 x7_1).f2.f1) from Kd.V_mk ul162_3 ge162_3); clear hva_ hvn_ hvc_ ge162_3 ul162_3; clear hcc162 hce162; have HR162_3 := Aside0.mk hi162_3; have HC162_3 := Aside0.mk hl162_3; clear hi162_3 hl162_3; replace p162 := eq_true p162; replace q162 := eq_true q162; have hcz18_0 : w17.cell? ⟨gb151, 0, none⟩ = some (.string a1_0) := (blk_cell BK151.out 0).trans rfl; have hcz18_1 : w17.cell? ⟨gb151, 1, none⟩ = some (.bool a1_1) := (blk_cell BK151.out 1).trans rfl; have hcz18_2 : w17.cell? ⟨gb151, 2, none⟩ = some (.bool a1_2) := (blk_cell BK151.out 2).trans rfl; have hcz18_3 : w17.cell? ⟨gb151, 3, none⟩ = some (.slice A1_3 l1_3.length c1_3) := (blk_cell BK151.out 3).trans rfl; have hcz18_4 : w17.cell? ⟨gb151, 4, none⟩ = some (.int .i64 a1_4) := (blk_cell BK151.out 4).trans rfl; have hcz18_5 : w17.cell? ⟨gb151, 5, none⟩ = some (.int .i64 a1_5) := (blk_cell BK151.out 5).trans rfl; have hcz18_6 : w17.cell? ⟨gb151, 6, none⟩ = some (.int .i64 a1_6) := (blk_cell BK151.out 6).trans rfl; have hcz18_7 : w17.cell? ⟨gb151, 7, none⟩ = some (.int .u32 a1_7) := (blk_cell BK151.out 7).trans rfl; have hfz18_0 := blk_frozen BK151.out 0; have hfz18_1 := blk_frozen BK151.out 1; have hfz18_2 := blk_frozen BK151.out 2; have hfz18_3 := blk_frozen BK151.out 3; have hfz18_4 := blk_frozen BK151.out 4; have hfz18_5 := blk_frozen BK151.out 5; have hfz18_6 := blk_frozen BK151.out 6; have hfz18_7 := blk_frozen BK151.out 7))
           repeat (go_quiet (fail); try go_wp2_with (fail))
           go_roundg kj6
           case measure => have := HK1.out; have := HJ6.out; omega
           case rel => exact ⟨(y159), (true), (wrap64 (x7_1 + 1)), (by first | rfl | (simp; done) | (simp [*]; done)), (by first | rfl | (simp; done) | (simp [*]; done)), H', ⟨by have := HK1.out; have := HJ6.out; omega⟩, ⟨by (with_reducible repeat (apply Kd.V_drewN)); exact Kd.V_mono HO_0.out (fun _ hk => ⟨hk.1.1, ⟨hk.2, hk.1.2⟩⟩)⟩, ⟨by (with_reducible repeat (apply Kd.N_drewN)); exact HO161.out⟩, ⟨by (with_reducible repeat (apply Kd.V_drewN)); exact Kd.V_mono HO_152003.out (fun _ hk => ⟨hk.1.1, ⟨hk.2, hk.1.2⟩⟩)⟩, ⟨by (with_reducible repeat (refine blk_drewN ?_ _)); exact BK151.out⟩, ⟨by repeat ((with_reducible first | exact HB.out | apply below_alloc | apply pw_below_drewN | apply below_drew1 | refine below_set ?_ GE151.out))⟩⟩
          ·rw [if_neg c15] at H
           have c15b0 : (((rd_T38 l0 x7_1).f0).toList == a1_0.toList) = false := beq_eq_false_iff_ne.mpr c15
           have c15b1 : (((rd_T38 l0 x7_1).f0).toList != a1_0.toList) = true := bne_iff_ne.mpr c15
           by_cases c19 : y159.length < 1599289640401
           ·rw [if_pos c19] at H
            have LMc19 := Aside0.mk c19
            clear c19
            obtain ⟨y164, hy164⟩ : ∃ y_ : List (S38), y_ = (y159 ++ [(⟨(rd_T38 l0 x7_1).f0, (rd_T38 l0 x7_1).f1, (⟨(rd_T38 l0 x7_1).f2.f0, (rd_T38 l0 x7_1).f2.f1, (⟨(rd_T38 l0 x7_1).f2.f2.f0, (rd_T38 l0 x7_1).f2.f2.f1, (rd_T38 l0 x7_1).f2.f2.f2, (rd_T38 l0 x7_1).f2.f2.f3⟩ : S34)⟩ : S36)⟩ : S38)]) := ⟨_, rfl⟩
            replace H : (garnerref10_Put.l0 kj6 l0 y164 true (wrap64 (x7_1 + 1)) a1_0 a1_1 a1_2 l1_3 a1_4 a1_5 a1_6 a1_7) = some r := by first | (rw [hy164]; with_reducible exact H) | (have H2_ := (Option.bind_some _ _).symm.trans H; rw [hy164]; with_reducible exact H2_) | (have H2_ := (Option.bind_some _ _).symm.trans H; with_reducible exact H2_) | with_reducible exact H | (rw [hy164]; exact H) | exact H
            have Ny164 := Aside0.mk hy164
            clear hy164
            have H' := Aside0.mk H
            clear H
            have hcz20_0 : wc.cell? ⟨gb151, 0, none⟩ = some (.string a1_0) := (blk_cell BK151.out 0).trans rfl
            have hcz20_1 : wc.cell? ⟨gb151, 1, none⟩ = some (.bool a1_1) := (blk_cell BK151.out 1).trans rfl
            have hcz20_2 : wc.cell? ⟨gb151, 2, none⟩ = some (.bool a1_2) := (blk_cell BK151.out 2).trans rfl
            have hcz20_3 : wc.cell? ⟨gb151, 3, none⟩ = some (.slice A1_3 l1_3.length c1_3) := (blk_cell BK151.out 3).trans rfl
            have hcz20_4 : wc.cell? ⟨gb151, 4, none⟩ = some (.int .i64 a1_4) := (blk_cell BK151.out 4).trans rfl
            have hcz20_5 : wc.cell? ⟨gb151, 5, none⟩ = some (.int .i64 a1_5) := (blk_cell BK151.out 5).trans rfl
            have hcz20_6 : wc.cell? ⟨gb151, 6, none⟩ = some (.int .i64 a1_6) := (blk_cell BK151.out 6).trans rfl
            have hcz20_7 : wc.cell? ⟨gb151, 7, none⟩ = some (.int .u32 a1_7) := (blk_cell BK151.out 7).trans rfl
            have hfz20_0 := blk_frozen BK151.out 0
            have hfz20_1 := blk_frozen BK151.out 1
            have hfz20_2 := blk_frozen BK151.out 2
            have hfz20_3 := blk_frozen BK151.out 3
            have hfz20_4 := blk_frozen BK151.out 4
            have hfz20_5 := blk_frozen BK151.out 5
            have hfz20_6 := blk_frozen BK151.out 6
            have hfz20_7 := blk_frozen BK151.out 7
            go_wp2_with (((with_reducible refine gate_builtin (b := .append) (xs := #[.tmp 27, .tmp 29]) rfl ?_); at_builtin; refine Kd.N_append k38 (w0 := w) w.heap.size rfl (.tmp 27) (.tmp 29) 29 38 (.agg #[(.string ⟨#[]⟩), (.bool false), (.bool false), (.slice none 0 0), (.int .i64 0), (.int .i64 0), (.int .i64 0), (.int .u32 0)]) 88 rfl Try.underlying29 info38 rfl (by decide) (by omega) u5 x5_1 (⟨a1_0, a1_1, (⟨a1_2, l1_3, (⟨a1_4, a1_5, a1_6, a1_7⟩ : S34)⟩ : S36)⟩ : S38) [.string a1_0, .bool a1_1, .bool a1_2, .slice A1_3 l1_3.length c1_3, .int .i64 a1_4, .int .i64 a1_5, .int .i64 a1_6, .int .u32 a1_7] (fun k_ => ((P0_ k_ ∨ P1_3_ k_) ∨ w.heap.size ≤ k_) ∧ k_ ≠ gb151) (fun k_ => ((fun k_ => ((P0_ k_ ∨ P1_3_ k_) ∨ w.heap.size ≤ k_) ∧ k_ ≠ gb151)) k_ ∧ some k_ ≠ (u5 : Value).ownBlock) rfl rfl ?aP (fun _ hk => hk) ?aF ?aO ?aB ?aS ?aL ?_; (case aP => exact (k38_mkF _ _ (⟨a1_0, a1_1, (⟨a1_2, l1_3, (⟨a1_4, a1_5, a1_6, a1_7⟩ : S34)⟩ : S36)⟩ : S38) (Kd.V_reads' (Kd.V_mono (ok' := (fun k_ => ((fun k_ => ((P0_ k_ ∨ P1_3_ k_) ∨ w.heap.size ≤ k_) ∧ k_ ≠ gb151)) k_ ∧ some k_ ≠ (u5 : Value).ownBlock)) (HO_152003.out) (fun k_ hk => ⟨⟨hk.1, hk.2.2⟩, hk.2.1⟩))).2.1 (Kd.V_F (Kd.V_mono (ok' := (fun k_ => ((fun k_ => ((P0_ k_ ∨ P1_3_ k_) ∨ w.heap.size ≤ k_) ∧ k_ ≠ gb151)) k_ ∧ some k_ ≠ (u5 : Value).ownBlock)) (HO_152003.out) (fun k_ hk => ⟨⟨hk.1, hk.2.2⟩, hk.2.1⟩))))); (case aB => exact (by repeat ((with_reducible first | exact HB.out | apply below_alloc | apply pw_below_drewN | apply below_drew1 | refine below_set ?_ GE151.out)))); (case aF => exact (fun k_ hk => ⟨(.inr (Nat.le_trans (below_size (by repeat ((with_reducible first | exact HB.out | apply below_alloc | apply pw_below_drewN | apply below_drew1 | refine below_set ?_ GE151.out)))) hk)), Kd.freshB (g := gb151) (o := .cells #[.string a1_0, .bool a1_1, .bool a1_2, .slice A1_3 l1_3.length c1_3, .int .i64 a1_4, .int .i64 a1_5, .int .i64 a1_6, .int .u32 a1_7] 38 (0, 0)) (by (with_reducible repeat (fail)); exact BK151.out) k_ hk⟩)); (case aO => exact (by (with_reducible repeat (fail)); exact HO_5.out)); (case aS => exact (below_size (by repeat ((with_reducible first | exact HB.out | apply below_alloc | apply pw_below_drewN | apply below_drew1 | refine below_set ?_ GE151.out))))); (case aL => have := LMc12.out; omega); intro v160 w21 ho hb hg hat; rw [← Ny159.out] at ho; have n0_ := Aside0.mk (Kd.V_afterv (ok := (fun k_ => ((P0_ k_ ∨ P1_3_ k_) ∨ w.heap.size ≤ k_) ∧ k_ ≠ gb151)) (by (with_reducible repeat (fail)); exact Kd.V_mono HO_0.out (fun _ hk => ⟨⟨hk.1, hk.2.2⟩, hk.2.1⟩)) hg hat); have n1_ := Aside0.mk (Kd.V_afterv (ok := (fun k_ => ((P0_ k_ ∨ P1_3_ k_) ∨ w.heap.size ≤ k_) ∧ k_ ≠ gb151)) (by (with_reducible repeat (fail)); exact Kd.V_mono HO_152003.out (fun _ hk => ⟨⟨hk.1, hk.2.2⟩, hk.2.1⟩)) hg hat); have n2_ := Aside0.mk (blk_grown (g := gb151) (o := .cells #[.string a1_0, .bool a1_1, .bool a1_2, .slice A1_3 l1_3.length c1_3, .int .i64 a1_4, .int .i64 a1_5, .int .i64 a1_6, .int .u32 a1_7] 38 (0, 0)) (by (with_reducible repeat (fail)); exact BK151.out) hg (Kd.N_away HO_5.out (fun _ hk => hk.2))); have n3_ := Aside0.mk (hb); have n4_ := Aside0.mk (ho); clear HO_0; clear HO_152003; clear BK151; clear HB; clear HO_5; have HO_0 := n0_; have HO_152003 := n1_; have BK151 := n2_; have HB := n3_; have HO161 := n4_; clear n0_ n1_ n2_ n3_ n4_; clear ho hb hg hat; have p162 : 0 ≤ (x7_1 : Int) := of_decide_eq_true (by first | (with_reducible assumption) | assumption); have q162 : x7_1 < (l0.length : Int) := of_decide_eq_true (by first | (with_reducible assumption) | assumption); obtain ⟨ad162, A162_3, c162_3, e162, hx162_0, hx162_1, hx162_2, hx162_3, hx162_4, hx162_5, hx162_6, hx162_7, hl162_3, hi162_3⟩ := at_T38 (Kd.V_reads' HO_0.out).2.2 x7_1 p162 q162; cases e162; obtain ⟨ce162, hce162, hMe162, hcc162⟩ := Kd.V_get HO_0.out z38 x7_1 p162 (by first | exact q162 | exact of_decide_eq_true (by first | (with_reducible assumption) | assumption) | (have e_ := (Kd.V_reads' HO_0.out).1; omega)); obtain ⟨ua162_3, uc162_3, rfl, ul162_3, ge162_3⟩ := k38_openF hMe162; have hv162_3 := hcc162 3 _ rfl; rw [add_field _ _ 3 (by omega)] at hv162_3; replace hv162_3 := Option.some.inj (hv162_3.symm.trans hx162_3); injection hv162_3 with hva_ hvn_ hvc_; rw [hva_] at ge162_3; rw [hvc_] at ul162_3; have HL162_3 := Aside0.mk (show Kd.V (Kd.int .u8) 5 _ w.heap.size _ _ ((rd_T38 l0 x7_1).f2.f1) from Kd.V_mk ul162_3 ge162_3); clear hva_ hvn_ hvc_ ge162_3 ul162_3; clear hcc162 hce162; have HR162_3 := Aside0.mk hi162_3; have HC162_3 := Aside0.mk hl162_3; clear hi162_3 hl162_3; replace p162 := eq_true p162; replace q162 := eq_true q162; have hcz22_0 : w21.cell? ⟨gb151, 0, none⟩ = some (.string a1_0) := (blk_cell BK151.out 0).trans rfl; have hcz22_1 : w21.cell? ⟨gb151, 1, none⟩ = some (.bool a1_1) := (blk_cell BK151.out 1).trans rfl; have hcz22_2 : w21.cell? ⟨gb151, 2, none⟩ = some (.bool a1_2) := (blk_cell BK151.out 2).trans rfl; have hcz22_3 : w21.cell? ⟨gb151, 3, none⟩ = some (.slice A1_3 l1_3.length c1_3) := (blk_cell BK151.out 3).trans rfl; have hcz22_4 : w21.cell? ⟨gb151, 4, none⟩ = some (.int .i64 a1_4) := (blk_cell BK151.out 4).trans rfl; have hcz22_5 : w21.cell? ⟨gb151, 5, none⟩ = some (.int .i64 a1_5) := (blk_cell BK151.out 5).trans rfl; have hcz22_6 : w21.cell? ⟨gb151, 6, none⟩ = some (.int .i64 a1_6) := (blk_cell BK151.out 6).trans rfl; have hcz22_7 : w21.cell? ⟨gb151, 7, none⟩ = some (.int .u32 a1_7) := (blk_cell BK151.out 7).trans rfl; have hfz22_0 := blk_frozen BK151.out 0; have hfz22_1 := blk_frozen BK151.out 1; have hfz22_2 := blk_frozen BK151.out 2; have hfz22_3 := blk_frozen BK151.out 3; have hfz22_4 := blk_frozen BK151.out 4; have hfz22_5 := blk_frozen BK151.out 5; have hfz22_6 := blk_frozen BK151.out 6; have hfz22_7 := blk_frozen BK151.out 7; have p163 : 0 ≤ (x7_1 : Int) := of_decide_eq_true (by first | (with_reducible assumption) | assumption); have q163 : x7_1 < (l0.length : Int) := of_decide_eq_true (by first | (with_reducible assumption) | assumption); obtain ⟨ad163, A163_3, c163_3, e163, hx163_0, hx163_1, hx163_2, hx163_3, hx163_4, hx163_5, hx163_6, hx163_7, hl163_3, hi163_3⟩ := at_T38 (Kd.V_reads' HO_0.out).2.2 x7_1 p163 q163; obtain rfl : ad162 = ad163 := (by injection e163); obtain ⟨ce163, hce163, hMe163, hcc163⟩ := Kd.V_get HO_0.out z38 x7_1 p163 (by first | exact q163 | exact of_decide_eq_true (by first | (with_reducible assumption) | assumption) | (have e_ := (Kd.V_reads' HO_0.out).1; omega)); obtain ⟨ua163_3, uc163_3, rfl, ul163_3, ge163_3⟩ := k38_openF hMe163; have hv163_3 := hcc163 3 _ rfl; rw [add_field _ _ 3 (by omega)] at hv163_3; replace hv163_3 := Option.some.inj (hv163_3.symm.trans hx163_3); injection hv163_3 with hva_ hvn_ hvc_; rw [hva_] at ge163_3; rw [hvc_] at ul163_3; have HL163_3 := Aside0.mk (show Kd.V (Kd.int .u8) 5 _ w.heap.size _ _ ((rd_T38 l0 x7_1).f2.f1) from Kd.V_mk ul163_3 ge163_3); clear hva_ hvn_ hvc_ ge163_3 ul163_3; clear hcc163 hce163; have HR163_3 := Aside0.mk hi163_3; have HC163_3 := Aside0.mk hl163_3; clear hi163_3 hl163_3; replace p163 := eq_true p163; replace q163 := eq_true q163; have ea_ := Option.some.inj (hx162_3.symm.trans hx163_3); injection ea_ with ea_ en_ ec_; subst ea_; subst ec_; clear en_))
            repeat (go_quiet (fail); try go_wp2_with (((with_reducible refine gate_builtin (b := .append) (xs := #[.tmp 39, .tmp 44]) rfl ?_); at_builtin; refine Kd.N_append k38 (w0 := w) w.heap.size rfl (.tmp 39) (.tmp 44) 29 38 (.agg #[(.string ⟨#[]⟩), (.bool false), (.bool false), (.slice none 0 0), (.int .i64 0), (.int .i64 0), (.int .i64 0), (.int .u32 0)]) 88 rfl Try.underlying29 info38 rfl (by decide) (by omega) v160 y159 (⟨(rd_T38 l0 x7_1).f0, (rd_T38 l0 x7_1).f1, (⟨(rd_T38 l0 x7_1).f2.f0, (rd_T38 l0 x7_1).f2.f1, (⟨(rd_T38 l0 x7_1).f2.f2.f0, (rd_T38 l0 x7_1).f2.f2.f1, (rd_T38 l0 x7_1).f2.f2.f2, (rd_T38 l0 x7_1).f2.f2.f3⟩ : S34)⟩ : S36)⟩ : S38) [.string ((rd_T38 l0 x7_1).f0), .bool ((rd_T38 l0 x7_1).f1), .bool ((rd_T38 l0 x7_1).f2.f0), .slice A162_3 ((rd_T38 l0 x7_1).f2.f1).length c162_3, .int .i64 ((rd_T38 l0 x7_1).f2.f2.f0), .int .i64 ((rd_T38 l0 x7_1).f2.f2.f1), .int .i64 ((rd_T38 l0 x7_1).f2.f2.f2), .int .u32 ((rd_T38 l0 x7_1).f2.f2.f3)] (fun k_ => ((P0_ k_ ∨ P1_3_ k_) ∨ w.heap.size ≤ k_) ∧ k_ ≠ gb151) (fun k_ => ((fun k_ => ((P0_ k_ ∨ P1_3_ k_) ∨ w.heap.size ≤ k_) ∧ k_ ≠ gb151)) k_ ∧ some k_ ≠ (v160 : Value).ownBlock) rfl rfl ?aP (fun _ hk => hk) ?aF ?aO ?aB ?aS ?aL ?_; (case aP => have h1_ := (Kd.V_mono (ok' := (fun k_ => ((fun k_ => ((P0_ k_ ∨ P1_3_ k_) ∨ w.heap.size ≤ k_) ∧ k_ ≠ gb151)) k_ ∧ some k_ ≠ (v160 : Value).ownBlock)) (Kd.V_drewN HL163_3.out nq) (fun k_ hk => ⟨⟨hk.1.1, hk.1.2⟩, hk.2⟩)); have h2_ := Kd.V_reads' h1_; have h3_ := Kd.V_F h1_; exact k38_mkF _ _ _ h2_.2.1 h3_); (case aB => exact (by repeat ((with_reducible first | exact HB.out | apply below_alloc | apply pw_below_drewN | apply below_drew1 | refine below_set ?_ GE151.out)))); (case aF => exact (fun k_ hk => ⟨(.inr (Nat.le_trans (below_size (by repeat ((with_reducible first | exact HB.out | apply below_alloc | apply pw_below_drewN | apply below_drew1 | refine below_set ?_ GE151.out)))) hk)), Kd.freshB (g := gb151) (o := .cells #[.string a1_0, .bool a1_1, .bool a1_2, .slice A1_3 l1_3.length c1_3, .int .i64 a1_4, .int .i64 a1_5, .int .i64 a1_6, .int .u32 a1_7] 38 (0, 0)) (by (with_reducible repeat (refine blk_drewN ?_ _)); exact BK151.out) k_ hk⟩)); (case aO => exact (by (with_reducible repeat (apply Kd.N_drewN)); exact HO161.out)); (case aS => exact (below_size (by repeat ((with_reducible first | exact HB.out | apply below_alloc | apply pw_below_drewN | apply below_drew1 | refine below_set ?_ GE151.out))))); (case aL => have := LMc19.out; omega); intro v165 w23 ho hb hg hat; rw [← Ny164.out] at ho; have n0_ := Aside0.mk (Kd.V_afterv (ok := (fun k_ => ((P0_ k_ ∨ P1_3_ k_) ∨ w.heap.size ≤ k_) ∧ k_ ≠ gb151)) (by (with_reducible repeat (apply Kd.V_drewN)); exact HO_0.out) hg hat); have n1_ := Aside0.mk (Kd.V_afterv (ok := (fun k_ => ((P0_ k_ ∨ P1_3_ k_) ∨ w.heap.size ≤ k_) ∧ k_ ≠ gb151)) (by (with_reducible repeat (apply Kd.V_drewN)); exact HO_152003.out) hg hat); have n2_ := Aside0.mk (blk_grown (g := gb151) (o := .cells #[.string a1_0, .bool a1_1, .bool a1_2, .slice A1_3 l1_3.length c1_3, .int .i64 a1_4, .int .i64 a1_5, .int .i64 a1_6, .int .u32 a1_7] 38 (0, 0)) (by (with_reducible repeat (refine blk_drewN ?_ _)); exact BK151.out) hg (Kd.N_away HO161.out (fun _ hk => hk.2))); have n3_ := Aside0.mk (Kd.V_afterv (ok := (fun k_ => ((P0_ k_ ∨ P1_3_ k_) ∨ w.heap.size ≤ k_) ∧ k_ ≠ gb151)) (by (with_reducible repeat (apply Kd.V_drewN)); exact HL162_3.out) hg hat); have n4_ := Aside0.mk (Kd.V_afterv (ok := (fun k_ => ((P0_ k_ ∨ P1_3_ k_) ∨ w.heap.size ≤ k_) ∧ k_ ≠ gb151)) (by (with_reducible repeat (apply Kd.V_drewN)); exact HL163_3.out) hg hat); have n5_ := Aside0.mk (hb); have n6_ := Aside0.mk (ho); clear HO_0; clear HO_152003; clear BK151; clear HL162_3; clear HL163_3; clear HB; clear HO161; have HO_0 := n0_; have HO_152003 := n1_; have BK151 := n2_; have HL162_3 := n3_; have HL163_3 := n4_; have HB := n5_; have HO166 := n6_; clear n0_ n1_ n2_ n3_ n4_ n5_ n6_; clear ho hb hg hat)))
            go_roundg kj6
            case measure => have := HK1.out; have := HJ6.out; omega
            case rel => exact ⟨(y164), (true), (wrap64 (x7_1 + 1)), (by first | rfl | (simp; done) | (simp [*]; done)), (by first | rfl | (simp; done) | (simp [*]; done)), H', ⟨by have := HK1.out; have := HJ6.out; omega⟩, ⟨by (with_reducible repeat (fail)); exact Kd.V_mono HO_0.out (fun _ hk => ⟨hk.1.1, ⟨hk.2, hk.1.2⟩⟩)⟩, ⟨by (with_reducible repeat (fail)); exact HO166.out⟩, ⟨by (with_reducible repeat (fail)); exact Kd.V_mono HO_152003.out (fun _ hk => ⟨hk.1.1, ⟨hk.2, hk.1.2⟩⟩)⟩, ⟨by (with_reducible repeat (fail)); exact BK151.out⟩, ⟨by repeat ((with_reducible first | exact HB.out | apply below_alloc | apply pw_below_drewN | apply below_drew1 | refine below_set ?_ GE151.out))⟩⟩
           ·rw [if_neg c19] at H
            exact absurd H (by simp)
         ·rw [if_neg c14] at H
          exact absurd H (by simp)
        ·rw [if_neg c13] at H
         exact absurd H (by simp)
       ·rw [if_neg c12] at H
        exact absurd H (by simp)
      ·replace c11 := Bool.eq_false_iff.mpr c11
       subst c11
       have H1 : (if 0 ≤ x7_1 then (if x7_1 < (l0.length : Int) then (if ((rd_T38 l0 x7_1).f0).toList = a1_0.toList then (garnerref10_Put.l0 kj6 l0 x5_1 x6_1 (wrap64 (x7_1 + 1)) a1_0 a1_1 a1_2 l1_3 a1_4 a1_5 a1_6 a1_7) else (if x5_1.length < 1599289640401 then (garnerref10_Put.l0 kj6 l0 (x5_1 ++ [(⟨(rd_T38 l0 x7_1).f0, (rd_T38 l0 x7_1).f1, (⟨(rd_T38 l0 x7_1).f2.f0, (rd_T38 l0 x7_1).f2.f1, (⟨(rd_T38 l0 x7_1).f2.f2.f0, (rd_T38 l0 x7_1).f2.f2.f1, (rd_T38 l0 x7_1).f2.f2.f2, (rd_T38 l0 x7_1).f2.f2.f3⟩ : S34)⟩ : S36)⟩ : S38)]) x6_1 (wrap64 (x7_1 + 1)) a1_0 a1_1 a1_2 l1_3 a1_4 a1_5 a1_6 a1_7) else (none))) else (none)) else (none)) = some r := by rw [if_neg (show ¬ (false = true) by decide)] at H; exact H
       clear H
       have H := H1
       clear H1
       by_cases c24 : 0 ≤ x7_1
       ·rw [if_pos c24] at H
        have c24b0 : decide (0 ≤ x7_1) = true := decide_eq_true c24
        clear c24
        by_cases c25 : x7_1 < (l0.length : Int)
        ·rw [if_pos c25] at H
         have c25b0 : decide (x7_1 < (l0.length : Int)) = true := decide_eq_true c25
         clear c25
         by_cases c26 : ((rd_T38 l0 x7_1).f0).toList = a1_0.toList
         ·rw [if_pos c26] at H
          have c26b0 : (((rd_T38 l0 x7_1).f0).toList == a1_0.toList) = true := beq_iff_eq.mpr c26
          have c26b1 : (((rd_T38 l0 x7_1).f0).toList != a1_0.toList) = false := bne_eq_false_iff_eq.mpr c26
          clear c26
          have H' := Aside0.mk H
          clear H
          have p167 : 0 ≤ (x7_1 : Int) := of_decide_eq_true (by first | (with_reducible assumption) | assumption)
          have q167 : x7_1 < (l0.length : Int) := of_decide_eq_true (by first | (with_reducible assumption) | assumption)
          obtain ⟨ad167, A167_3, c167_3, e167, hx167_0, hx167_1, hx167_2, hx167_3, hx167_4, hx167_5, hx167_6, hx167_7, hl167_3, hi167_3⟩ := at_T38 (Kd.V_reads' HO_0.out).2.2 x7_1 p167 q167
          cases e167
          obtain ⟨ce167, hce167, hMe167, hcc167⟩ := Kd.V_get HO_0.out z38 x7_1 p167 (by first | exact q167 | exact of_decide_eq_true (by first | (with_reducible assumption) | assumption) | (have e_ := (Kd.V_reads' HO_0.out).1; omega))
          obtain ⟨ua167_3, uc167_3, rfl, ul167_3, ge167_3⟩ := k38_openF hMe167
          have hv167_3 := hcc167 3 _ rfl
          rw [add_field _ _ 3 (by omega)] at hv167_3
          replace hv167_3 := Option.some.inj (hv167_3.symm.trans hx167_3)
          injection hv167_3 with hva_ hvn_ hvc_
          rw [hva_] at ge167_3
          rw [hvc_] at ul167_3
          have HL167_3 := Aside0.mk (show Kd.V (Kd.int .u8) 5 _ w.heap.size _ _ ((rd_T38 l0 x7_1).f2.f1) from Kd.V_mk ul167_3 ge167_3)
          clear hva_ hvn_ hvc_ ge167_3 ul167_3
          clear hcc167 hce167
          have HR167_3 := Aside0.mk hi167_3
          have HC167_3 := Aside0.mk hl167_3
          clear hi167_3 hl167_3
          replace p167 := eq_true p167
          replace q167 := eq_true q167
          have hcz27_0 : wc.cell? ⟨gb151, 0, none⟩ = some (.string a1_0) := (blk_cell BK151.out 0).trans rfl
          have hcz27_1 : wc.cell? ⟨gb151, 1, none⟩ = some (.bool a1_1) := (blk_cell BK151.out 1).trans rfl
          have hcz27_2 : wc.cell? ⟨gb151, 2, none⟩ = some (.bool a1_2) := (blk_cell BK151.out 2).trans rfl
          have hcz27_3 : wc.cell? ⟨gb151, 3, none⟩ = some (.slice A1_3 l1_3.length c1_3) := (blk_cell BK151.out 3).trans rfl
          have hcz27_4 : wc.cell? ⟨gb151, 4, none⟩ = some (.int .i64 a1_4) := (blk_cell BK151.out 4).trans rfl
          have hcz27_5 : wc.cell? ⟨gb151, 5, none⟩ = some (.int .i64 a1_5) := (blk_cell BK151.out 5).trans rfl
          have hcz27_6 : wc.cell? ⟨gb151, 6, none⟩ = some (.int .i64 a1_6) := (blk_cell BK151.out 6).trans rfl
          have hcz27_7 : wc.cell? ⟨gb151, 7, none⟩ = some (.int .u32 a1_7) := (blk_cell BK151.out 7).trans rfl
          have hfz27_0 := blk_frozen BK151.out 0
          have hfz27_1 := blk_frozen BK151.out 1
          have hfz27_2 := blk_frozen BK151.out 2
          have hfz27_3 := blk_frozen BK151.out 3
          have hfz27_4 := blk_frozen BK151.out 4
          have hfz27_5 := blk_frozen BK151.out 5
          have hfz27_6 := blk_frozen BK151.out 6
          have hfz27_7 := blk_frozen BK151.out 7
          go_wp2
          repeat (go_quiet (fail); try go_wp2)
          go_roundg kj6
          case measure => have := HK1.out; have := HJ6.out; omega
          case rel => exact ⟨(x5_1), (x6_1), (wrap64 (x7_1 + 1)), (by first | rfl | (simp; done) | (simp [*]; done)), (by first | rfl | (simp; done) | (simp [*]; done)), H', ⟨by have := HK1.out; have := HJ6.out; omega⟩, ⟨by (with_reducible repeat (apply Kd.V_drewN)); exact HO_0.out⟩, ⟨by (with_reducible repeat (apply Kd.N_drewN)); exact HO_5.out⟩, ⟨by (with_reducible repeat (apply Kd.V_drewN)); exact HO_152003.out⟩, ⟨by (with_reducible repeat (refine blk_drewN ?_ _)); exact BK151.out⟩, ⟨by repeat ((with_reducible first | exact HB.out | apply below_alloc | apply pw_below_drewN | apply below_drew1 | refine below_set ?_ GE151.out))⟩⟩
         ·rw [if_neg c26] at H
          have c26b0 : (((rd_T38 l0 x7_1).f0).toList == a1_0.toList) = false := beq_eq_false_iff_ne.mpr c26
          have c26b1 : (((rd_T38 l0 x7_1).f0).toList != a1_0.toList) = true := bne_iff_ne.mpr c26
          by_cases c28 : x5_1.length < 1599289640401
          ·rw [if_pos c28] at H
           have LMc28 := Aside0.mk c28
           clear c28
           obtain ⟨y169, hy169⟩ : ∃ y_ : List (S38), y_ = (x5_1 ++ [(⟨(rd_T38 l0 x7_1).f0, (rd_T38 l0 x7_1).f1, (⟨(rd_T38 l0 x7_1).f2.f0, (rd_T38 l0 x7_1).f2.f1, (⟨(rd_T38 l0 x7_1).f2.f2.f0, (rd_T38 l0 x7_1).f2.f2.f1, (rd_T38 l0 x7_1).f2.f2.f2, (rd_T38 l0 x7_1).f2.f2.f3⟩ : S34)⟩ : S36)⟩ : S38)]) := ⟨_, rfl⟩
           replace H : (garnerref10_Put.l0 kj6 l0 y169 x6_1 (wrap64 (x7_1 + 1)) a1_0 a1_1 a1_2 l1_3 a1_4 a1_5 a1_6 a1_7) = some r := by first | (rw [hy169]; with_reducible exact H) | (have H2_ := (Option.bind_some _ _).symm.trans H; rw [hy169]; with_reducible exact H2_) | (have H2_ := (Option.bind_some _ _).symm.trans H; with_reducible exact H2_) | with_reducible exact H | (rw [hy169]; exact H) | exact H
           have Ny169 := Aside0.mk hy169
           clear hy169
           have H' := Aside0.mk H
           clear H
           have p167 : 0 ≤ (x7_1 : Int) := of_decide_eq_true (by first | (with_reducible assumption) | assumption)
           have q167 : x7_1 < (l0.length : Int) := of_decide_eq_true (by first | (with_reducible assumption) | assumption)
           obtain ⟨ad167, A167_3, c167_3, e167, hx167_0, hx167_1, hx167_2, hx167_3, hx167_4, hx167_5, hx167_6, hx167_7, hl167_3, hi167_3⟩ := at_T38 (Kd.V_reads' HO_0.out).2.2 x7_1 p167 q167
           cases e167
           obtain ⟨ce167, hce167, hMe167, hcc167⟩ := Kd.V_get HO_0.out z38 x7_1 p167 (by first | exact q167 | exact of_decide_eq_true (by first | (with_reducible assumption) | assumption) | (have e_ := (Kd.V_reads' HO_0.out).1; omega))
           obtain ⟨ua167_3, uc167_3, rfl, ul167_3, ge167_3⟩ := k38_openF hMe167
           have hv167_3 := hcc167 3 _ rfl
           rw [add_field _ _ 3 (by omega)] at hv167_3
           replace hv167_3 := Option.some.inj (hv167_3.symm.trans hx167_3)
           injection hv167_3 with hva_ hvn_ hvc_
           rw [hva_] at ge167_3
           rw [hvc_] at ul167_3
           have HL167_3 := Aside0.mk (show Kd.V (Kd.int .u8) 5 _ w.heap.size _ _ ((rd_T38 l0 x7_1).f2.f1) from Kd.V_mk ul167_3 ge167_3)
           clear hva_ hvn_ hvc_ ge167_3 ul167_3
           clear hcc167 hce167
           have HR167_3 := Aside0.mk hi167_3
           have HC167_3 := Aside0.mk hl167_3
           clear hi167_3 hl167_3
           replace p167 := eq_true p167
           replace q167 := eq_true q167
           have hcz29_0 : wc.cell? ⟨gb151, 0, none⟩ = some (.string a1_0) := (blk_cell BK151.out 0).trans rfl
           have hcz29_1 : wc.cell? ⟨gb151, 1, none⟩ = some (.bool a1_1) := (blk_cell BK151.out 1).trans rfl
           have hcz29_2 : wc.cell? ⟨gb151, 2, none⟩ = some (.bool a1_2) := (blk_cell BK151.out 2).trans rfl
           have hcz29_3 : wc.cell? ⟨gb151, 3, none⟩ = some (.slice A1_3 l1_3.length c1_3) := (blk_cell BK151.out 3).trans rfl
           have hcz29_4 : wc.cell? ⟨gb151, 4, none⟩ = some (.int .i64 a1_4) := (blk_cell BK151.out 4).trans rfl
           have hcz29_5 : wc.cell? ⟨gb151, 5, none⟩ = some (.int .i64 a1_5) := (blk_cell BK151.out 5).trans rfl
           have hcz29_6 : wc.cell? ⟨gb151, 6, none⟩ = some (.int .i64 a1_6) := (blk_cell BK151.out 6).trans rfl
           have hcz29_7 : wc.cell? ⟨gb151, 7, none⟩ = some (.int .u32 a1_7) := (blk_cell BK151.out 7).trans rfl
           have hfz29_0 := blk_frozen BK151.out 0
           have hfz29_1 := blk_frozen BK151.out 1
           have hfz29_2 := blk_frozen BK151.out 2
           have hfz29_3 := blk_frozen BK151.out 3
           have hfz29_4 := blk_frozen BK151.out 4
           have hfz29_5 := blk_frozen BK151.out 5
           have hfz29_6 := blk_frozen BK151.out 6
           have hfz29_7 := blk_frozen BK151.out 7
           have p168 : 0 ≤ (x7_1 : Int) := of_decide_eq_true (by first | (with_reducible assumption) | assumption)
           have q168 : x7_1 < (l0.length : Int) := of_decide_eq_true (by first | (with_reducible assumption) | assumption)
           obtain ⟨ad168, A168_3, c168_3, e168, hx168_0, hx168_1, hx168_2, hx168_3, hx168_4, hx168_5, hx168_6, hx168_7, hl168_3, hi168_3⟩ := at_T38 (Kd.V_reads' HO_0.out).2.2 x7_1 p168 q168
           obtain rfl : ad167 = ad168 := (by injection e168)
           obtain ⟨ce168, hce168, hMe168, hcc168⟩ := Kd.V_get HO_0.out z38 x7_1 p168 (by first | exact q168 | exact of_decide_eq_true (by first | (with_reducible assumption) | assumption) | (have e_ := (Kd.V_reads' HO_0.out).1; omega))
           obtain ⟨ua168_3, uc168_3, rfl, ul168_3, ge168_3⟩ := k38_openF hMe168
           have hv168_3 := hcc168 3 _ rfl
           rw [add_field _ _ 3 (by omega)] at hv168_3
           replace hv168_3 := Option.some.inj (hv168_3.symm.trans hx168_3)
           injection hv168_3 with hva_ hvn_ hvc_
           rw [hva_] at ge168_3
           rw [hvc_] at ul168_3
           have HL168_3 := Aside0.mk (show Kd.V (Kd.int .u8) 5 _ w.heap.size _ _ ((rd_T38 l0 x7_1).f2.f1) from Kd.V_mk ul168_3 ge168_3)
           clear hva_ hvn_ hvc_ ge168_3 ul168_3
           clear hcc168 hce168
           have HR168_3 := Aside0.mk hi168_3
           have HC168_3 := Aside0.mk hl168_3
           clear hi168_3 hl168_3
           replace p168 := eq_true p168
           replace q168 := eq_true q168
           have ea_ := Option.some.inj (hx167_3.symm.trans hx168_3)
           injection ea_ with ea_ en_ ec_
           subst ea_
           subst ec_
           clear en_
           go_wp2_with (fail)
           repeat (go_quiet (fail); try go_wp2_with (((with_reducible refine gate_builtin (b := .append) (xs := #[.tmp 39, .tmp 44]) rfl ?_); at_builtin; refine Kd.N_append k38 (w0 := w) w.heap.size rfl (.tmp 39) (.tmp 44) 29 38 (.agg #[(.string ⟨#[]⟩), (.bool false), (.bool false), (.slice none 0 0), (.int .i64 0), (.int .i64 0), (.int .i64 0), (.int .u32 0)]) 88 rfl Try.underlying29 info38 rfl (by decide) (by omega) u5 x5_1 (⟨(rd_T38 l0 x7_1).f0, (rd_T38 l0 x7_1).f1, (⟨(rd_T38 l0 x7_1).f2.f0, (rd_T38 l0 x7_1).f2.f1, (⟨(rd_T38 l0 x7_1).f2.f2.f0, (rd_T38 l0 x7_1).f2.f2.f1, (rd_T38 l0 x7_1).f2.f2.f2, (rd_T38 l0 x7_1).f2.f2.f3⟩ : S34)⟩ : S36)⟩ : S38) [.string ((rd_T38 l0 x7_1).f0), .bool ((rd_T38 l0 x7_1).f1), .bool ((rd_T38 l0 x7_1).f2.f0), .slice A167_3 ((rd_T38 l0 x7_1).f2.f1).length c167_3, .int .i64 ((rd_T38 l0 x7_1).f2.f2.f0), .int .i64 ((rd_T38 l0 x7_1).f2.f2.f1), .int .i64 ((rd_T38 l0 x7_1).f2.f2.f2), .int .u32 ((rd_T38 l0 x7_1).f2.f2.f3)] (fun k_ => ((P0_ k_ ∨ P1_3_ k_) ∨ w.heap.size ≤ k_) ∧ k_ ≠ gb151) (fun k_ => ((fun k_ => ((P0_ k_ ∨ P1_3_ k_) ∨ w.heap.size ≤ k_) ∧ k_ ≠ gb151)) k_ ∧ some k_ ≠ (u5 : Value).ownBlock) rfl rfl ?aP (fun _ hk => hk) ?aF ?aO ?aB ?aS ?aL ?_; (case aP => have h1_ := (Kd.V_mono (ok' := (fun k_ => ((fun k_ => ((P0_ k_ ∨ P1_3_ k_) ∨ w.heap.size ≤ k_) ∧ k_ ≠ gb151)) k_ ∧ some k_ ≠ (u5 : Value).ownBlock)) (Kd.V_drewN HL168_3.out nq) (fun k_ hk => ⟨⟨hk.1, hk.2.2⟩, hk.2.1⟩)); have h2_ := Kd.V_reads' h1_; have h3_ := Kd.V_F h1_; exact k38_mkF _ _ _ h2_.2.1 h3_); (case aB => exact (by repeat ((with_reducible first | exact HB.out | apply below_alloc | apply pw_below_drewN | apply below_drew1 | refine below_set ?_ GE151.out)))); (case aF => exact (fun k_ hk => ⟨(.inr (Nat.le_trans (below_size (by repeat ((with_reducible first | exact HB.out | apply below_alloc | apply pw_below_drewN | apply below_drew1 | refine below_set ?_ GE151.out)))) hk)), Kd.freshB (g := gb151) (o := .cells #[.string a1_0, .bool a1_1, .bool a1_2, .slice A1_3 l1_3.length c1_3, .int .i64 a1_4, .int .i64 a1_5, .int .i64 a1_6, .int .u32 a1_7] 38 (0, 0)) (by (with_reducible repeat (refine blk_drewN ?_ _)); exact BK151.out) k_ hk⟩)); (case aO => exact (by (with_reducible repeat (apply Kd.N_drewN)); exact HO_5.out)); (case aS => exact (below_size (by repeat ((with_reducible first | exact HB.out | apply below_alloc | apply pw_below_drewN | apply below_drew1 | refine below_set ?_ GE151.out))))); (case aL => have := LMc28.out; omega); intro v170 w30 ho hb hg hat; rw [← Ny169.out] at ho; have n0_ := Aside0.mk (Kd.V_afterv (ok := (fun k_ => ((P0_ k_ ∨ P1_3_ k_) ∨ w.heap.size ≤ k_) ∧ k_ ≠ gb151)) (by (with_reducible repeat (apply Kd.V_drewN)); exact Kd.V_mono HO_0.out (fun _ hk => ⟨⟨hk.1, hk.2.2⟩, hk.2.1⟩)) hg hat); have n1_ := Aside0.mk (Kd.V_afterv (ok := (fun k_ => ((P0_ k_ ∨ P1_3_ k_) ∨ w.heap.size ≤ k_) ∧ k_ ≠ gb151)) (by (with_reducible repeat (apply Kd.V_drewN)); exact Kd.V_mono HO_152003.out (fun _ hk => ⟨⟨hk.1, hk.2.2⟩, hk.2.1⟩)) hg hat); have n2_ := Aside0.mk (blk_grown (g := gb151) (o := .cells #[.string a1_0, .bool a1_1, .bool a1_2, .slice A1_3 l1_3.length c1_3, .int .i64 a1_4, .int .i64 a1_5, .int .i64 a1_6, .int .u32 a1_7] 38 (0, 0)) (by (with_reducible repeat (refine blk_drewN ?_ _)); exact BK151.out) hg (Kd.N_away HO_5.out (fun _ hk => hk.2))); have n3_ := Aside0.mk (Kd.V_afterv (ok := (fun k_ => ((P0_ k_ ∨ P1_3_ k_) ∨ w.heap.size ≤ k_) ∧ k_ ≠ gb151)) (by (with_reducible repeat (apply Kd.V_drewN)); exact Kd.V_mono HL167_3.out (fun _ hk => ⟨⟨hk.1, hk.2.2⟩, hk.2.1⟩)) hg hat); have n4_ := Aside0.mk (Kd.V_afterv (ok := (fun k_ => ((P0_ k_ ∨ P1_3_ k_) ∨ w.heap.size ≤ k_) ∧ k_ ≠ gb151)) (by (with_reducible repeat (apply Kd.V_drewN)); exact Kd.V_mono HL168_3.out (fun _ hk => ⟨⟨hk.1, hk.2.2⟩, hk.2.1⟩)) hg hat); have n5_ := Aside0.mk (hb); have n6_ := Aside0.mk (ho); clear HO_0; clear HO_152003; clear BK151; clear HL167_3; clear HL168_3; clear HB; clear HO_5; have HO_0 := n0_; have HO_152003 := n1_; have BK151 := n2_; have HL167_3 := n3_; have HL168_3 := n4_; have HB := n5_; have HO171 := n6_; clear n0_ n1_ n2_ n3_ n4_ n5_ n6_; clear ho hb hg hat)))
           go_roundg kj6
           case measure => have := HK1.out; have := HJ6.out; omega
           case rel => exact ⟨(y169), (x6_1), (wrap64 (x7_1 + 1)), (by first | rfl | (simp; done) | (simp [*]; done)), (by first | rfl | (simp; done) | (simp [*]; done)), H', ⟨by have := HK1.out; have := HJ6.out; omega⟩, ⟨by (with_reducible repeat (fail)); exact Kd.V_mono HO_0.out (fun _ hk => ⟨hk.1.1, ⟨hk.2, hk.1.2⟩⟩)⟩, ⟨by (with_reducible repeat (fail)); exact HO171.out⟩, ⟨by (with_reducible repeat (fail)); exact Kd.V_mono HO_152003.out (fun _ hk => ⟨hk.1.1, ⟨hk.2, hk.1.2⟩⟩)⟩, ⟨by (with_reducible repeat (fail)); exact BK151.out⟩, ⟨by repeat ((with_reducible first | exact HB.out | apply below_alloc | apply pw_below_drewN | apply below_drew1 | refine below_set ?_ GE151.out))⟩⟩
          ·rw [if_neg c28] at H
           exact absurd H (by simp)
        ·rw [if_neg c25] at H
         exact absurd H (by simp)
       ·rw [if_neg c24] at H
        exact absurd H (by simp)
   ·rw [if_neg c6] at H
    have c6b0 : decide (x7_1 < (l0.length : Int)) = false := decide_eq_false c6
    clear c6
    by_cases c31 : x6_1 = true
    ·subst c31
     have H1 : (some x5_1) = some r := by rw [if_pos rfl] at H; exact H
     clear H
     have H := H1
     clear H1
     obtain rfl := Option.some.inj H
     go_wp2
     repeat (go_quiet (fail); try go_wp2)
     go_ret
     exact ⟨_, by first | rfl | (simp [errW_none, errW_some] <;> rfl) | (simp [*, errW_none, errW_some] <;> rfl), by (with_reducible repeat (fail)); exact Kd.N_mono HO_5.out (fun _ hk => hk.1), by repeat ((with_reducible first | exact HB.out | apply below_alloc | apply pw_below_drewN | apply below_drew1 | refine below_set ?_ GE151.out))⟩
    ·replace c31 := Bool.eq_false_iff.mpr c31
     subst c31
     have H1 : (if x5_1.length < 1599289640401 then (some (x5_1 ++ [(⟨a1_0, a1_1, (⟨a1_2, l1_3, (⟨a1_4, a1_5, a1_6, a1_7⟩ : S34)⟩ : S36)⟩ : S38)])) else (none)) = some r := by rw [if_neg (show ¬ (false = true) by decide)] at H; exact H
     clear H
     have H := H1
     clear H1
     by_cases c32 : x5_1.length < 1599289640401
     ·rw [if_pos c32] at H
      have LMc32 := Aside0.mk c32
      clear c32
      obtain ⟨y155, hy155⟩ : ∃ y_ : List (S38), y_ = (x5_1 ++ [(⟨a1_0, a1_1, (⟨a1_2, l1_3, (⟨a1_4, a1_5, a1_6, a1_7⟩ : S34)⟩ : S36)⟩ : S38)]) := ⟨_, rfl⟩
      replace H : (some y155) = some r := by first | (rw [hy155]; with_reducible exact H) | (have H2_ := (Option.bind_some _ _).symm.trans H; rw [hy155]; with_reducible exact H2_) | (have H2_ := (Option.bind_some _ _).symm.trans H; with_reducible exact H2_) | with_reducible exact H | (rw [hy155]; exact H) | exact H
      have Ny155 := Aside0.mk hy155
      clear hy155
      obtain rfl := Option.some.inj H
      have hcz33_0 : wr.cell? ⟨gb151, 0, none⟩ = some (.string a1_0) := (blk_cell BK151.out 0).trans rfl
      have hcz33_1 : wr.cell? ⟨gb151, 1, none⟩ = some (.bool a1_1) := (blk_cell BK151.out 1).trans rfl
      have hcz33_2 : wr.cell? ⟨gb151, 2, none⟩ = some (.bool a1_2) := (blk_cell BK151.out 2).trans rfl
      have hcz33_3 : wr.cell? ⟨gb151, 3, none⟩ = some (.slice A1_3 l1_3.length c1_3) := (blk_cell BK151.out 3).trans rfl
      have hcz33_4 : wr.cell? ⟨gb151, 4, none⟩ = some (.int .i64 a1_4) := (blk_cell BK151.out 4).trans rfl
      have hcz33_5 : wr.cell? ⟨gb151, 5, none⟩ = some (.int .i64 a1_5) := (blk_cell BK151.out 5).trans rfl
      have hcz33_6 : wr.cell? ⟨gb151, 6, none⟩ = some (.int .i64 a1_6) := (blk_cell BK151.out 6).trans rfl
      have hcz33_7 : wr.cell? ⟨gb151, 7, none⟩ = some (.int .u32 a1_7) := (blk_cell BK151.out 7).trans rfl
      have hfz33_0 := blk_frozen BK151.out 0
      have hfz33_1 := blk_frozen BK151.out 1
      have hfz33_2 := blk_frozen BK151.out 2
      have hfz33_3 := blk_frozen BK151.out 3
      have hfz33_4 := blk_frozen BK151.out 4
      have hfz33_5 := blk_frozen BK151.out 5
      have hfz33_6 := blk_frozen BK151.out 6
      have hfz33_7 := blk_frozen BK151.out 7
      go_wp2_with (((with_reducible refine gate_builtin (b := .append) (xs := #[.tmp 48, .tmp 50]) rfl ?_); at_builtin; refine Kd.N_append k38 (w0 := w) w.heap.size rfl (.tmp 48) (.tmp 50) 29 38 (.agg #[(.string ⟨#[]⟩), (.bool false), (.bool false), (.slice none 0 0), (.int .i64 0), (.int .i64 0), (.int .i64 0), (.int .u32 0)]) 88 rfl Try.underlying29 info38 rfl (by decide) (by omega) u5 x5_1 (⟨a1_0, a1_1, (⟨a1_2, l1_3, (⟨a1_4, a1_5, a1_6, a1_7⟩ : S34)⟩ : S36)⟩ : S38) [.string a1_0, .bool a1_1, .bool a1_2, .slice A1_3 l1_3.length c1_3, .int .i64 a1_4, .int .i64 a1_5, .int .i64 a1_6, .int .u32 a1_7] (fun k_ => ((P0_ k_ ∨ P1_3_ k_) ∨ w.heap.size ≤ k_) ∧ k_ ≠ gb151) (fun k_ => ((fun k_ => ((P0_ k_ ∨ P1_3_ k_) ∨ w.heap.size ≤ k_) ∧ k_ ≠ gb151)) k_ ∧ some k_ ≠ (u5 : Value).ownBlock) rfl rfl ?aP (fun _ hk => hk) ?aF ?aO ?aB ?aS ?aL ?_; (case aP => exact (k38_mkF _ _ (⟨a1_0, a1_1, (⟨a1_2, l1_3, (⟨a1_4, a1_5, a1_6, a1_7⟩ : S34)⟩ : S36)⟩ : S38) (Kd.V_reads' (Kd.V_mono (ok' := (fun k_ => ((fun k_ => ((P0_ k_ ∨ P1_3_ k_) ∨ w.heap.size ≤ k_) ∧ k_ ≠ gb151)) k_ ∧ some k_ ≠ (u5 : Value).ownBlock)) (HO_152003.out) (fun k_ hk => ⟨⟨hk.1, hk.2.2⟩, hk.2.1⟩))).2.1 (Kd.V_F (Kd.V_mono (ok' := (fun k_ => ((fun k_ => ((P0_ k_ ∨ P1_3_ k_) ∨ w.heap.size ≤ k_) ∧ k_ ≠ gb151)) k_ ∧ some k_ ≠ (u5 : Value).ownBlock)) (HO_152003.out) (fun k_ hk => ⟨⟨hk.1, hk.2.2⟩, hk.2.1⟩))))); (case aB => exact (by repeat ((with_reducible first | exact HB.out | apply below_alloc | apply pw_below_drewN | apply below_drew1 | refine below_set ?_ GE151.out)))); (case aF => exact (fun k_ hk => ⟨(.inr (Nat.le_trans (below_size (by repeat ((with_reducible first | exact HB.out | apply below_alloc | apply pw_below_drewN | apply below_drew1 | refine below_set ?_ GE151.out)))) hk)), Kd.freshB (g := gb151) (o := .cells #[.string a1_0, .bool a1_1, .bool a1_2, .slice A1_3 l1_3.length c1_3, .int .i64 a1_4, .int .i64 a1_5, .int .i64 a1_6, .int .u32 a1_7] 38 (0, 0)) (by (with_reducible repeat (fail)); exact BK151.out) k_ hk⟩)); (case aO => exact (by (with_reducible repeat (fail)); exact HO_5.out)); (case aS => exact (below_size (by repeat ((with_reducible first | exact HB.out | apply below_alloc | apply pw_below_drewN | apply below_drew1 | refine below_set ?_ GE151.out))))); (case aL => have := LMc32.out; omega); intro v156 w34 ho hb hg hat; rw [← Ny155.out] at ho; have n0_ := Aside0.mk (Kd.V_afterv (ok := (fun k_ => ((P0_ k_ ∨ P1_3_ k_) ∨ w.heap.size ≤ k_) ∧ k_ ≠ gb151)) (by (with_reducible repeat (fail)); exact Kd.V_mono HO_0.out (fun _ hk => ⟨⟨hk.1, hk.2.2⟩, hk.2.1⟩)) hg hat); have n1_ := Aside0.mk (Kd.V_afterv (ok := (fun k_ => ((P0_ k_ ∨ P1_3_ k_) ∨ w.heap.size ≤ k_) ∧ k_ ≠ gb151)) (by (with_reducible repeat (fail)); exact Kd.V_mono HO_152003.out (fun _ hk => ⟨⟨hk.1, hk.2.2⟩, hk.2.1⟩)) hg hat); have n2_ := Aside0.mk (blk_grown (g := gb151) (o := .cells #[.string a1_0, .bool a1_1, .bool a1_2, .slice A1_3 l1_3.length c1_3, .int .i64 a1_4, .int .i64 a1_5, .int .i64 a1_6, .int .u32 a1_7] 38 (0, 0)) (by (with_reducible repeat (fail)); exact BK151.out) hg (Kd.N_away HO_5.out (fun _ hk => hk.2))); have n3_ := Aside0.mk (hb); have n4_ := Aside0.mk (ho); clear HO_0; clear HO_152003; clear BK151; clear HB; clear HO_5; have HO_0 := n0_; have HO_152003 := n1_; have BK151 := n2_; have HB := n3_; have HO157 := n4_; clear n0_ n1_ n2_ n3_ n4_; clear ho hb hg hat))
      repeat (go_quiet (fail); try go_wp2_with (fail))
      go_ret
      exact ⟨_, by first | rfl | (simp [errW_none, errW_some] <;> rfl) | (simp [*, errW_none, errW_some] <;> rfl), by (with_reducible repeat (fail)); exact Kd.N_mono HO157.out (fun _ hk => hk.1), by repeat ((with_reducible first | exact HB.out | apply below_alloc | apply pw_below_drewN | apply below_drew1 | refine below_set ?_ GE151.out))⟩
     ·rw [if_neg c32] at H
      exact absurd H (by simp)

end Go.Proofs.Ytgoidimipchejaa.PT
-- REPACKED
