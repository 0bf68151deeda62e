/- Of the laws that this set serves: the Go functions come to the printed Lean functions, and the law's row out of its plain statement; no condition beyond those that each theorem names. Written by a program of this session (a turned copy of the print). -/
import Derived.Test.YtgoidimipchejaaPTx0
namespace Go.Proofs.Ytgoidimipchejaa.PT
open Go.RowKit Go.Proofs.YtgoidimipchejaaW.PrintWords Go.Proofs.YtgoidimipchejaaW.PrintLast Go.Proofs.YtgoidimipchejaaW.PrintMore
attribute [local go_sem] max2_int min2_int max_two min_two max_three min_three max_four min_four   -- for this text's walks alone
set_option linter.unusedVariables false
set_option linter.unusedSimpArgs false

/-! ### garnerref10_Get: function 35 -/
def garnerref10_Get.l0 : Nat → List (S38) → ByteArray → Int → Option (ByteArray × Bool × Bool × List Int × Int × Int × Int × Int)
 | 0, _, _, _ => none
 | k + 1, x0, x1, x5 => if x5 < (x0.length : Int) then (if 0 ≤ x5 then (if ((rd_T38 x0 x5).f0).toList = x1.toList then (some ((rd_T38 x0 x5).f0, (rd_T38 x0 x5).f1, (rd_T38 x0 x5).f2.f0, (rd_T38 x0 x5).f2.f1, (rd_T38 x0 x5).f2.f2.f0, (rd_T38 x0 x5).f2.f2.f1, (rd_T38 x0 x5).f2.f2.f2, (rd_T38 x0 x5).f2.f2.f3)) else (garnerref10_Get.l0 k x0 x1 (wrap64 (x5 + 1)))) else (none)) else (some ((⟨#[]⟩ : ByteArray), false, false, ([] : List Int), 0, 0, 0, 0))
def garnerref10_Get.f (k : Nat) (l0 : List (S38)) (a1 : ByteArray) : Option (ByteArray × Bool × Bool × List Int × Int × Int × Int × Int) := garnerref10_Get.l0 k l0 a1 0
theorem garnerref10_Get.mono_l : ∀ k, (∀ y0 y1 y2, LeO (garnerref10_Get.l0 k y0 y1 y2) (garnerref10_Get.l0 (k + 1) y0 y1 y2))
 | 0 => fun _ _ _ r h => by simp [garnerref10_Get.l0] at h
 | k + 1 => by
  have ih0 := garnerref10_Get.mono_l k
  ·intro y0 y1 y2
   unfold garnerref10_Get.l0
   repeat' first
   | (with_reducible exact ih0 _ _ _)
   | (with_reducible exact LeO.refl _)
   | (with_reducible exact LeO.none _)
   | (with_reducible refine LeO.ite ?_ ?_)
   | (with_reducible refine LeO.bind ?_ (fun _ => ?_))
   | exact ih0 _ _ _
   | exact LeO.none _
   | refine LeO.ite ?_ ?_
   | refine LeO.bind ?_ (fun _ => ?_)
theorem garnerref10_Get.mono : ∀ a0 a1 k, LeO (garnerref10_Get.f k a0 a1) (garnerref10_Get.f (k + 1) a0 a1) := by
 intro a0 a1 k
 have ih0 := garnerref10_Get.mono_l k
 unfold garnerref10_Get.f
 repeat' first
   | (with_reducible exact ih0 _ _ _)
   | (with_reducible exact LeO.refl _)
   | (with_reducible exact LeO.none _)
   | (with_reducible refine LeO.ite ?_ ?_)
   | (with_reducible refine LeO.bind ?_ (fun _ => ?_))
   | exact ih0 _ _ _
   | exact LeO.none _
   | refine LeO.ite ?_ ?_
   | refine LeO.bind ?_ (fun _ => ?_)
set_option maxHeartbeats 8000000 in
set_option maxRecDepth 100000 in
theorem garnerref10_Get.calls (k : Nat) (P0_ : Nat → Prop) (A0 : Option Addr) (c0 : Nat) (l0 : List (S38)) (a1 : ByteArray) (r1 : ByteArray) (r2 : Bool) (r3 : Bool) (r4 : List Int) (r5 : Int) (r6 : Int) (r7 : Int) (r8 : Int) (w : World) (hs0 : Kd.V k38 38 w w.heap.size (fun k_ => P0_ k_) (.slice A0 l0.length c0) l0) (h : garnerref10_Get.f k l0 a1 = some (r1, r2, r3, r4, r5, r6, r7, r8)) :
  Calls Try.prog 35 #[.slice A0 l0.length c0, .string a1] w fun e w' => ∃ v3_ : Value, e = .returned (.agg #[.string r1, .bool r2, .bool r3, v3_, .int .i64 r5, .int .i64 r6, .int .i64 r7, .int .u32 r8]) ∧ Kd.V (Kd.int .u8) 5 w' w.heap.size (fun k_ => (P0_ k_ ∨ w.heap.size ≤ k_)) v3_ r4 ∧ Below w.heap.size w w' := by
 have hu38 := Try.underlying38
 have HO0 := Aside0.mk (show Kd.V k38 38 w w.heap.size (fun k_ => (P0_ k_ ∨ w.heap.size ≤ k_)) (.slice A0 l0.length c0) l0 from Kd.V_mono hs0 (fun k_ hk => .inl hk))
 have HB := Aside0.mk (Below.refl w.heap.size w)
 have H : (garnerref10_Get.l0 k l0 a1 0) = some (r1, r2, r3, r4, r5, r6, r7, r8) := h
 clear h
 have H' := Aside0.mk H
 clear H
 go_enter Try.func35, Try.ntmps35
 go_wp2_with (((with_reducible refine gate_dst (N := 4) rfl ?_); refine box_event ?hg (N := 4) ?hd (cs := #[.string (⟨#[]⟩ : ByteArray), .bool false, .bool false, .slice none 0 0, .int .i64 0, .int .i64 0, .int .i64 0, .int .u32 0]) (t := 38) ?hr ?_; (case hd => rfl); (case hg => rfl); (case hr => first | (go_simp; done) | (go_simp; rfl)); intro gb186 hg w3 hbox hb; have n0_ := Aside0.mk (Kd.V_below (Kd.V_elderB (by (with_reducible repeat (fail)); exact HO0.out) gb186 (Nat.le_of_eq hg.symm)) hb); have n1_ := Aside0.mk (below_step (by repeat ((with_reducible first | exact HB.out | apply below_alloc | apply pw_below_drewN | apply below_drew1))) hb); have n2_ := Aside0.mk (hbox); have n3_ := Aside0.mk ((by rw [hg]; exact (below_size (by repeat ((with_reducible first | exact HB.out | apply below_alloc | apply pw_below_drewN | apply below_drew1)))) : w.heap.size ≤ gb186)); have n4_ := Aside0.mk ((by rw [hg]; exact (below_size (by repeat ((with_reducible first | exact HB.out | apply below_alloc | apply pw_below_drewN | apply below_drew1)))) : w.heap.size ≤ gb186)); clear HO0; clear HB; have HO0 := n0_; have HB := n1_; have BK186 := n2_; have GW186 := n3_; have GE186 := n4_; clear n0_ n1_ n2_ n3_ n4_; clear hb hbox hg))
 go_loopg [5] k (fun kq v5 w' => ∃ (x5_1 : Int) (x187000_1 : ByteArray) (x187001_1 : Bool) (x187002_1 : Bool) (x187004_1 : Int) (x187005_1 : Int) (x187006_1 : Int) (x187007_1 : Int), v5 = .int .i64 x5_1 ∧ Aside0 (garnerref10_Get.l0 kq l0 a1 x5_1 = some (r1, r2, r3, r4, r5, r6, r7, r8)) ∧ Aside0 (kq ≤ k) ∧ Aside0 (Kd.V k38 38 w' w.heap.size (fun k_ => (P0_ k_ ∨ w.heap.size ≤ k_) ∧ k_ ≠ gb186) (.slice A0 l0.length c0) l0) ∧ Aside0 (w'.heap[gb186]? = some (.cells #[.string x187000_1, .bool x187001_1, .bool x187002_1, (.slice none 0 0), .int .i64 x187004_1, .int .i64 x187005_1, .int .i64 x187006_1, .int .u32 x187007_1] 38 (0, 0))) ∧ Aside0 (Below w.heap.size w w'))
 case atStart => exact ⟨(0), ((⟨#[]⟩ : ByteArray)), (false), (false), (0), (0), (0), (0), (by first | rfl | (simp; done) | (simp [*]; done)), H', ⟨Nat.le_refl _⟩, ⟨by (with_reducible repeat (fail)); exact HO0.out⟩, ⟨by (with_reducible repeat (fail)); exact BK186.out⟩, ⟨by repeat ((with_reducible first | exact HB.out | apply below_alloc | apply pw_below_drewN | apply below_drew1 | refine below_set ?_ GE186.out))⟩⟩
 case round =>
  clear H'
  try clear p2
  try clear c3
  obtain ⟨x5_1, x187000_1, x187001_1, x187002_1, x187004_1, x187005_1, x187006_1, x187007_1, rfl, HA, HK1, HO_0, BK186, HB⟩ := hrel
  cases gk with
  | zero => exact absurd HA.out (by simp [garnerref10_Get.l0])
  | succ k1 =>
   have H := HA.out
   clear HA
   simp only [garnerref10_Get.l0] at H
   by_cases c4 : x5_1 < (l0.length : Int)
   ·rw [if_pos c4] at H
    have c4b0 : decide (x5_1 < (l0.length : Int)) = true := decide_eq_true c4
    clear c4
    by_cases c5 : 0 ≤ x5_1
    ·rw [if_pos c5] at H
     have c5b0 : decide (0 ≤ x5_1) = true := decide_eq_true c5
     clear c5
     by_cases c6 : ((rd_T38 l0 x5_1).f0).toList = a1.toList
     ·rw [if_pos c6] at H
      have c6b0 : (((rd_T38 l0 x5_1).f0).toList == a1.toList) = true := beq_iff_eq.mpr c6
      have c6b1 : (((rd_T38 l0 x5_1).f0).toList != a1.toList) = false := bne_eq_false_iff_eq.mpr c6
      clear c6
      simp only [Option.some.injEq, Prod.mk.injEq] at H
      obtain ⟨rfl, rfl, rfl, rfl, rfl, rfl, rfl, rfl⟩ := H
      have p187 : 0 ≤ (x5_1 : Int) := of_decide_eq_true (by first | (with_reducible assumption) | assumption)
      have q187 : x5_1 < (l0.length : Int) := of_decide_eq_true (by first | (with_reducible assumption) | assumption)
      obtain ⟨ad187, A187_3, c187_3, e187, hx187_0, hx187_1, hx187_2, hx187_3, hx187_4, hx187_5, hx187_6, hx187_7, hl187_3, hi187_3⟩ := at_T38 (Kd.V_reads' HO_0.out).2.2 x5_1 p187 q187
      cases e187
      obtain ⟨ce187, hce187, hMe187, hcc187⟩ := Kd.V_get HO_0.out z38 x5_1 p187 (by first | exact q187 | exact of_decide_eq_true (by first | (with_reducible assumption) | assumption) | (have e_ := (Kd.V_reads' HO_0.out).1; omega))
      obtain ⟨ua187_3, uc187_3, rfl, ul187_3, ge187_3⟩ := k38_openF hMe187
      have hv187_3 := hcc187 3 _ rfl
      rw [add_field _ _ 3 (by omega)] at hv187_3
      replace hv187_3 := Option.some.inj (hv187_3.symm.trans hx187_3)
      injection hv187_3 with hva_ hvn_ hvc_
      rw [hva_] at ge187_3
      rw [hvc_] at ul187_3
      have HL187_3 := Aside0.mk (show Kd.V (Kd.int .u8) 5 _ w.heap.size _ _ ((rd_T38 l0 x5_1).f2.f1) from Kd.V_mk ul187_3 ge187_3)
      clear hva_ hvn_ hvc_ ge187_3 ul187_3
      clear hcc187 hce187
      have HR187_3 := Aside0.mk hi187_3
      have HC187_3 := Aside0.mk hl187_3
      clear hi187_3 hl187_3
      replace p187 := eq_true p187
      replace q187 := eq_true q187
      have p188 : 0 ≤ (x5_1 : Int) := of_decide_eq_true (by first | (with_reducible assumption) | assumption)
      have q188 : x5_1 < (l0.length : Int) := of_decide_eq_true (by first | (with_reducible assumption) | assumption)
      obtain ⟨ad188, A188_3, c188_3, e188, hx188_0, hx188_1, hx188_2, hx188_3, hx188_4, hx188_5, hx188_6, hx188_7, hl188_3, hi188_3⟩ := at_T38 (Kd.V_reads' HO_0.out).2.2 x5_1 p188 q188
      obtain rfl : ad187 = ad188 := (by injection e188)
      obtain ⟨ce188, hce188, hMe188, hcc188⟩ := Kd.V_get HO_0.out z38 x5_1 p188 (by first | exact q188 | exact of_decide_eq_true (by first | (with_reducible assumption) | assumption) | (have e_ := (Kd.V_reads' HO_0.out).1; omega))
      obtain ⟨ua188_3, uc188_3, rfl, ul188_3, ge188_3⟩ := k38_openF hMe188
      have hv188_3 := hcc188 3 _ rfl
      rw [add_field _ _ 3 (by omega)] at hv188_3
      replace hv188_3 := Option.some.inj (hv188_3.symm.trans hx188_3)
      injection hv188_3 with hva_ hvn_ hvc_
      rw [hva_] at ge188_3
      rw [hvc_] at ul188_3
      have HL188_3 := Aside0.mk (show Kd.V (Kd.int .u8) 5 _ w.heap.size _ _ ((rd_T38 l0 x5_1).f2.f1) from Kd.V_mk ul188_3 ge188_3)
      clear hva_ hvn_ hvc_ ge188_3 ul188_3
      clear hcc188 hce188
      have HR188_3 := Aside0.mk hi188_3
      have HC188_3 := Aside0.mk hl188_3
      clear hi188_3 hl188_3
      replace p188 := eq_true p188
      replace q188 := eq_true q188
      have ea_ := Option.some.inj (hx187_3.symm.trans hx188_3)
      injection ea_ with ea_ en_ ec_
      subst ea_
      subst ec_
      clear en_
      have hcz7_0 : wr.cell? ⟨gb186, 0, none⟩ = some (.string x187000_1) := (blk_cell BK186.out 0).trans rfl
      have hcz7_1 : wr.cell? ⟨gb186, 1, none⟩ = some (.bool x187001_1) := (blk_cell BK186.out 1).trans rfl
      have hcz7_2 : wr.cell? ⟨gb186, 2, none⟩ = some (.bool x187002_1) := (blk_cell BK186.out 2).trans rfl
      have hcz7_3 : wr.cell? ⟨gb186, 3, none⟩ = some (.slice none 0 0) := (blk_cell BK186.out 3).trans rfl
      have hcz7_4 : wr.cell? ⟨gb186, 4, none⟩ = some (.int .i64 x187004_1) := (blk_cell BK186.out 4).trans rfl
      have hcz7_5 : wr.cell? ⟨gb186, 5, none⟩ = some (.int .i64 x187005_1) := (blk_cell BK186.out 5).trans rfl
      have hcz7_6 : wr.cell? ⟨gb186, 6, none⟩ = some (.int .i64 x187006_1) := (blk_cell BK186.out 6).trans rfl
      have hcz7_7 : wr.cell? ⟨gb186, 7, none⟩ = some (.int .u32 x187007_1) := (blk_cell BK186.out 7).trans rfl
      have hfz7_0 := blk_frozen BK186.out 0
      have hfz7_1 := blk_frozen BK186.out 1
      have hfz7_2 := blk_frozen BK186.out 2
      have hfz7_3 := blk_frozen BK186.out 3
      have hfz7_4 := blk_frozen BK186.out 4
      have hfz7_5 := blk_frozen BK186.out 5
      have hfz7_6 := blk_frozen BK186.out 6
      have hfz7_7 := blk_frozen BK186.out 7
      go_wp2
      refine bodyPost_ret (results_cell_row rfl _ _ gb186 38 #[.string ((rd_T38 l0 x5_1).f0), .bool ((rd_T38 l0 x5_1).f1), .bool ((rd_T38 l0 x5_1).f2.f0), .slice A187_3 ((rd_T38 l0 x5_1).f2.f1).length c187_3, .int .i64 ((rd_T38 l0 x5_1).f2.f2.f0), .int .i64 ((rd_T38 l0 x5_1).f2.f2.f1), .int .i64 ((rd_T38 l0 x5_1).f2.f2.f2), .int .u32 ((rd_T38 l0 x5_1).f2.f2.f3)] (0, 0) _ rfl (by (with_reducible repeat (fail)); refine blk_put (cs := #[.string ((rd_T38 l0 x5_1).f0), .bool ((rd_T38 l0 x5_1).f1), .bool ((rd_T38 l0 x5_1).f2.f0), .slice A187_3 ((rd_T38 l0 x5_1).f2.f1).length c187_3, .int .i64 ((rd_T38 l0 x5_1).f2.f2.f0), .int .i64 ((rd_T38 l0 x5_1).f2.f2.f1), .int .i64 ((rd_T38 l0 x5_1).f2.f2.f2), .int .u32 x187007_1]) ?_ 7 _ rfl; (with_reducible repeat (fail)); refine blk_put (cs := #[.string ((rd_T38 l0 x5_1).f0), .bool ((rd_T38 l0 x5_1).f1), .bool ((rd_T38 l0 x5_1).f2.f0), .slice A187_3 ((rd_T38 l0 x5_1).f2.f1).length c187_3, .int .i64 ((rd_T38 l0 x5_1).f2.f2.f0), .int .i64 ((rd_T38 l0 x5_1).f2.f2.f1), .int .i64 x187006_1, .int .u32 x187007_1]) ?_ 6 _ rfl; (with_reducible repeat (fail)); refine blk_put (cs := #[.string ((rd_T38 l0 x5_1).f0), .bool ((rd_T38 l0 x5_1).f1), .bool ((rd_T38 l0 x5_1).f2.f0), .slice A187_3 ((rd_T38 l0 x5_1).f2.f1).length c187_3, .int .i64 ((rd_T38 l0 x5_1).f2.f2.f0), .int .i64 x187005_1, .int .i64 x187006_1, .int .u32 x187007_1]) ?_ 5 _ rfl; (with_reducible repeat (fail)); refine blk_put (cs := #[.string ((rd_T38 l0 x5_1).f0), .bool ((rd_T38 l0 x5_1).f1), .bool ((rd_T38 l0 x5_1).f2.f0), .slice A187_3 ((rd_T38 l0 x5_1).f2.f1).length c187_3, .int .i64 x187004_1, .int .i64 x187005_1, .int .i64 x187006_1, .int .u32 x187007_1]) ?_ 4 _ rfl; (with_reducible repeat (fail)); refine blk_put (cs := #[.string ((rd_T38 l0 x5_1).f0), .bool ((rd_T38 l0 x5_1).f1), .bool ((rd_T38 l0 x5_1).f2.f0), .slice none 0 0, .int .i64 x187004_1, .int .i64 x187005_1, .int .i64 x187006_1, .int .u32 x187007_1]) ?_ 3 _ rfl; (with_reducible repeat (fail)); refine blk_put (cs := #[.string ((rd_T38 l0 x5_1).f0), .bool ((rd_T38 l0 x5_1).f1), .bool x187002_1, .slice none 0 0, .int .i64 x187004_1, .int .i64 x187005_1, .int .i64 x187006_1, .int .u32 x187007_1]) ?_ 2 _ rfl; (with_reducible repeat (fail)); refine blk_put (cs := #[.string ((rd_T38 l0 x5_1).f0), .bool x187001_1, .bool x187002_1, .slice none 0 0, .int .i64 x187004_1, .int .i64 x187005_1, .int .i64 x187006_1, .int .u32 x187007_1]) ?_ 1 _ rfl; (with_reducible repeat (fail)); refine blk_put (cs := #[.string x187000_1, .bool x187001_1, .bool x187002_1, .slice none 0 0, .int .i64 x187004_1, .int .i64 x187005_1, .int .i64 x187006_1, .int .u32 x187007_1]) ?_ 0 _ rfl; (with_reducible repeat (fail)); exact BK186.out) Try.underlying38 rfl (by kernel_rfl)) rfl ?_
      exact ⟨_, by first | rfl | (simp [errW_none, errW_some] <;> rfl) | (simp [*, errW_none, errW_some] <;> rfl), by (with_reducible repeat (fail)); exact Kd.V_mono (Kd.V_far (p := ⟨gb186, 7, none⟩) (Kd.V_far (p := ⟨gb186, 6, none⟩) (Kd.V_far (p := ⟨gb186, 5, none⟩) (Kd.V_far (p := ⟨gb186, 4, none⟩) (Kd.V_far (p := ⟨gb186, 3, none⟩) (Kd.V_far (p := ⟨gb186, 2, none⟩) (Kd.V_far (p := ⟨gb186, 1, none⟩) (Kd.V_far (p := ⟨gb186, 0, none⟩) (Kd.V_mono HL188_3.out (fun k_ hk => (⟨hk, hk.2⟩ : _ ∧ k_ ≠ gb186))) (fun _ hk => hk.2) (.string ((rd_T38 l0 x5_1).f0))) (fun _ hk => hk.2) (.bool ((rd_T38 l0 x5_1).f1))) (fun _ hk => hk.2) (.bool ((rd_T38 l0 x5_1).f2.f0))) (fun _ hk => hk.2) (.slice A187_3 ((rd_T38 l0 x5_1).f2.f1).length c187_3)) (fun _ hk => hk.2) (.int .i64 ((rd_T38 l0 x5_1).f2.f2.f0))) (fun _ hk => hk.2) (.int .i64 ((rd_T38 l0 x5_1).f2.f2.f1))) (fun _ hk => hk.2) (.int .i64 ((rd_T38 l0 x5_1).f2.f2.f2))) (fun _ hk => hk.2) (.int .u32 ((rd_T38 l0 x5_1).f2.f2.f3))) (fun _ hk => hk.1.1), by repeat ((with_reducible first | exact HB.out | apply below_alloc | apply pw_below_drewN | apply below_drew1 | refine below_set ?_ GE186.out))⟩
     ·rw [if_neg c6] at H
      have c6b0 : (((rd_T38 l0 x5_1).f0).toList == a1.toList) = false := beq_eq_false_iff_ne.mpr c6
      have c6b1 : (((rd_T38 l0 x5_1).f0).toList != a1.toList) = true := bne_iff_ne.mpr c6
      have H' := Aside0.mk H
      clear H
      have p187 : 0 ≤ (x5_1 : Int) := of_decide_eq_true (by first | (with_reducible assumption) | assumption)
      have q187 : x5_1 < (l0.length : Int) := of_decide_eq_true (by first | (with_reducible assumption) | assumption)
      obtain ⟨ad187, A187_3, c187_3, e187, hx187_0, hx187_1, hx187_2, hx187_3, hx187_4, hx187_5, hx187_6, hx187_7, hl187_3, hi187_3⟩ := at_T38 (Kd.V_reads' HO_0.out).2.2 x5_1 p187 q187
      cases e187
      obtain ⟨ce187, hce187, hMe187, hcc187⟩ := Kd.V_get HO_0.out z38 x5_1 p187 (by first | exact q187 | exact of_decide_eq_true (by first | (with_reducible assumption) | assumption) | (have e_ := (Kd.V_reads' HO_0.out).1; omega))
      obtain ⟨ua187_3, uc187_3, rfl, ul187_3, ge187_3⟩ := k38_openF hMe187
      have hv187_3 := hcc187 3 _ rfl
      rw [add_field _ _ 3 (by omega)] at hv187_3
      replace hv187_3 := Option.some.inj (hv187_3.symm.trans hx187_3)
      injection hv187_3 with hva_ hvn_ hvc_
      rw [hva_] at ge187_3
      rw [hvc_] at ul187_3
      have HL187_3 := Aside0.mk (show Kd.V (Kd.int .u8) 5 _ w.heap.size _ _ ((rd_T38 l0 x5_1).f2.f1) from Kd.V_mk ul187_3 ge187_3)
      clear hva_ hvn_ hvc_ ge187_3 ul187_3
      clear hcc187 hce187
      have HR187_3 := Aside0.mk hi187_3
      have HC187_3 := Aside0.mk hl187_3
      clear hi187_3 hl187_3
      replace p187 := eq_true p187
      replace q187 := eq_true q187
      go_wp2
      go_roundg k1
      case measure => have := HK1.out; omega
      case rel => exact ⟨(wrap64 (x5_1 + 1)), (x187000_1), (x187001_1), (x187002_1), (x187004_1), (x187005_1), (x187006_1), (x187007_1), (by first | rfl | (simp; done) | (simp [*]; done)), H', ⟨by have := HK1.out; omega⟩, ⟨by (with_reducible repeat (fail)); exact HO_0.out⟩, ⟨by (with_reducible repeat (fail)); exact BK186.out⟩, ⟨by repeat ((with_reducible first | exact HB.out | apply below_alloc | apply pw_below_drewN | apply below_drew1 | refine below_set ?_ GE186.out))⟩⟩
    ·rw [if_neg c5] at H
     exact absurd H (by simp)
   ·rw [if_neg c4] at H
    have c4b0 : decide (x5_1 < (l0.length : Int)) = false := decide_eq_false c4
    clear c4
    simp only [Option.some.injEq, Prod.mk.injEq] at H
    obtain ⟨rfl, rfl, rfl, rfl, rfl, rfl, rfl, rfl⟩ := H
    have hcz8_0 : wr.cell? ⟨gb186, 0, none⟩ = some (.string x187000_1) := (blk_cell BK186.out 0).trans rfl
    have hcz8_1 : wr.cell? ⟨gb186, 1, none⟩ = some (.bool x187001_1) := (blk_cell BK186.out 1).trans rfl
    have hcz8_2 : wr.cell? ⟨gb186, 2, none⟩ = some (.bool x187002_1) := (blk_cell BK186.out 2).trans rfl
    have hcz8_3 : wr.cell? ⟨gb186, 3, none⟩ = some (.slice none 0 0) := (blk_cell BK186.out 3).trans rfl
    have hcz8_4 : wr.cell? ⟨gb186, 4, none⟩ = some (.int .i64 x187004_1) := (blk_cell BK186.out 4).trans rfl
    have hcz8_5 : wr.cell? ⟨gb186, 5, none⟩ = some (.int .i64 x187005_1) := (blk_cell BK186.out 5).trans rfl
    have hcz8_6 : wr.cell? ⟨gb186, 6, none⟩ = some (.int .i64 x187006_1) := (blk_cell BK186.out 6).trans rfl
    have hcz8_7 : wr.cell? ⟨gb186, 7, none⟩ = some (.int .u32 x187007_1) := (blk_cell BK186.out 7).trans rfl
    have hfz8_0 := blk_frozen BK186.out 0
    have hfz8_1 := blk_frozen BK186.out 1
    have hfz8_2 := blk_frozen BK186.out 2
    have hfz8_3 := blk_frozen BK186.out 3
    have hfz8_4 := blk_frozen BK186.out 4
    have hfz8_5 := blk_frozen BK186.out 5
    have hfz8_6 := blk_frozen BK186.out 6
    have hfz8_7 := blk_frozen BK186.out 7
    go_wp2
    refine bodyPost_ret (results_cell_row rfl _ _ gb186 38 #[.string (⟨#[]⟩ : ByteArray), .bool false, .bool false, .slice none 0 0, .int .i64 0, .int .i64 0, .int .i64 0, .int .u32 0] (0, 0) _ rfl (by (with_reducible repeat (fail)); refine blk_put (cs := #[.string (⟨#[]⟩ : ByteArray), .bool false, .bool false, .slice none 0 0, .int .i64 0, .int .i64 0, .int .i64 0, .int .u32 x187007_1]) ?_ 7 _ rfl; (with_reducible repeat (fail)); refine blk_put (cs := #[.string (⟨#[]⟩ : ByteArray), .bool false, .bool false, .slice none 0 0, .int .i64 0, .int .i64 0, .int .i64 x187006_1, .int .u32 x187007_1]) ?_ 6 _ rfl; (with_reducible repeat (fail)); refine blk_put (cs := #[.string (⟨#[]⟩ : ByteArray), .bool false, .bool false, .slice none 0 0, .int .i64 0, .int .i64 x187005_1, .int .i64 x187006_1, .int .u32 x187007_1]) ?_ 5 _ rfl; (with_reducible repeat (fail)); refine blk_put (cs := #[.string (⟨#[]⟩ : ByteArray), .bool false, .bool false, .slice none 0 0, .int .i64 x187004_1, .int .i64 x187005_1, .int .i64 x187006_1, .int .u32 x187007_1]) ?_ 4 _ rfl; (with_reducible repeat (fail)); refine blk_put (cs := #[.string (⟨#[]⟩ : ByteArray), .bool false, .bool false, .slice none 0 0, .int .i64 x187004_1, .int .i64 x187005_1, .int .i64 x187006_1, .int .u32 x187007_1]) ?_ 3 _ rfl; (with_reducible repeat (fail)); refine blk_put (cs := #[.string (⟨#[]⟩ : ByteArray), .bool false, .bool x187002_1, .slice none 0 0, .int .i64 x187004_1, .int .i64 x187005_1, .int .i64 x187006_1, .int .u32 x187007_1]) ?_ 2 _ rfl; (with_reducible repeat (fail)); refine blk_put (cs := #[.string (⟨#[]⟩ : ByteArray), .bool x187001_1, .bool x187002_1, .slice none 0 0, .int .i64 x187004_1, .int .i64 x187005_1, .int .i64 x187006_1, .int .u32 x187007_1]) ?_ 1 _ rfl; (with_reducible repeat (fail)); refine blk_put (cs := #[.string x187000_1, .bool x187001_1, .bool x187002_1, .slice none 0 0, .int .i64 x187004_1, .int .i64 x187005_1, .int .i64 x187006_1, .int .u32 x187007_1]) ?_ 0 _ rfl; (with_reducible repeat (fail)); exact BK186.out) Try.underlying38 rfl (by kernel_rfl)) rfl ?_
    exact ⟨_, by first | rfl | (simp [errW_none, errW_some] <;> rfl) | (simp [*, errW_none, errW_some] <;> rfl), Kd.V_nil _ _ _ _ _, by repeat ((with_reducible first | exact HB.out | apply below_alloc | apply pw_below_drewN | apply below_drew1 | refine below_set ?_ GE186.out))⟩

-- NOT PRINTED: function 7 (garnerlaw10_TreeHolds)

-- NOT PRINTED: function 36 (tree_Tree_Clone)

-- NOT PRINTED: function 8 (garnerlaw10_TreeClones)

/-! ### garnerref14_From: function 19 -/
def garnerref14_From.l0 : Nat → List (List (S38)) → ByteArray → Int → Option (Int)
 | 0, _, _, _ => none
 | k + 1, x0, x1, x5 => if x5 < (x0.length : Int) then (if 0 ≤ x5 then ((garnerref10_Get.f k (rd_L9 x0 x5) x1).bind fun bt243 => (if bt243.1.toList = ([] : List UInt8) then (garnerref14_From.l0 k x0 x1 (wrap64 (x5 + 1))) else (some x5))) else (none)) else (some 0)
def garnerref14_From.f (k : Nat) (l0 : List (List (S38))) (a1 : ByteArray) : Option (Int) := garnerref14_From.l0 k l0 a1 0
theorem garnerref14_From.mono_l : ∀ k, (∀ y0 y1 y2, LeO (garnerref14_From.l0 k y0 y1 y2) (garnerref14_From.l0 (k + 1) y0 y1 y2))
 | 0 => fun _ _ _ r h => by simp [garnerref14_From.l0] at h
 | k + 1 => by
  have ih0 := garnerref14_From.mono_l k
  ·intro y0 y1 y2
   unfold garnerref14_From.l0
   repeat' first
   | (with_reducible exact ih0 _ _ _)
   | (with_reducible exact garnerref10_Get.mono _ _ _)
   | (with_reducible exact LeO.refl _)
   | (with_reducible exact LeO.none _)
   | (with_reducible refine LeO.ite ?_ ?_)
   | (with_reducible refine LeO.bind ?_ (fun _ => ?_))
   | exact ih0 _ _ _
   | exact garnerref10_Get.mono _ _ _
   | exact LeO.none _
   | refine LeO.ite ?_ ?_
   | refine LeO.bind ?_ (fun _ => ?_)
theorem garnerref14_From.mono : ∀ a0 a1 k, LeO (garnerref14_From.f k a0 a1) (garnerref14_From.f (k + 1) a0 a1) := by
 intro a0 a1 k
 have ih0 := garnerref14_From.mono_l k
 unfold garnerref14_From.f
 repeat' first
   | (with_reducible exact ih0 _ _ _)
   | (with_reducible exact garnerref10_Get.mono _ _ _)
   | (with_reducible exact LeO.refl _)
   | (with_reducible exact LeO.none _)
   | (with_reducible refine LeO.ite ?_ ?_)
   | (with_reducible refine LeO.bind ?_ (fun _ => ?_))
   | exact ih0 _ _ _
   | exact garnerref10_Get.mono _ _ _
   | exact LeO.none _
   | refine LeO.ite ?_ ?_
   | refine LeO.bind ?_ (fun _ => ?_)
set_option maxHeartbeats 8000000 in
set_option maxRecDepth 100000 in
theorem garnerref14_From.calls (k : Nat) (A0 : Option Addr) (c0 : Nat) (l0 : List (List (S38))) (a1 : ByteArray) (r : Int) (w : World) (hr0 : Kd.C (Kd.slice 38 k38) w A0 l0.length l0) (hc0 : l0.length ≤ c0) (h : garnerref14_From.f k l0 a1 = some r) :
  Calls Try.prog 19 #[.slice A0 l0.length c0, .string a1] w fun e w' => e = .returned (.int .i64 r) ∧ Below w.heap.size w w' := by
 have hfd : ∀ (s : ByteArray) (b1 b2 : Bool) (Av : Option Addr) (n c : Nat) (i1 i2 i3 i4 : Int) (W : World), (Instr.field 38 (.agg #[.string s, .bool b1, .bool b2, .slice Av n c, .int .i64 i1, .int .i64 i2, .int .i64 i3, .int .u32 i4]) 0).run Try.prog W = .ok (.string s) W := fun _ _ _ _ _ _ _ _ _ _ _ => by kernel_rfl
 have HR0 := Aside0.mk hr0
 have HC0 := Aside0.mk hc0
 clear hr0 hc0
 have HB := Aside0.mk (Below.refl w.heap.size w)
 have H : (garnerref14_From.l0 k l0 a1 0) = some r := h
 clear h
 have H' := Aside0.mk H
 clear H
 go_enter Try.func19, Try.ntmps19
 go_wp2
 go_loopg [5] k (fun kq v5 w' => ∃ (x5_1 : Int), v5 = .int .i64 x5_1 ∧ Aside0 (garnerref14_From.l0 kq l0 a1 x5_1 = some r) ∧ Aside0 (kq ≤ k) ∧ Aside0 (Below w.heap.size w w'))
 case atStart => exact ⟨(0), (by first | rfl | (simp; done) | (simp [*]; done)), H', ⟨Nat.le_refl _⟩, ⟨by repeat ((with_reducible first | exact HB.out | apply below_alloc | apply pw_below_drewN | apply below_drew1))⟩⟩
 case round =>
  clear H'
  try clear c1
  try clear p2
  obtain ⟨x5_1, rfl, HA, HK1, HB⟩ := hrel
  cases gk with
  | zero => exact absurd HA.out (by simp [garnerref14_From.l0])
  | succ k1 =>
   have H := HA.out
   clear HA
   simp only [garnerref14_From.l0] at H
   by_cases c3 : x5_1 < (l0.length : Int)
   ·rw [if_pos c3] at H
    have c3b0 : decide (x5_1 < (l0.length : Int)) = true := decide_eq_true c3
    clear c3
    by_cases c4 : 0 ≤ x5_1
    ·rw [if_pos c4] at H
     have c4b0 : decide (0 ≤ x5_1) = true := decide_eq_true c4
     clear c4
     replace H := Option.bind_eq_some_iff.mp H
     obtain ⟨⟨t243, t244, t245, t246, t249, t250, t251, t252⟩, A50, H⟩ := H
     replace H : (if t243.toList = ([] : List UInt8) then (garnerref14_From.l0 k1 l0 a1 (wrap64 (x5_1 + 1))) else (some x5_1)) = some r := H
     have A5 := Aside0.mk A50
     clear A50
     by_cases c6 : t243.toList = ([] : List UInt8)
     ·rw [if_pos c6] at H
      have c6b0 : (t243.toList == ([] : List UInt8)) = true := beq_iff_eq.mpr c6
      have c6b1 : (t243.toList != ([] : List UInt8)) = false := bne_eq_false_iff_eq.mpr c6
      clear c6
      have H' := Aside0.mk H
      clear H
      have p242 : 0 ≤ (x5_1 : Int) := of_decide_eq_true (by first | (with_reducible assumption) | assumption)
      have q242 : x5_1 < (l0.length : Int) := of_decide_eq_true (by first | (with_reducible assumption) | assumption)
      obtain ⟨ad242, A242_0, c242_0, e242, hx242_0, hl242_0, hi242_0⟩ := at_L9 HR0.out x5_1 p242 q242
      cases e242
      replace hx242_0 := pw_cell_below HB.out hx242_0
      have HR242_0 := Aside0.mk hi242_0
      have HC242_0 := Aside0.mk hl242_0
      clear hi242_0 hl242_0
      replace p242 := eq_true p242
      replace q242 := eq_true q242
      go_wp2_with (((with_reducible refine gate_callee (f := 35) rfl ?_); refine goesL_ (some 17) rfl rfl Try.func35 (by kernel_rfl) rfl #[.slice A242_0 (rd_L9 l0 x5_1).length c242_0, .string a1] rfl (by (try simp only [List.map_toArray, List.map_cons, List.map_nil]); first | done | rfl | (simp only [List.length_drop, List.length_take]; rfl)) ?_; (with_reducible refine (garnerref10_Get.calls k1 (fun k_ => k_ < w.heap.size) _ _ (rd_L9 l0 x5_1) a1 t243 t244 t245 t246 t249 t250 t251 t252 _ ?side1 A5.out).mono ?_); (case side1 => exact Kd.V_mk HC242_0.out (Kd.F_below (Kd.C_F k38_heap HR242_0.out) (by repeat ((with_reducible first | exact HB.out | apply below_alloc | apply pw_below_drewN | apply below_drew1))))); rintro e w7 ⟨v247, rfl, ho0, hb⟩; refine ⟨_, rfl, ?_⟩; have n0_ := Aside0.mk (Kd.V_lower (Kd.V_mono (ok' := fun k_ => True) ho0 (fun k_ hk_ => trivial)) (below_size (by repeat ((with_reducible first | exact HB.out | apply below_alloc | apply pw_below_drewN | apply below_drew1))))); have n1_ := Aside0.mk (below_step (by repeat ((with_reducible first | exact HB.out | apply below_alloc | apply pw_below_drewN | apply below_drew1))) hb); clear HB; have HO248 := n0_; have HB := n1_; clear n0_ n1_; (try clear hb); (try clear hb2); (try clear hk); (try clear hi); (try clear ho0); have hx_ := HO248.out; obtain ⟨Av_, cv_, rfl, hv1_, hv2_⟩ := hx_; clear hv1_ hv2_))
      go_roundg k1
      case measure => have := HK1.out; omega
      case rel => exact ⟨(wrap64 (x5_1 + 1)), (by first | rfl | (simp; done) | (simp [*]; done)), H', ⟨by have := HK1.out; omega⟩, ⟨by repeat ((with_reducible first | exact HB.out | apply below_alloc | apply pw_below_drewN | apply below_drew1))⟩⟩
     ·rw [if_neg c6] at H
      have c6b0 : (t243.toList == ([] : List UInt8)) = false := beq_eq_false_iff_ne.mpr c6
      have c6b1 : (t243.toList != ([] : List UInt8)) = true := bne_iff_ne.mpr c6
      obtain rfl := Option.some.inj H
      have p242 : 0 ≤ (x5_1 : Int) := of_decide_eq_true (by first | (with_reducible assumption) | assumption)
      have q242 : x5_1 < (l0.length : Int) := of_decide_eq_true (by first | (with_reducible assumption) | assumption)
      obtain ⟨ad242, A242_0, c242_0, e242, hx242_0, hl242_0, hi242_0⟩ := at_L9 HR0.out x5_1 p242 q242
      cases e242
      replace hx242_0 := pw_cell_below HB.out hx242_0
      have HR242_0 := Aside0.mk hi242_0
      have HC242_0 := Aside0.mk hl242_0
      clear hi242_0 hl242_0
      replace p242 := eq_true p242
      replace q242 := eq_true q242
      go_wp2_with (((with_reducible refine gate_callee (f := 35) rfl ?_); refine goesL_ (some 17) rfl rfl Try.func35 (by kernel_rfl) rfl #[.slice A242_0 (rd_L9 l0 x5_1).length c242_0, .string a1] rfl (by (try simp only [List.map_toArray, List.map_cons, List.map_nil]); first | done | rfl | (simp only [List.length_drop, List.length_take]; rfl)) ?_; (with_reducible refine (garnerref10_Get.calls k1 (fun k_ => k_ < w.heap.size) _ _ (rd_L9 l0 x5_1) a1 t243 t244 t245 t246 t249 t250 t251 t252 _ ?side1 A5.out).mono ?_); (case side1 => exact Kd.V_mk HC242_0.out (Kd.F_below (Kd.C_F k38_heap HR242_0.out) (by repeat ((with_reducible first | exact HB.out | apply below_alloc | apply pw_below_drewN | apply below_drew1))))); rintro e w8 ⟨v247, rfl, ho0, hb⟩; refine ⟨_, rfl, ?_⟩; have n0_ := Aside0.mk (Kd.V_lower (Kd.V_mono (ok' := fun k_ => True) ho0 (fun k_ hk_ => trivial)) (below_size (by repeat ((with_reducible first | exact HB.out | apply below_alloc | apply pw_below_drewN | apply below_drew1))))); have n1_ := Aside0.mk (below_step (by repeat ((with_reducible first | exact HB.out | apply below_alloc | apply pw_below_drewN | apply below_drew1))) hb); clear HB; have HO248 := n0_; have HB := n1_; clear n0_ n1_; (try clear hb); (try clear hb2); (try clear hk); (try clear hi); (try clear ho0); have hx_ := HO248.out; obtain ⟨Av_, cv_, rfl, hv1_, hv2_⟩ := hx_; clear hv1_ hv2_))
      go_ret
      exact ⟨by first | rfl | (simp [errW_none, errW_some] <;> rfl) | (simp [*, errW_none, errW_some] <;> rfl), by repeat ((with_reducible first | exact HB.out | apply below_alloc | apply pw_below_drewN | apply below_drew1))⟩
    ·rw [if_neg c4] at H
     exact absurd H (by simp)
   ·rw [if_neg c3] at H
    have c3b0 : decide (x5_1 < (l0.length : Int)) = false := decide_eq_false c3
    clear c3
    obtain rfl := Option.some.inj H
    go_wp2
    go_ret
    exact ⟨by first | rfl | (simp [errW_none, errW_some] <;> rfl) | (simp [*, errW_none, errW_some] <;> rfl), by repeat ((with_reducible first | exact HB.out | apply below_alloc | apply pw_below_drewN | apply below_drew1))⟩

-- NOT PRINTED: function 3 (garnerlaw14_MergeWalks)

-- NOT PRINTED: function 4 (garnerlaw14_MergeParts)

-- NOT PRINTED: function 37 (merge_Scan)

-- NOT PRINTED: function 38 (merge_Get)

-- NOT PRINTED: function 9 (garnerlaw14_MergeAll)

-- NOT PRINTED: function 10 (garnerlaw14_MergeScans)

end Go.Proofs.Ytgoidimipchejaa.PT
-- REPACKED
