/- Layer 10: a tree's node is turned as the plain tree is; no condition beyond the bounds that each lemma names. -/
import Derived.Test.YtgoidimipchejaaTrA
import Derived.Deep.RegionHeld3
import Derived.Deep.DrawnRows
import Derived.BigQuiet
import Derived.Laws.Pointers
namespace Go.Proofs.Ytgoidimipchejaa.Tr
open Go.RowKit Go.Proofs.Ytgoidimipchejaa.PT Go.Proofs.YtgoidimipchejaaW.PrintWords Go.Proofs.YtgoidimipchejaaW.PrintLast Go.Proofs.YtgoidimipchejaaW.PrintMore
set_option linter.unusedVariables false
attribute [local go_sem ↓] Go.wp_at_zero Go.wp_at_succ

set_option maxHeartbeats 4000000 in
set_option maxRecDepth 100000 in
theorem skew_nil (ok : Nat → Prop) (x : S38) (lx : Int) (r : BT) (v : Value) (w : World) (h : FT w ok (.node .nil x lx r) v) :
    Calls Try.prog 67 #[v] w fun e w' => ∃ v', e = .returned v' ∧ FT w' (fun k => ok k ∨ w.heap.size ≤ k) (skewT (.node .nil x lx r)) v' ∧ Below w.heap.size w w' := by
  have H := Lib.hid h
  obtain ⟨b, vl, vr, A, c, rfl, hb, hh, hc, hf, hl, hr⟩ := h
  obtain rfl : vl = .pointer none := hl
  obtain ⟨a0, a1, a2, a3, a4, a5, a6, a7, a8, a9, a10⟩ := cells11 hh
  clear hh hf hr hc
  go_enter Try.func67, Try.ntmps67
  go_wp2
  go_quiet (fail)
  go_wp2
  go_ret
  exact ⟨_, rfl, (H.out.mono fun k hk => .inl hk).below (pw_below_drewN (Below.refl _ _) _), pw_below_drewN (Below.refl _ _) _⟩
set_option maxHeartbeats 8000000 in
set_option maxRecDepth 100000 in
theorem skew_no (ok : Nat → Prop) (a bb : BT) (y x : S38) (ly lx : Int) (r : BT) (v : Value) (w : World) (hne : ¬ ly = lx) (h : FT w ok (.node (.node a y ly bb) x lx r) v) :
    Calls Try.prog 67 #[v] w fun e w' => ∃ v', e = .returned v' ∧ FT w' (fun k => ok k ∨ w.heap.size ≤ k) (skewT (.node (.node a y ly bb) x lx r)) v' ∧ Below w.heap.size w w' := by
  have hT : skewT (.node (.node a y ly bb) x lx r) = .node (.node a y ly bb) x lx r := by simp only [skewT]; rw [if_neg hne]
  rw [hT]
  have H := Lib.hid h
  obtain ⟨b, vl, vr, A, c, rfl, hb, hh, hc, hf, hl, hr⟩ := h
  obtain ⟨b2, vl2, vr2, A2, c2, rfl, hb2, hh2, hc2, hf2, hl2, hr2⟩ := hl
  obtain ⟨a0, a1, a2, a3, a4, a5, a6, a7, a8, a9, a10⟩ := cells11 hh
  obtain ⟨d0, d1, d2, d3, d4, d5, d6, d7, d8, d9, d10⟩ := cells11 hh2
  have hn : (ly != lx) = true := bne_iff_ne.2 hne
  clear hh hf hr hc hh2 hf2 hr2 hc2 hl2 hne hT
  go_enter Try.func67, Try.ntmps67
  go_wp2
  go_quiet (fail)
  go_wp2
  go_ret
  exact ⟨_, rfl, (H.out.mono fun k hk => .inl hk).below (pw_below_drewN (Below.refl _ _) _), pw_below_drewN (Below.refl _ _) _⟩
set_option maxHeartbeats 8000000 in
set_option maxRecDepth 100000 in
theorem skew_yes (ok : Nat → Prop) (a bb : BT) (y x : S38) (lx : Int) (r : BT) (v : Value) (w : World) (h : FT w ok (.node (.node a y lx bb) x lx r) v) :
    Calls Try.prog 67 #[v] w fun e w' => ∃ v', e = .returned v' ∧ FT w' (fun k => ok k ∨ w.heap.size ≤ k) (skewT (.node (.node a y lx bb) x lx r)) v' ∧ Below w.heap.size w w' := by
  have hT : skewT (.node (.node a y lx bb) x lx r) = .node a y lx (.node bb x lx r) := by simp only [skewT]; rw [if_pos trivial]
  rw [hT]
  obtain ⟨b, vl, vr, A, c, rfl, hb, hh, hc, hf, hl, hr⟩ := h
  obtain ⟨b2, vl2, vr2, A2, c2, rfl, hb2, hh2, hc2, hf2, hl2, hr2⟩ := hl
  obtain ⟨a0, a1, a2, a3, a4, a5, a6, a7, a8, a9, a10⟩ := cells11 hh
  obtain ⟨d0, d1, d2, d3, d4, d5, d6, d7, d8, d9, d10⟩ := cells11 hh2
  have hn : (lx != lx) = false := by simp
  obtain ⟨p1, rfl⟩ := hr.ptr
  obtain ⟨p2, rfl⟩ := hl2.ptr
  obtain ⟨p3, rfl⟩ := hr2.ptr
  have HF := Lib.hid hf
  have HF2 := Lib.hid hf2
  have HL2 := Lib.hid hl2
  have HR2 := Lib.hid hr2
  have HR := Lib.hid hr
  have HH := Lib.hid hh
  have HH2 := Lib.hid hh2
  clear hh hf hr hh2 hf2 hr2 hl2 hT
  go_enter Try.func67, Try.ntmps67
  go_wp2
  go_quiet (fail)
  go_wp2
  go_region_held3 (fun w' => w'.cell? ⟨b, 0, none⟩ = some (.string x.f0) ∧ w'.cell? ⟨b, 1, none⟩ = some (.bool x.f1) ∧ w'.cell? ⟨b, 2, none⟩ = some (.bool x.f2.f0) ∧ w'.cell? ⟨b, 3, none⟩ = some (.slice A x.f2.f1.length c) ∧ w'.cell? ⟨b, 4, none⟩ = some (.int .i64 x.f2.f2.f0) ∧ w'.cell? ⟨b, 5, none⟩ = some (.int .i64 x.f2.f2.f1) ∧ w'.cell? ⟨b, 6, none⟩ = some (.int .i64 x.f2.f2.f2) ∧ w'.cell? ⟨b, 7, none⟩ = some (.int .u32 x.f2.f2.f3) ∧ w'.cell? ⟨b, 9, none⟩ = some (.pointer p1) ∧ w'.cell? ⟨b, 10, none⟩ = some (.int .i64 lx) ∧
    w'.cell? ⟨b2, 0, none⟩ = some (.string y.f0) ∧ w'.cell? ⟨b2, 1, none⟩ = some (.bool y.f1) ∧ w'.cell? ⟨b2, 2, none⟩ = some (.bool y.f2.f0) ∧ w'.cell? ⟨b2, 3, none⟩ = some (.slice A2 y.f2.f1.length c2) ∧ w'.cell? ⟨b2, 4, none⟩ = some (.int .i64 y.f2.f2.f0) ∧ w'.cell? ⟨b2, 5, none⟩ = some (.int .i64 y.f2.f2.f1) ∧ w'.cell? ⟨b2, 6, none⟩ = some (.int .i64 y.f2.f2.f2) ∧ w'.cell? ⟨b2, 7, none⟩ = some (.int .u32 y.f2.f2.f3) ∧ w'.cell? ⟨b2, 8, none⟩ = some (.pointer p2) ∧ w'.cell? ⟨b2, 9, none⟩ = some (.pointer p3) ∧ w'.cell? ⟨b2, 10, none⟩ = some (.int .i64 lx)) (go_keep) (fail)
  go_wp2
  go_ret
  have hb0 : ∀ n, Below w.heap.size w (w.drewN n) := fun n => pw_below_drewN (Below.refl _ _) _
  have up : ∀ k, ok k → ok k ∨ w.heap.size ≤ k := fun k hk => .inl hk
  refine ⟨_, rfl, FT.alloc_node ((HL2.out.mono up).below ?_) (FT.alloc_node ((HR2.out.mono up).below (hb0 _)) ((HR.out.mono up).below (hb0 _)) hc (Kd.F_below (Kd.F_mono HF.out up) (hb0 _)) rfl (.inr (Nat.le_refl _))) hc2 (Kd.F_below (Kd.F_mono HF2.out up) ?_) (by simp) (.inr (by omega)), ?_⟩
  · exact below_alloc (hb0 _) _
  · exact below_alloc (hb0 _) _
  · exact below_alloc (below_alloc (hb0 _) _) _
theorem skew_calls (ok : Nat → Prop) (l : BT) (x : S38) (lx : Int) (r : BT) (v : Value) (w : World) (h : FT w ok (.node l x lx r) v) :
    Calls Try.prog 67 #[v] w fun e w' => ∃ v', e = .returned v' ∧ FT w' (fun k => ok k ∨ w.heap.size ≤ k) (skewT (.node l x lx r)) v' ∧ Below w.heap.size w w' := by
  cases l with
  | nil => exact skew_nil ok x lx r v w h
  | node a y ly bb =>
    by_cases e : ly = lx
    · subst e
      exact skew_yes ok a bb y x ly r v w h
    · exact skew_no ok a bb y x ly lx r v w e h

set_option maxHeartbeats 4000000 in
set_option maxRecDepth 100000 in
theorem split_nil (ok : Nat → Prop) (a : BT) (x : S38) (lx : Int) (v : Value) (w : World) (h : FT w ok (.node a x lx .nil) v) :
    Calls Try.prog 66 #[v] w fun e w' => ∃ v', e = .returned v' ∧ FT w' (fun k => ok k ∨ w.heap.size ≤ k) (splitT (.node a x lx .nil)) v' ∧ Below w.heap.size w w' := by
  have H := Lib.hid h
  obtain ⟨b, vl, vr, A, c, rfl, hb, hh, hc, hf, hl, hr⟩ := h
  obtain rfl : vr = .pointer none := hr
  obtain ⟨a0, a1, a2, a3, a4, a5, a6, a7, a8, a9, a10⟩ := cells11 hh
  clear hh hf hl hc
  go_enter Try.func66, Try.ntmps66
  go_wp2
  go_quiet (fail)
  go_wp2
  go_ret
  exact ⟨_, rfl, (H.out.mono fun k hk => .inl hk).below (pw_below_drewN (Below.refl _ _) _), pw_below_drewN (Below.refl _ _) _⟩
set_option maxHeartbeats 8000000 in
set_option maxRecDepth 100000 in
theorem split_one (ok : Nat → Prop) (a bb : BT) (x y : S38) (lx ly : Int) (v : Value) (w : World) (h : FT w ok (.node a x lx (.node bb y ly .nil)) v) :
    Calls Try.prog 66 #[v] w fun e w' => ∃ v', e = .returned v' ∧ FT w' (fun k => ok k ∨ w.heap.size ≤ k) (splitT (.node a x lx (.node bb y ly .nil))) v' ∧ Below w.heap.size w w' := by
  have H := Lib.hid h
  obtain ⟨b, vl, vr, A, c, rfl, hb, hh, hc, hf, hl, hr⟩ := h
  obtain ⟨b2, vl2, vr2, A2, c2, rfl, hb2, hh2, hc2, hf2, hl2, hr2⟩ := hr
  obtain rfl : vr2 = .pointer none := hr2
  obtain ⟨a0, a1, a2, a3, a4, a5, a6, a7, a8, a9, a10⟩ := cells11 hh
  obtain ⟨d0, d1, d2, d3, d4, d5, d6, d7, d8, d9, d10⟩ := cells11 hh2
  clear hh hf hl hc hh2 hf2 hl2 hc2
  go_enter Try.func66, Try.ntmps66
  go_wp2
  go_quiet (fail)
  go_wp2
  go_ret
  exact ⟨_, rfl, (H.out.mono fun k hk => .inl hk).below (pw_below_drewN (Below.refl _ _) _), pw_below_drewN (Below.refl _ _) _⟩
set_option maxHeartbeats 8000000 in
set_option maxRecDepth 100000 in
theorem split_no (ok : Nat → Prop) (a bb cc dd : BT) (x y z : S38) (lx ly lz : Int) (v : Value) (w : World) (hne : ¬ lz = lx) (h : FT w ok (.node a x lx (.node bb y ly (.node cc z lz dd))) v) :
    Calls Try.prog 66 #[v] w fun e w' => ∃ v', e = .returned v' ∧ FT w' (fun k => ok k ∨ w.heap.size ≤ k) (splitT (.node a x lx (.node bb y ly (.node cc z lz dd)))) v' ∧ Below w.heap.size w w' := by
  have hT : splitT (.node a x lx (.node bb y ly (.node cc z lz dd))) = .node a x lx (.node bb y ly (.node cc z lz dd)) := by simp only [splitT]; rw [if_neg hne]
  rw [hT]
  have H := Lib.hid h
  obtain ⟨b, vl, vr, A, c, rfl, hb, hh, hc, hf, hl, hr⟩ := h
  obtain ⟨b2, vl2, vr2, A2, c2, rfl, hb2, hh2, hc2, hf2, hl2, hr2⟩ := hr
  obtain ⟨b3, vl3, vr3, A3, c3, rfl, hb3, hh3, hc3, hf3, hl3, hr3⟩ := hr2
  obtain ⟨a0, a1, a2, a3, a4, a5, a6, a7, a8, a9, a10⟩ := cells11 hh
  obtain ⟨d0, d1, d2, d3, d4, d5, d6, d7, d8, d9, d10⟩ := cells11 hh2
  obtain ⟨e0, e1, e2, e3, e4, e5, e6, e7, e8, e9, e10⟩ := cells11 hh3
  have hn : (lz != lx) = true := bne_iff_ne.2 hne
  clear hh hf hl hc hh2 hf2 hl2 hc2 hh3 hf3 hl3 hc3 hne hT
  go_enter Try.func66, Try.ntmps66
  go_wp2
  go_quiet (fail)
  go_wp2
  go_ret
  exact ⟨_, rfl, (H.out.mono fun k hk => .inl hk).below (pw_below_drewN (Below.refl _ _) _), pw_below_drewN (Below.refl _ _) _⟩
set_option maxHeartbeats 8000000 in
set_option maxRecDepth 100000 in
theorem split_yes (ok : Nat → Prop) (a bb cc dd : BT) (x y z : S38) (lx ly : Int) (v : Value) (w : World) (h : FT w ok (.node a x lx (.node bb y ly (.node cc z lx dd))) v) :
    Calls Try.prog 66 #[v] w fun e w' => ∃ v', e = .returned v' ∧ FT w' (fun k => ok k ∨ w.heap.size ≤ k) (splitT (.node a x lx (.node bb y ly (.node cc z lx dd)))) v' ∧ Below w.heap.size w w' := by
  have hT : splitT (.node a x lx (.node bb y ly (.node cc z lx dd))) = .node (.node a x lx bb) y (IntKind.i64.wrap (ly + 1)) (.node cc z lx dd) := by simp only [splitT]; rw [if_pos trivial]
  rw [hT]
  obtain ⟨b, vl, vr, A, c, rfl, hb, hh, hc, hf, hl, hr⟩ := h
  obtain ⟨b2, vl2, vr2, A2, c2, rfl, hb2, hh2, hc2, hf2, hl2, hr2⟩ := hr
  have HR2 := Lib.hid hr2
  obtain ⟨b3, vl3, vr3, A3, c3, rfl, hb3, hh3, hc3, hf3, hl3, hr3⟩ := hr2
  obtain ⟨a0, a1, a2, a3, a4, a5, a6, a7, a8, a9, a10⟩ := cells11 hh
  obtain ⟨d0, d1, d2, d3, d4, d5, d6, d7, d8, d9, d10⟩ := cells11 hh2
  obtain ⟨e0, e1, e2, e3, e4, e5, e6, e7, e8, e9, e10⟩ := cells11 hh3
  have hn : (lx != lx) = false := by simp
  obtain ⟨p1, rfl⟩ := hl.ptr
  obtain ⟨p2, rfl⟩ := hl2.ptr
  have HF := Lib.hid hf
  have HF2 := Lib.hid hf2
  have HL := Lib.hid hl
  have HL2 := Lib.hid hl2
  clear hh hf hl hh2 hf2 hl2 hh3 hf3 hl3 hr3 hT
  go_enter Try.func66, Try.ntmps66
  go_wp2
  go_quiet (fail)
  go_wp2
  go_region_held3 (fun w' => w'.cell? ⟨b, 0, none⟩ = some (.string x.f0) ∧ w'.cell? ⟨b, 1, none⟩ = some (.bool x.f1) ∧ w'.cell? ⟨b, 2, none⟩ = some (.bool x.f2.f0) ∧ w'.cell? ⟨b, 3, none⟩ = some (.slice A x.f2.f1.length c) ∧ w'.cell? ⟨b, 4, none⟩ = some (.int .i64 x.f2.f2.f0) ∧ w'.cell? ⟨b, 5, none⟩ = some (.int .i64 x.f2.f2.f1) ∧ w'.cell? ⟨b, 6, none⟩ = some (.int .i64 x.f2.f2.f2) ∧ w'.cell? ⟨b, 7, none⟩ = some (.int .u32 x.f2.f2.f3) ∧ w'.cell? ⟨b, 8, none⟩ = some (.pointer p1) ∧ w'.cell? ⟨b, 10, none⟩ = some (.int .i64 lx) ∧
    w'.cell? ⟨b2, 0, none⟩ = some (.string y.f0) ∧ w'.cell? ⟨b2, 1, none⟩ = some (.bool y.f1) ∧ w'.cell? ⟨b2, 2, none⟩ = some (.bool y.f2.f0) ∧ w'.cell? ⟨b2, 3, none⟩ = some (.slice A2 y.f2.f1.length c2) ∧ w'.cell? ⟨b2, 4, none⟩ = some (.int .i64 y.f2.f2.f0) ∧ w'.cell? ⟨b2, 5, none⟩ = some (.int .i64 y.f2.f2.f1) ∧ w'.cell? ⟨b2, 6, none⟩ = some (.int .i64 y.f2.f2.f2) ∧ w'.cell? ⟨b2, 7, none⟩ = some (.int .u32 y.f2.f2.f3) ∧ w'.cell? ⟨b2, 8, none⟩ = some (.pointer p2) ∧ w'.cell? ⟨b2, 9, none⟩ = some (.pointer (some ⟨b3, 0, none⟩)) ∧ w'.cell? ⟨b2, 10, none⟩ = some (.int .i64 ly)) (go_keep) (fail)
  go_wp2
  go_ret
  have hb0 : ∀ n, Below w.heap.size w (w.drewN n) := fun n => pw_below_drewN (Below.refl _ _) _
  have up : ∀ k, ok k → ok k ∨ w.heap.size ≤ k := fun k hk => .inl hk
  refine ⟨_, rfl, FT.alloc_node (B := w.heap.size + 1) (FT.alloc_node (B := w.heap.size) ((HL.out.mono up).below (hb0 _)) ((HL2.out.mono up).below (hb0 _)) hc (Kd.F_below (Kd.F_mono HF.out up) (hb0 _)) rfl (.inr (Nat.le_refl _))) ((HR2.out.mono up).below ?_) hc2 (Kd.F_below (Kd.F_mono HF2.out up) ?_) (by simp) (.inr (by omega)), ?_⟩
  · exact below_alloc (hb0 _) _
  · exact below_alloc (hb0 _) _
  · exact below_alloc (below_alloc (hb0 _) _) _
theorem split_calls (ok : Nat → Prop) (a : BT) (x : S38) (lx : Int) (r : BT) (v : Value) (w : World) (h : FT w ok (.node a x lx r) v) :
    Calls Try.prog 66 #[v] w fun e w' => ∃ v', e = .returned v' ∧ FT w' (fun k => ok k ∨ w.heap.size ≤ k) (splitT (.node a x lx r)) v' ∧ Below w.heap.size w w' := by
  cases r with
  | nil => exact split_nil ok a x lx v w h
  | node bb y ly r2 =>
    cases r2 with
    | nil => exact split_one ok a bb x y lx ly v w h
    | node cc z lz dd =>
      by_cases e : lz = lx
      · subst e
        exact split_yes ok a bb cc dd x y z lz ly v w h
      · exact split_no ok a bb cc dd x y z lx ly lz v w e h
end Go.Proofs.Ytgoidimipchejaa.Tr
