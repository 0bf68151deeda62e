/- Layer 10: putting an item into a tree is what it is of the plain tree; no condition beyond the bounds that each lemma names. -/
import Derived.Test.YtgoidimipchejaaTrB
namespace Go.Proofs.Ytgoidimipchejaa.Tr
open Go.RowKit Go.Proofs.Ytgoidimipchejaa.PT Go.Proofs.YtgoidimipchejaaW.PrintWords Go.Proofs.YtgoidimipchejaaW.PrintLast Go.Proofs.YtgoidimipchejaaW.PrintMore
set_option linter.unusedVariables false
attribute [local go_sem ↓] Go.wp_at_zero Go.wp_at_succ

theorem skewT_ne (l : BT) (x : S38) (lx : Int) (r : BT) : skewT (.node l x lx r) ≠ .nil := by
  unfold skewT
  split
  · split <;> simp
  · rename_i h
    simp
theorem split_any (ok : Nat → Prop) (T : BT) (hT : T ≠ .nil) (v : Value) (w : World) (h : FT w ok T v) :
    Calls Try.prog 66 #[v] w fun e w' => ∃ v', e = .returned v' ∧ FT w' (fun k => ok k ∨ w.heap.size ≤ k) (splitT T) v' ∧ Below w.heap.size w w' := by
  cases T with
  | nil => exact absurd rfl hT
  | node a x lx r => exact split_calls ok a x lx r v w h
/-- What putting is shown to do. -/
def PutOk (T : BT) : Prop := ∀ (ok : Nat → Prop) (x : S38) (A : Option Addr) (c : Nat) (v : Value) (w : World), x.f2.f1.length ≤ c → FT w ok T v → Kd.F (Kd.int .u8) w ok A x.f2.f1.length x.f2.f1 →
    Calls Try.prog 56 #[v, .agg (itemCells x A c)] w fun e w' => ∃ v', e = .returned v' ∧ FT w' (fun k => ok k ∨ w.heap.size ≤ k) (putT T x) v' ∧ Below w.heap.size w w'

set_option maxHeartbeats 4000000 in
set_option maxRecDepth 100000 in
theorem put_nil : PutOk .nil := by
  intro ok x A c v w hc h hf
  obtain rfl : v = .pointer none := h
  unfold itemCells
  have HF := Lib.hid hf
  clear hf
  go_enter Try.func56, Try.ntmps56
  go_wp2
  go_ret
  have hb0 := below_alloc (Below.refl w.heap.size w)
  have up : ∀ k, ok k → ok k ∨ w.heap.size ≤ k := fun k hk => .inl hk
  refine ⟨_, rfl, FT.alloc_node (l := .nil) (r := .nil) (B := w.heap.size + 1) rfl rfl hc (Kd.F_below (Kd.F_mono HF.out up) ?_) (by simp) (.inr (by omega)), ?_⟩
  · exact hb0 _
  · exact below_alloc (hb0 _) _
set_option maxHeartbeats 8000000 in
set_option maxRecDepth 100000 in
theorem put_same (l : BT) (y : S38) (lev : Int) (r : BT) (ok : Nat → Prop) (x : S38) (A : Option Addr) (c : Nat) (v : Value) (w : World) (hc : x.f2.f1.length ≤ c) (h : FT w ok (.node l y lev r) v) (hf : Kd.F (Kd.int .u8) w ok A x.f2.f1.length x.f2.f1) (he : x.f0.toList = y.f0.toList) :
    Calls Try.prog 56 #[v, .agg (itemCells x A c)] w fun e w' => ∃ v', e = .returned v' ∧ FT w' (fun k => ok k ∨ w.heap.size ≤ k) (.node l x lev r) v' ∧ Below w.heap.size w w' := by
  obtain ⟨b, vl, vr, A2, c2, rfl, hb, hh, hc2, hf2, hl, hr⟩ := h
  obtain ⟨p1, rfl⟩ := hl.ptr
  obtain ⟨p2, rfl⟩ := hr.ptr
  have hlt := lt_of_block hh
  obtain ⟨a0, a1, a2, a3, a4, a5, a6, a7, a8, a9, a10⟩ := cells11 hh
  unfold itemCells
  have heq : (x.f0.toList == y.f0.toList) = true := beq_iff_eq.2 he
  have HF := Lib.hid hf
  have HL := Lib.hid hl
  have HR := Lib.hid hr
  clear hf hf2 hl hr hh he
  go_enter Try.func56, Try.ntmps56
  go_wp2
  go_quiet (fail)
  go_wp2
  go_region_held3 (fun w' => w'.cell? ⟨w.heap.size, 0, none⟩ = some (.string x.f0) ∧ w'.cell? ⟨w.heap.size, 1, none⟩ = some (.bool x.f1) ∧ w'.cell? ⟨w.heap.size, 2, none⟩ = some (.bool x.f2.f0) ∧ w'.cell? ⟨w.heap.size, 3, none⟩ = some (.slice A x.f2.f1.length c) ∧ w'.cell? ⟨w.heap.size, 4, none⟩ = some (.int .i64 x.f2.f2.f0) ∧ w'.cell? ⟨w.heap.size, 5, none⟩ = some (.int .i64 x.f2.f2.f1) ∧ w'.cell? ⟨w.heap.size, 6, none⟩ = some (.int .i64 x.f2.f2.f2) ∧ w'.cell? ⟨w.heap.size, 7, none⟩ = some (.int .u32 x.f2.f2.f3) ∧ w'.cell? ⟨b, 8, none⟩ = some (.pointer p1) ∧ w'.cell? ⟨b, 9, none⟩ = some (.pointer p2) ∧ w'.cell? ⟨b, 10, none⟩ = some (.int .i64 lev)) (go_keep) (fail)
  go_wp2
  go_ret
  have hb0 : ∀ o n, Below w.heap.size w ((w.alloc o).drewN n) := fun o n => pw_below_drewN (below_alloc (Below.refl _ _) _) _
  have up : ∀ k, ok k → ok k ∨ w.heap.size ≤ k := fun k hk => .inl hk
  refine ⟨_, rfl, FT.alloc_node (B := w.heap.size + 1) ((HL.out.mono up).below (hb0 _ _)) ((HR.out.mono up).below (hb0 _ _)) hc (Kd.F_below (Kd.F_mono HF.out up) (hb0 _ _)) (by simp) (.inr (by omega)), ?_⟩
  exact below_alloc (hb0 _ _) _
set_option maxHeartbeats 16000000 in
set_option maxRecDepth 100000 in
theorem put_less (l : BT) (y : S38) (lev : Int) (r : BT) (ih : PutOk l) (ok : Nat → Prop) (x : S38) (A : Option Addr) (c : Nat) (v : Value) (w : World) (hc : x.f2.f1.length ≤ c) (h : FT w ok (.node l y lev r) v) (hf : Kd.F (Kd.int .u8) w ok A x.f2.f1.length x.f2.f1)
    (he : ¬ x.f0.toList = y.f0.toList) (hlss : Op.bytesLess x.f0.toList y.f0.toList = true) :
    Calls Try.prog 56 #[v, .agg (itemCells x A c)] w fun e w' => ∃ v', e = .returned v' ∧ FT w' (fun k => ok k ∨ w.heap.size ≤ k) (splitT (skewT (.node (putT l x) y lev r))) v' ∧ Below w.heap.size w w' := by
  obtain ⟨b, vl, vr, A2, c2, rfl, hb, hh, hc2, hf2, hl, hr⟩ := h
  obtain ⟨p1, rfl⟩ := hl.ptr
  obtain ⟨p2, rfl⟩ := hr.ptr
  have hlt := lt_of_block hh
  obtain ⟨a0, a1, a2, a3, a4, a5, a6, a7, a8, a9, a10⟩ := cells11 hh
  have heq : (x.f0.toList == y.f0.toList) = false := beq_eq_false_iff_ne.2 he
  have HF := Lib.hid hf
  have HF2 := Lib.hid hf2
  have HL := Lib.hid hl
  have HR := Lib.hid hr
  have HIH := Lib.hid ih
  have up : ∀ k, ok k → ok k ∨ w.heap.size ≤ k := fun k hk => .inl hk
  have UP := Lib.hid up
  have hb0 : ∀ o n, Below w.heap.size w ((w.alloc o).drewN n) := fun o n => pw_below_drewN (below_alloc (Below.refl _ _) _) _
  have HB0 := Lib.hid hb0
  clear hf hf2 hl hr hh he ih up hb0
  unfold itemCells
  go_enter Try.func56, Try.ntmps56
  go_wp2
  go_quiet (fail)
  go_wp2
  go_quiet (fail)
  go_wp2
  go_region_held3 (fun w' => w'.cell? ⟨w.heap.size, 0, none⟩ = some (.string x.f0) ∧ w'.cell? ⟨w.heap.size, 1, none⟩ = some (.bool x.f1) ∧ w'.cell? ⟨w.heap.size, 2, none⟩ = some (.bool x.f2.f0) ∧ w'.cell? ⟨w.heap.size, 3, none⟩ = some (.slice A x.f2.f1.length c) ∧ w'.cell? ⟨w.heap.size, 4, none⟩ = some (.int .i64 x.f2.f2.f0) ∧ w'.cell? ⟨w.heap.size, 5, none⟩ = some (.int .i64 x.f2.f2.f1) ∧ w'.cell? ⟨w.heap.size, 6, none⟩ = some (.int .i64 x.f2.f2.f2) ∧ w'.cell? ⟨w.heap.size, 7, none⟩ = some (.int .u32 x.f2.f2.f3) ∧ w'.cell? ⟨b, 0, none⟩ = some (.string y.f0) ∧ w'.cell? ⟨b, 1, none⟩ = some (.bool y.f1) ∧ w'.cell? ⟨b, 2, none⟩ = some (.bool y.f2.f0) ∧ w'.cell? ⟨b, 3, none⟩ = some (.slice A2 y.f2.f1.length c2) ∧ w'.cell? ⟨b, 4, none⟩ = some (.int .i64 y.f2.f2.f0) ∧ w'.cell? ⟨b, 5, none⟩ = some (.int .i64 y.f2.f2.f1) ∧ w'.cell? ⟨b, 6, none⟩ = some (.int .i64 y.f2.f2.f2) ∧ w'.cell? ⟨b, 7, none⟩ = some (.int .u32 y.f2.f2.f3) ∧ w'.cell? ⟨b, 8, none⟩ = some (.pointer p1) ∧ w'.cell? ⟨b, 9, none⟩ = some (.pointer p2) ∧ w'.cell? ⟨b, 10, none⟩ = some (.int .i64 lev)) ((refine ⟨?_, ?_, ?_, ?_, ?_, ?_, ?_, ?_, ?_, ?_, ?_, ?_, ?_, ?_, ?_, ?_, ?_, ?_, ?_⟩ <;> (first | (rw [hb3.cell (by simp <;> omega)]; go_keep) | (rw [hb2.cell (by simp <;> omega)]; unfold nodeCells; go_keep) | (rw [hbl.cell (by simp <;> omega)]; go_keep) | go_keep)))
    (first
      | (go_at_call 56; refine (HIH.out ok x A c _ _ hc (HL.out.below (HB0.out _ _)) (Kd.F_below HF.out (HB0.out _ _))).mono ?_; rintro e w1 ⟨v1, rfl, hft, hbl⟩; obtain ⟨q1, rfl⟩ := hft.ptr; have hs1 := hbl.size; simp only [World.heap_drewN, World.size_alloc] at hs1; have HBW := Lib.hid (below_step (HB0.out _ _) hbl); have HFT := Lib.hid (hft.mono (ok' := fun k => ok k ∨ w.heap.size ≤ k) (fun k hk => hk.elim .inl (fun h => .inr (by simp at h; omega)))); clear hft)
      | (go_at_call 67; refine (skew_calls (fun k => ok k ∨ w.heap.size ≤ k) (putT l x) y lev r _ _ (FT.alloc_node (B := w1.heap.size) HFT.out ((HR.out.mono UP.out).below HBW.out) hc2 (Kd.F_below (Kd.F_mono HF2.out UP.out) HBW.out) rfl (.inr (by omega)))).mono ?_; rintro e w2 ⟨v2, rfl, hft2, hb2⟩; obtain ⟨q2, rfl⟩ := hft2.ptr; have hs2 := hb2.size; simp only [World.size_alloc] at hs2; have HBW2 := Lib.hid (below_step (below_alloc HBW.out _) hb2); have HFT2 := Lib.hid (hft2.mono (ok' := fun k => ok k ∨ w.heap.size ≤ k) (fun k hk => hk.elim id (fun h => .inr (by simp at h; omega)))); clear hft2)
      | (go_at_call 66; refine (split_any (fun k => ok k ∨ w.heap.size ≤ k) _ (skewT_ne _ _ _ _) _ _ HFT2.out).mono ?_; rintro e w3 ⟨v3, rfl, hft3, hb3⟩; have hs3 := hb3.size; have HBW3 := Lib.hid (below_step HBW2.out hb3); have HFT3 := Lib.hid (hft3.mono (ok' := fun k => ok k ∨ w.heap.size ≤ k) (fun k hk => hk.elim id (fun h => .inr (by omega)))); clear hft3))
  go_wp2
  go_ret
  exact ⟨_, rfl, HFT3.out, HBW3.out⟩
set_option maxHeartbeats 16000000 in
set_option maxRecDepth 100000 in
theorem put_more (l : BT) (y : S38) (lev : Int) (r : BT) (ih : PutOk r) (ok : Nat → Prop) (x : S38) (A : Option Addr) (c : Nat) (v : Value) (w : World) (hc : x.f2.f1.length ≤ c) (h : FT w ok (.node l y lev r) v) (hf : Kd.F (Kd.int .u8) w ok A x.f2.f1.length x.f2.f1)
    (he : ¬ x.f0.toList = y.f0.toList) (hlss : Op.bytesLess x.f0.toList y.f0.toList = false) :
    Calls Try.prog 56 #[v, .agg (itemCells x A c)] w fun e w' => ∃ v', e = .returned v' ∧ FT w' (fun k => ok k ∨ w.heap.size ≤ k) (splitT (skewT (.node l y lev (putT r x)))) v' ∧ Below w.heap.size w w' := by
  obtain ⟨b, vl, vr, A2, c2, rfl, hb, hh, hc2, hf2, hl, hr⟩ := h
  obtain ⟨p1, rfl⟩ := hl.ptr
  obtain ⟨p2, rfl⟩ := hr.ptr
  have hlt := lt_of_block hh
  obtain ⟨a0, a1, a2, a3, a4, a5, a6, a7, a8, a9, a10⟩ := cells11 hh
  have heq : (x.f0.toList == y.f0.toList) = false := beq_eq_false_iff_ne.2 he
  have HF := Lib.hid hf
  have HF2 := Lib.hid hf2
  have HL := Lib.hid hl
  have HR := Lib.hid hr
  have HIH := Lib.hid ih
  have up : ∀ k, ok k → ok k ∨ w.heap.size ≤ k := fun k hk => .inl hk
  have UP := Lib.hid up
  have hb0 : ∀ o n, Below w.heap.size w ((w.alloc o).drewN n) := fun o n => pw_below_drewN (below_alloc (Below.refl _ _) _) _
  have HB0 := Lib.hid hb0
  clear hf hf2 hl hr hh he ih up hb0
  unfold itemCells
  go_enter Try.func56, Try.ntmps56
  go_wp2
  go_quiet (fail)
  go_wp2
  go_quiet (fail)
  go_wp2
  go_region_held3 (fun w' => w'.cell? ⟨w.heap.size, 0, none⟩ = some (.string x.f0) ∧ w'.cell? ⟨w.heap.size, 1, none⟩ = some (.bool x.f1) ∧ w'.cell? ⟨w.heap.size, 2, none⟩ = some (.bool x.f2.f0) ∧ w'.cell? ⟨w.heap.size, 3, none⟩ = some (.slice A x.f2.f1.length c) ∧ w'.cell? ⟨w.heap.size, 4, none⟩ = some (.int .i64 x.f2.f2.f0) ∧ w'.cell? ⟨w.heap.size, 5, none⟩ = some (.int .i64 x.f2.f2.f1) ∧ w'.cell? ⟨w.heap.size, 6, none⟩ = some (.int .i64 x.f2.f2.f2) ∧ w'.cell? ⟨w.heap.size, 7, none⟩ = some (.int .u32 x.f2.f2.f3) ∧ w'.cell? ⟨b, 0, none⟩ = some (.string y.f0) ∧ w'.cell? ⟨b, 1, none⟩ = some (.bool y.f1) ∧ w'.cell? ⟨b, 2, none⟩ = some (.bool y.f2.f0) ∧ w'.cell? ⟨b, 3, none⟩ = some (.slice A2 y.f2.f1.length c2) ∧ w'.cell? ⟨b, 4, none⟩ = some (.int .i64 y.f2.f2.f0) ∧ w'.cell? ⟨b, 5, none⟩ = some (.int .i64 y.f2.f2.f1) ∧ w'.cell? ⟨b, 6, none⟩ = some (.int .i64 y.f2.f2.f2) ∧ w'.cell? ⟨b, 7, none⟩ = some (.int .u32 y.f2.f2.f3) ∧ w'.cell? ⟨b, 8, none⟩ = some (.pointer p1) ∧ w'.cell? ⟨b, 9, none⟩ = some (.pointer p2) ∧ w'.cell? ⟨b, 10, none⟩ = some (.int .i64 lev)) ((refine ⟨?_, ?_, ?_, ?_, ?_, ?_, ?_, ?_, ?_, ?_, ?_, ?_, ?_, ?_, ?_, ?_, ?_, ?_, ?_⟩ <;> (first | (rw [hb3.cell (by simp <;> omega)]; go_keep) | (rw [hb2.cell (by simp <;> omega)]; unfold nodeCells; go_keep) | (rw [hbl.cell (by simp <;> omega)]; go_keep) | go_keep)))
    (first
      | (go_at_call 56; refine (HIH.out ok x A c _ _ hc (HR.out.below (HB0.out _ _)) (Kd.F_below HF.out (HB0.out _ _))).mono ?_; rintro e w1 ⟨v1, rfl, hft, hbl⟩; obtain ⟨q1, rfl⟩ := hft.ptr; have hs1 := hbl.size; simp only [World.heap_drewN, World.size_alloc] at hs1; have HBW := Lib.hid (below_step (HB0.out _ _) hbl); have HFT := Lib.hid (hft.mono (ok' := fun k => ok k ∨ w.heap.size ≤ k) (fun k hk => hk.elim .inl (fun h => .inr (by simp at h; omega)))); clear hft)
      | (go_at_call 67; refine (skew_calls (fun k => ok k ∨ w.heap.size ≤ k) l y lev (putT r x) _ _ (FT.alloc_node (B := w1.heap.size) ((HL.out.mono UP.out).below HBW.out) HFT.out hc2 (Kd.F_below (Kd.F_mono HF2.out UP.out) HBW.out) rfl (.inr (by omega)))).mono ?_; rintro e w2 ⟨v2, rfl, hft2, hb2⟩; obtain ⟨q2, rfl⟩ := hft2.ptr; have hs2 := hb2.size; simp only [World.size_alloc] at hs2; have HBW2 := Lib.hid (below_step (below_alloc HBW.out _) hb2); have HFT2 := Lib.hid (hft2.mono (ok' := fun k => ok k ∨ w.heap.size ≤ k) (fun k hk => hk.elim id (fun h => .inr (by simp at h; omega)))); clear hft2)
      | (go_at_call 66; refine (split_any (fun k => ok k ∨ w.heap.size ≤ k) _ (skewT_ne _ _ _ _) _ _ HFT2.out).mono ?_; rintro e w3 ⟨v3, rfl, hft3, hb3⟩; have hs3 := hb3.size; have HBW3 := Lib.hid (below_step HBW2.out hb3); have HFT3 := Lib.hid (hft3.mono (ok' := fun k => ok k ∨ w.heap.size ≤ k) (fun k hk => hk.elim id (fun h => .inr (by omega)))); clear hft3))
  go_wp2
  go_ret
  exact ⟨_, rfl, HFT3.out, HBW3.out⟩

theorem put_ok : ∀ T : BT, PutOk T
  | .nil => put_nil
  | .node l y lev r => fun ok x A c v w hc h hf => by
    by_cases he : x.f0.toList = y.f0.toList
    · have e : putT (.node l y lev r) x = .node l x lev r := by simp only [putT]; rw [if_pos he]
      rw [e]
      exact put_same l y lev r ok x A c v w hc h hf he
    · cases hb : Op.bytesLess x.f0.toList y.f0.toList with
      | true =>
        have e : putT (.node l y lev r) x = splitT (skewT (.node (putT l x) y lev r)) := by simp only [putT]; rw [if_neg he, if_pos hb]
        rw [e]
        exact put_less l y lev r (put_ok l) ok x A c v w hc h hf he hb
      | false =>
        have e : putT (.node l y lev r) x = splitT (skewT (.node l y lev (putT r x))) := by simp only [putT]; rw [if_neg he, if_neg (by rw [hb]; simp)]
        rw [e]
        exact put_more l y lev r (put_ok r) ok x A c v w hc h hf he hb
end Go.Proofs.Ytgoidimipchejaa.Tr
