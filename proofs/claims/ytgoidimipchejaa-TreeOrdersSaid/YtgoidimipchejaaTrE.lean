/- Layer 10: putting an item through a tree's handle; no condition beyond the bounds that each lemma names. -/
import Derived.Test.YtgoidimipchejaaTrD
import Derived.Test.YtgoidimipchejaaTrL
import Derived.Test.YtgoidimipchejaaPTx3
import Derived.Lib.SmallJoins
import Derived.Deep.RegionWith
namespace Go.Proofs.Ytgoidimipchejaa.Tr
open Go.RowKit Go.Proofs.Ytgoidimipchejaa.PT Go.Proofs.YtgoidimipchejaaW.PrintWords Go.Proofs.YtgoidimipchejaaW.PrintLast Go.Proofs.YtgoidimipchejaaW.PrintMore
set_option linter.unusedVariables false
set_option linter.unusedSimpArgs false
attribute [local go_sem ↓] Go.wp_at_zero Go.wp_at_succ

theorem weigh_calls (x : S38) (A : Option Addr) (c : Nat) (w : World) (hC : (Kd.int .u8).C w A x.f2.f1.length x.f2.f1) (hc : x.f2.f1.length ≤ c) (hk : x.f0.size ≤ 1000000) (hl : x.f2.f1.length ≤ 1000000) :
    Calls Try.prog 55 #[.agg (itemCells x A c)] w fun e w' => e = .returned (.int .i64 (wN x : Int)) ∧ Below w.heap.size w w' := by
  refine tree_weigh.calls x.f0 x.f1 x.f2.f0 A c x.f2.f1 x.f2.f2.f0 x.f2.f2.f1 x.f2.f2.f2 x.f2.f2.f3 (wN x : Int) w hC hc ?_
  unfold tree_weigh.f wN
  congr 1
  unfold wrap64
  omega
theorem check_calls (x : S38) (A : Option Addr) (c : Nat) (w : World) (r : Int) (hC : (Kd.int .u8).C w A x.f2.f1.length x.f2.f1) (hc : x.f2.f1.length ≤ c) (h : tree_Check.f x.f0 x.f1 x.f2.f0 x.f2.f1 x.f2.f2.f0 x.f2.f2.f1 x.f2.f2.f2 x.f2.f2.f3 = some r) :
    Calls Try.prog 39 #[.agg (itemCells x A c)] w fun e w' => e = .returned (.int .i64 r) ∧ Below w.heap.size w w' :=
  tree_Check.calls x.f0 x.f1 x.f2.f0 A c x.f2.f1 x.f2.f2.f0 x.f2.f2.f1 x.f2.f2.f2 x.f2.f2.f3 r w hC hc h

/-- Bytes lie in no block that is a tree's handle. -/
theorem F_apart {w : World} {H : Nat} {root : Value} {n wt : Int} {A : Option Addr} {xs : List Int} (h : w.heap[H]? = some (.cells (treeCells root n wt) 72 (0, 0))) (hroot : ∃ p, root = .pointer p) (hC : (Kd.int .u8).C w A xs.length xs) :
    Kd.F (Kd.int .u8) w (fun k => k ≠ H) A xs.length xs := by
  intro W' hW
  refine ⟨rfl, hC.2.1, fun hn => ?_⟩
  obtain ⟨ad, e, hc⟩ := hC.2.2 hn
  refine ⟨ad, e, fun j p hp => ?_⟩
  obtain ⟨cs, hs, hr, hcc⟩ := hc j p hp
  refine ⟨cs, hs, hr, fun i u hu => ?_⟩
  have hcell := hcc i u hu
  have hu8 : u = .int .u8 p := by
    have : cs = [.int .u8 p] := hr
    rw [this] at hu
    cases i with
    | zero => simpa using hu.symm
    | succ i => simp at hu
  have hb : ad.block ≠ H := by
    intro hb
    obtain ⟨q, rfl⟩ := hroot
    have hx := hcell
    rw [World.cell?, add_block, hb, h, hu8] at hx
    have hall : ∀ v ∈ (treeCells (.pointer q) n wt).toList, v ≠ .int .u8 p := by
      intro v hv
      simp [treeCells] at hv
      rcases hv with rfl | rfl | rfl | rfl <;> simp
    simp only [] at hx
    by_cases hsp : (ad.add (j * (Kd.int .u8).sz + i)).spot.isSome = true
    · rw [if_pos hsp] at hx
      simp at hx
    · rw [if_neg hsp] at hx
      exact hall _ (by rw [Array.mem_toList_iff]; exact Array.mem_of_getElem? hx) rfl
  have hlt := World.block_lt_of_cell? w _ hcell
  rw [add_block] at hlt
  rw [← hcell]
  simp [World.cell?, add_block, hW _ hb hlt]
theorem grown_below {w W W1 : World} {r : Option Nat} (hg : w.grownBy W r) (hb : Below W.heap.size W W1) : w.grownBy W1 r :=
  ⟨hb.os.trans hg.os, hb.tape.trans hg.tape, hb.output.trans hg.output, Nat.le_trans hg.size hb.size, fun k hk hr => (hb.block k (Nat.lt_of_lt_of_le hk hg.size)).trans (hg.block k hk hr)⟩
theorem grown_set {w W : World} {H : Nat} (hg : w.grownBy W (some H)) (o : Nat) (v : Value) : w.grownBy (W.setCell ⟨H, o, none⟩ v) (some H) :=
  ⟨hg.os, hg.tape, hg.output, by have := hg.size; simpa [World.setCell] using this, fun k hk hr => (Below.heap_setCell _ _ _ _ (fun e => hr (by rw [e]))).trans (hg.block k hk hr)⟩
theorem grown_of {w W : World} {r : Option Nat} (h : Below w.heap.size w W) : w.grownBy W r :=
  ⟨h.os, h.tape, h.output, h.size, fun k hk _ => h.block k hk⟩
theorem grown_alloc {w W : World} {r : Option Nat} (hg : w.grownBy W r) (o : Obj) : w.grownBy (W.alloc o) r := grown_below hg (below_alloc (Below.refl _ _) o)
theorem grown_trans {w W W1 : World} {r : Option Nat} (hg : w.grownBy W r) (hg2 : W.grownBy W1 r) : w.grownBy W1 r :=
  ⟨hg2.os.trans hg.os, hg2.tape.trans hg.tape, hg2.output.trans hg.output, Nat.le_trans hg.size hg2.size, fun k hk hr => (hg2.block k (Nat.lt_of_lt_of_le hk hg.size) hr).trans (hg.block k hk hr)⟩

/-- One cell of the handle is written behind what grew: the handle, the box and the nodes. -/
theorem mid_set {w W w5 : World} {ok : Nat → Prop} {H : Nat} {T : BT} {root : Value} {n wt v : Int} {obj : Obj} (hok : ∀ k, ok k → k ≠ H) (hXH : w.heap.size ≠ H) (hg : w.grownBy W (some H)) (hH : W.heap[H]? = some (.cells (treeCells root n wt) 72 (0, 0)))
    (hX : W.heap[w.heap.size]? = some obj) (hR : FT W ok T root) (hb : Below W.heap.size W w5) :
    w.grownBy (w5.setCell ⟨H, 2, none⟩ (.int .i64 v)) (some H) ∧ (w5.setCell ⟨H, 2, none⟩ (.int .i64 v)).heap[H]? = some (.cells (treeCells root n v) 72 (0, 0)) ∧ (w5.setCell ⟨H, 2, none⟩ (.int .i64 v)).heap[w.heap.size]? = some obj ∧ FT (w5.setCell ⟨H, 2, none⟩ (.int .i64 v)) ok T root := by
  refine ⟨grown_set (grown_below hg hb) _ _, Go.Joins.block_setCell ((hb.block _ (lt_of_block hH)).trans hH) (i := 2) _, (Below.heap_setCell _ _ _ _ hXH).trans ((hb.block _ (lt_of_block hX)).trans hX), ?_⟩
  exact (hR.below hb).step fun k hk hlt => Below.heap_setCell _ _ _ _ (hok k hk)
theorem end_set {w W w5 : World} {ok : Nat → Prop} {H : Nat} {T : BT} {root v : Value} {n wt : Int} (hok : ∀ k, ok k → k ≠ H) (hg : w.grownBy W (some H)) (hH : W.heap[H]? = some (.cells (treeCells root n wt) 72 (0, 0)))
    (hb : Below W.heap.size W w5) (hR : FT w5 ok T v) : HasTree (w5.setCell ⟨H, 0, none⟩ v) ok H T n wt ∧ w.grownBy (w5.setCell ⟨H, 0, none⟩ v) (some H) := by
  refine ⟨⟨v, Go.Joins.block_setCell ((hb.block _ (lt_of_block hH)).trans hH) (i := 0) _, ?_⟩, grown_set (grown_below hg hb) _ _⟩
  exact hR.step fun k hk hlt => Below.heap_setCell _ _ _ _ (hok k hk)

set_option maxHeartbeats 8000000 in
set_option maxRecDepth 100000 in
theorem put_refused (ok : Nat → Prop) (H : Nat) (T : BT) (n wt : Int) (x : S38) (A : Option Addr) (c : Nat) (w : World) (r : Int) (hr : ¬ r = 0) (h : HasTree w ok H T n wt) (hC : (Kd.int .u8).C w A x.f2.f1.length x.f2.f1) (hc : x.f2.f1.length ≤ c)
    (hk : tree_Check.f x.f0 x.f1 x.f2.f0 x.f2.f1 x.f2.f2.f0 x.f2.f2.f1 x.f2.f2.f2 x.f2.f2.f3 = some r) :
    Calls Try.prog 29 #[.pointer (some ⟨H, 0, none⟩), .agg (itemCells x A c)] w fun e w' => e = .returned (.int .i64 1) ∧ Below w.heap.size w w' := by
  have hne : (r != 0) = true := bne_iff_ne.2 hr
  have HC := Lib.hid hC
  have HK := Lib.hid hk
  have HT := Lib.hid h
  clear hC hk hr h
  unfold itemCells
  go_enter Try.func29, Try.ntmps29
  go_wp2_with fail
  refine (is_calls _ ok H T n wt (HT.out.below (below_alloc (Below.refl _ _) _))).mono ?_
  rintro e w1 ⟨rfl, rfl⟩
  go_wp2_with fail
  refine (check_calls x A c _ r (Kd.C_alloc HC.out _) hc HK.out).mono ?_
  rintro e w2 ⟨rfl, hb⟩
  go_wp2
  go_ret
  exact ⟨rfl, below_step (below_alloc (Below.refl _ _) _) hb⟩
set_option maxHeartbeats 16000000 in
set_option maxRecDepth 100000 in
theorem put_new (ok : Nat → Prop) (H : Nat) (T : BT) (n wt : Int) (x : S38) (A : Option Addr) (c : Nat) (w : World) (hok : ∀ k, ok k → k ≠ H) (h : HasTree w ok H T n wt) (hC : (Kd.int .u8).C w A x.f2.f1.length x.f2.f1) (hc : x.f2.f1.length ≤ c)
    (hk : tree_Check.f x.f0 x.f1 x.f2.f0 x.f2.f1 x.f2.f2.f0 x.f2.f2.f1 x.f2.f2.f2 x.f2.f2.f3 = some 0) (hf : findT T x.f0 = none) (hn0 : 0 ≤ n) (hn1 : n ≤ 1000000) (hw0 : 0 ≤ wt) (hw1 : wt ≤ 1000000000) (hkey : x.f0.size ≤ 1000000) (hl : x.f2.f1.length ≤ 1000000) :
    Calls Try.prog 29 #[.pointer (some ⟨H, 0, none⟩), .agg (itemCells x A c)] w fun e w' => e = .returned (.int .i64 0) ∧ HasTree w' (fun k => ok k ∨ w.heap.size ≤ k) H (putT T x) (n + 1) (wt + wN x) ∧ w.grownBy w' (some H) := by
  have HC := Lib.hid hC
  have HK := Lib.hid hk
  have HT := Lib.hid h
  have HF := Lib.hid hf
  clear hC hk h hf
  unfold itemCells
  go_enter Try.func29, Try.ntmps29
  go_wp2_with fail
  refine (is_calls _ ok H T n wt (HT.out.below (below_alloc (Below.refl _ _) _))).mono ?_
  rintro e w1 ⟨rfl, rfl⟩
  go_wp2_with fail
  refine (check_calls x A c _ 0 (Kd.C_alloc HC.out _) hc HK.out).mono ?_
  rintro e w2 ⟨rfl, hb⟩
  have hb2 := below_step (below_alloc (Below.refl w.heap.size w) _) hb
  obtain ⟨c0, c1, c2, c3, c4, c5, c6, c7⟩ := cells8 (one_new w _ hb)
  have HB2 := Lib.hid hb2
  have hs2 := hb.size
  simp only [World.size_alloc] at hs2
  clear hb2
  go_wp2_with fail
  refine (find_calls _ ok H T n wt x.f0 (HT.out.below HB2.out)).mono ?_
  rintro e w3 ⟨hfe, hb3⟩
  rw [HF.out] at hfe
  obtain rfl := hfe
  unfold zeroItem
  obtain ⟨_, hH0, hR0⟩ := HT.out.ex
  have hltw := lt_of_block hH0
  have hsz3 := hb3.size
  have HB3 := Lib.hid (below_step HB2.out hb3)
  obtain ⟨root, hH, hR⟩ := (HT.out.below HB3.out).ex
  obtain ⟨p, rfl⟩ := hR.ptr
  have HR := Lib.hid hR
  have HH := Lib.hid hH
  unfold treeCells at hH
  obtain ⟨t0, t1, t2, t3⟩ := cells4 hH
  have hfH := frees hH
  have hbx := (hb3.block w.heap.size (by omega)).trans (one_new w _ hb)
  have HX := Lib.hid hbx
  obtain ⟨c0, c1, c2, c3, c4, c5, c6, c7⟩ := cells8 hbx
  have hfb := frees hbx
  have HF3 := Lib.hid (Kd.C_below HC.out HB3.out)
  have hH3 : H < w3.heap.size := by omega
  have hX3 : w.heap.size < w3.heap.size := by omega
  have HA := Lib.hid (F_apart (w := w) hH0 hR0.ptr HC.out)
  clear hH0 hR0 hR hH hbx hb hb3
  go_wp2
  have hg4 : w.grownBy _ (some H) := grown_alloc (grown_set (grown_of HB3.out) 1 (.int .i64 (n + 1))) (.cells #[.string ⟨#[]⟩, .bool false, .bool false, .slice none 0 0, .int .i64 0, .int .i64 0, .int .i64 0, .int .u32 0] 38)
  have hH4 : ((w3.setCell ⟨H, 1, none⟩ (.int .i64 (n + 1))).alloc (.cells #[.string ⟨#[]⟩, .bool false, .bool false, .slice none 0 0, .int .i64 0, .int .i64 0, .int .i64 0, .int .u32 0] 38)).heap[H]? = some (.cells (treeCells (.pointer p) (n + 1) wt) 72 (0, 0)) :=
    ((below_alloc (Below.refl _ _) _).block H (by simpa [World.setCell] using hH3)).trans (Go.Joins.block_setCell HH.out (i := 1) _)
  have hX4 : ((w3.setCell ⟨H, 1, none⟩ (.int .i64 (n + 1))).alloc (.cells #[.string ⟨#[]⟩, .bool false, .bool false, .slice none 0 0, .int .i64 0, .int .i64 0, .int .i64 0, .int .u32 0] 38)).heap[w.heap.size]? = _ :=
    ((below_alloc (Below.refl _ _) _).block w.heap.size (by simpa [World.setCell] using hX3)).trans ((Below.heap_setCell _ _ _ _ (show w.heap.size ≠ H by omega)).trans HX.out)
  have hR4 : FT ((w3.setCell ⟨H, 1, none⟩ (.int .i64 (n + 1))).alloc (.cells #[.string ⟨#[]⟩, .bool false, .bool false, .slice none 0 0, .int .i64 0, .int .i64 0, .int .i64 0, .int .u32 0] 38)) ok T (.pointer p) :=
    HR.out.step fun k hk hlt => ((below_alloc (Below.refl _ _) _).block k (by simpa [World.setCell] using hlt)).trans (Below.heap_setCell _ _ _ _ (hok k hk))
  generalize ((w3.setCell ⟨H, 1, none⟩ (.int .i64 (n + 1))).alloc (.cells #[.string ⟨#[]⟩, .bool false, .bool false, .slice none 0 0, .int .i64 0, .int .i64 0, .int .i64 0, .int .u32 0] 38)) = W4 at *
  have hs4 := hg4.size
  have HG4 := Lib.hid hg4
  have HH4 := Lib.hid hH4
  have HX4 := Lib.hid hX4
  have HR4 := Lib.hid hR4
  have hlt4 := lt_of_block hX4
  unfold treeCells at hH4
  obtain ⟨t0, t1, t2, t3⟩ := cells4 hH4
  have hfH := frees hH4
  obtain ⟨c0, c1, c2, c3, c4, c5, c6, c7⟩ := cells8 hX4
  have hfb := frees hX4
  have hH3 : H < W4.heap.size := by omega
  have HA4 : Hid (∀ W', W'.heap = W4.heap → (Kd.int .u8).C W' A x.f2.f1.length x.f2.f1) := Lib.hid fun W' he => HA.out W' fun k hk hlt => by rw [he]; exact hg4.block k hlt (fun e => hk (by injection e))
  clear hg4 hH4 hX4 hR4 HF3
  have hwx0 : (0 : Int) ≤ (wN x : Int) := by omega
  have hwx1 : (wN x : Int) ≤ 3000000 := by unfold wN; omega
  have hwrap : IntKind.i64.wrap (wt + (wN x : Int)) = wt + (wN x : Int) := by simp [IntKind.wrap, IntKind.bits, IntKind.signed]; omega
  go_region_with (first
    | (go_at_call 55; refine (weigh_calls x A c _ (HA4.out _ (by rfl)) hc hkey hl).mono ?_; rintro e w5 ⟨rfl, hb5⟩; have hs5 : W4.heap.size ≤ w5.heap.size := hb5.size; have hfH5 : ∀ o, w5.frozen? ⟨H, o, none⟩ = false := fun o => (hb5.frozen (p := ⟨H, o, none⟩) hH3).trans (hfH o); have t25 : w5.cell? ⟨H, 2, none⟩ = some (.int .i64 wt) := (hb5.cell (p := ⟨H, 2, none⟩) hH3).trans t2; have HB5 := Lib.hid hb5; clear hb5))
  all_goals (
    go_wp2
    obtain ⟨hg6, hH6, hX6, hR6⟩ := mid_set (v := wt + (wN x : Int)) hok (show w.heap.size ≠ H by omega) HG4.out HH4.out HX4.out HR4.out (below_step (Go.Joins.below_draws _ _ 1) HB5.out)
    generalize w5.setCell ⟨H, 2, none⟩ (.int .i64 (wt + (wN x : Int))) = W6 at *
    have hs6 := hg6.size
    have HG6 := Lib.hid hg6
    have HH6 := Lib.hid hH6
    have HR6 := Lib.hid hR6
    have hlt6 := lt_of_block hX6
    unfold treeCells at hH6
    obtain ⟨t0, t1, t2, t3⟩ := cells4 hH6
    have hfH := frees hH6
    obtain ⟨c0, c1, c2, c3, c4, c5, c6, c7⟩ := cells8 hX6
    have hfb := frees hX6
    have hH36 : H < W6.heap.size := by omega
    have HA6 : Hid (∀ W', W'.heap = W6.heap → (Kd.int .u8).C W' A x.f2.f1.length x.f2.f1) := Lib.hid fun W' he => HA.out W' fun k hk hlt => by rw [he]; exact hg6.block k hlt (fun e => hk (by injection e))
    clear hg6 hH6 hX6 hR6
    go_region_with (first
      | (go_at_call 57; refine (own_calls x A c _ (HA6.out _ (by rfl)) (by omega)).mono ?_; rintro e w7 ⟨A', c', rfl, hc7, hF7, hb7⟩; have hs7 : W6.heap.size ≤ w7.heap.size := hb7.size; have t07 : w7.cell? ⟨H, 0, none⟩ = some (.pointer p) := (hb7.cell (p := ⟨H, 0, none⟩) hH36).trans t0; have hfH7 : ∀ o, w7.frozen? ⟨H, o, none⟩ = false := fun o => (hb7.frozen (p := ⟨H, o, none⟩) hH36).trans (hfH o); have HB7 : Hid (Below W6.heap.size W6 w7) := Lib.hid (below_step (Go.Joins.below_draws _ _ 1) hb7); have HF7 : Hid (Kd.F (Kd.int .u8) w7 (fun k => W6.heap.size ≤ k) A' x.f2.f1.length x.f2.f1) := Lib.hid hF7; clear hF7 hb7)
      | (go_at_call 56; refine (put_ok T (fun k => ok k ∨ w.heap.size ≤ k) x _ _ _ _ hc7 ((HR6.out.mono fun k hk => .inl hk).below HB7.out) (Kd.F_mono HF7.out fun k hk => .inr (by omega))).mono ?_; rintro e w8 ⟨v8, rfl, hR8, hb8⟩; obtain ⟨q8, rfl⟩ := hR8.ptr; have hfH8 : ∀ o, w8.frozen? ⟨H, o, none⟩ = false := fun o => (hb8.frozen (p := ⟨H, o, none⟩) (by simp <;> omega)).trans (hfH7 o); have t08 : w8.cell? ⟨H, 0, none⟩ = some (.pointer p) := (hb8.cell (p := ⟨H, 0, none⟩) (by simp <;> omega)).trans t07; have HB8 : Hid (Below W6.heap.size W6 w8) := Lib.hid (below_step HB7.out hb8); have HR8 := Lib.hid (hR8.mono (ok' := fun k => ok k ∨ w.heap.size ≤ k) (fun k hk => hk.elim id (fun h => .inr (by omega)))); clear hR8 hb8))
    all_goals (
      go_wp2
      go_ret
      exact ⟨rfl, end_set (fun k hk => hk.elim (hok k) (fun h => by omega)) HG6.out HH6.out HB8.out HR8.out⟩))
set_option maxHeartbeats 16000000 in
set_option maxRecDepth 100000 in
theorem put_old (ok : Nat → Prop) (H : Nat) (T : BT) (n wt : Int) (x : S38) (A : Option Addr) (c : Nat) (w : World) (hok : ∀ k, ok k → k ≠ H) (h : HasTree w ok H T n wt) (hC : (Kd.int .u8).C w A x.f2.f1.length x.f2.f1) (hc : x.f2.f1.length ≤ c)
    (hk : tree_Check.f x.f0 x.f1 x.f2.f0 x.f2.f1 x.f2.f2.f0 x.f2.f2.f1 x.f2.f2.f2 x.f2.f2.f3 = some 0) (old : S38) (hf : findT T x.f0 = some old) (hlo : old.f2.f1.length ≤ 1000000) (hko : old.f0.size ≤ 1000000) (hwo : (wN old : Int) ≤ wt) (hn0 : 0 ≤ n) (hn1 : n ≤ 1000000) (hw0 : 0 ≤ wt) (hw1 : wt ≤ 1000000000) (hkey : x.f0.size ≤ 1000000) (hl : x.f2.f1.length ≤ 1000000) :
    Calls Try.prog 29 #[.pointer (some ⟨H, 0, none⟩), .agg (itemCells x A c)] w fun e w' => e = .returned (.int .i64 0) ∧ HasTree w' (fun k => ok k ∨ w.heap.size ≤ k) H (putT T x) n (wt - wN old + wN x) ∧ w.grownBy w' (some H) := by
  have HC := Lib.hid hC
  have HK := Lib.hid hk
  have HT := Lib.hid h
  have HF := Lib.hid hf
  clear hC hk h hf
  unfold itemCells
  go_enter Try.func29, Try.ntmps29
  go_wp2_with fail
  refine (is_calls _ ok H T n wt (HT.out.below (below_alloc (Below.refl _ _) _))).mono ?_
  rintro e w1 ⟨rfl, rfl⟩
  go_wp2_with fail
  refine (check_calls x A c _ 0 (Kd.C_alloc HC.out _) hc HK.out).mono ?_
  rintro e w2 ⟨rfl, hb⟩
  have hb2 := below_step (below_alloc (Below.refl w.heap.size w) _) hb
  obtain ⟨c0, c1, c2, c3, c4, c5, c6, c7⟩ := cells8 (one_new w _ hb)
  have HB2 := Lib.hid hb2
  have hs2 := hb.size
  simp only [World.size_alloc] at hs2
  clear hb2
  go_wp2_with fail
  refine (find_calls _ ok H T n wt x.f0 (HT.out.below HB2.out)).mono ?_
  rintro e w3 ⟨hfe, hb3⟩
  rw [HF.out] at hfe
  obtain ⟨A2, co, rfl, hc2, hF2⟩ := hfe
  unfold itemCells
  obtain ⟨_, hH0, hR0⟩ := HT.out.ex
  have hltw := lt_of_block hH0
  have hsz3 := hb3.size
  have HB3 := Lib.hid (below_step HB2.out hb3)
  obtain ⟨root, hH, hR⟩ := (HT.out.below HB3.out).ex
  obtain ⟨p, rfl⟩ := hR.ptr
  have HR := Lib.hid hR
  have HH := Lib.hid hH
  unfold treeCells at hH
  obtain ⟨t0, t1, t2, t3⟩ := cells4 hH
  have hfH := frees hH
  have hbx := (hb3.block w.heap.size (by omega)).trans (one_new w _ hb)
  have HX := Lib.hid hbx
  obtain ⟨c0, c1, c2, c3, c4, c5, c6, c7⟩ := cells8 hbx
  have hfb := frees hbx
  have HO3 := Lib.hid hF2
  have hH3 : H < w3.heap.size := by omega
  have hX3 : w.heap.size < w3.heap.size := by omega
  have HA := Lib.hid (F_apart (w := w) hH0 hR0.ptr HC.out)
  clear hH0 hR0 hR hH hbx hb hb3 hF2
  go_wp2
  have hg9 : w.grownBy (w3.alloc (.cells #[.string old.f0, .bool old.f1, .bool old.f2.f0, .slice A2 old.f2.f1.length co, .int .i64 old.f2.f2.f0, .int .i64 old.f2.f2.f1, .int .i64 old.f2.f2.f2, .int .u32 old.f2.f2.f3] 38)) (some H) := grown_alloc (grown_of HB3.out) _
  have hb9 := below_alloc (Below.refl w3.heap.size w3) (.cells #[.string old.f0, .bool old.f1, .bool old.f2.f0, .slice A2 old.f2.f1.length co, .int .i64 old.f2.f2.f0, .int .i64 old.f2.f2.f1, .int .i64 old.f2.f2.f2, .int .u32 old.f2.f2.f3] 38)
  have hO9 := heap_alloc_new w3 (.cells #[.string old.f0, .bool old.f1, .bool old.f2.f0, .slice A2 old.f2.f1.length co, .int .i64 old.f2.f2.f0, .int .i64 old.f2.f2.f1, .int .i64 old.f2.f2.f2, .int .u32 old.f2.f2.f3] 38)
  generalize (w3.alloc (.cells #[.string old.f0, .bool old.f1, .bool old.f2.f0, .slice A2 old.f2.f1.length co, .int .i64 old.f2.f2.f0, .int .i64 old.f2.f2.f1, .int .i64 old.f2.f2.f2, .int .u32 old.f2.f2.f3] 38)) = W9 at *
  have hH9 := (hb9.block H hH3).trans HH.out
  have hX9 := (hb9.block w.heap.size hX3).trans HX.out
  have HG9 := Lib.hid hg9
  have HH9 := Lib.hid hH9
  have HX9 := Lib.hid hX9
  have HR9 := Lib.hid (HR.out.below hb9)
  have HO9 : Hid (∀ W', W'.heap = W9.heap → (Kd.int .u8).C W' A2 old.f2.f1.length old.f2.f1) := Lib.hid fun W' he => HO3.out W' fun k hk hlt => by rw [he]; exact hb9.block k hlt
  have hs9 := hg9.size
  have hs39 := hb9.size
  have hH39 : H < W9.heap.size := by omega
  unfold treeCells at hH9
  obtain ⟨t0, t1, t2, t3⟩ := cells4 hH9
  have hfH := frees hH9
  obtain ⟨d0, d1, d2, d3, d4, d5, d6, d7⟩ := cells8 hO9
  clear hg9 hb9 hO9 hH9 hX9 hs39
  have hwo0 : (0 : Int) ≤ (wN old : Int) := by omega
  have hwrap0 : IntKind.i64.wrap (wt - (wN old : Int)) = wt - (wN old : Int) := by simp [IntKind.wrap, IntKind.bits, IntKind.signed]; omega
  go_region_with (first
    | (go_at_call 55; refine (weigh_calls old A2 co _ (HO9.out _ (by rfl)) hc2 hko hlo).mono ?_; rintro e w4 ⟨rfl, hb4⟩; have hs4 : W9.heap.size ≤ w4.heap.size := hb4.size; have hfH4 : ∀ o, w4.frozen? ⟨H, o, none⟩ = false := fun o => (hb4.frozen (p := ⟨H, o, none⟩) hH39).trans (hfH o); have t24 : w4.cell? ⟨H, 2, none⟩ = some (.int .i64 wt) := (hb4.cell (p := ⟨H, 2, none⟩) hH39).trans t2; have HB4 := Lib.hid hb4; clear hb4))
  all_goals (
    go_wp2
    obtain ⟨hg4, hH4, hX4, hR4⟩ := mid_set (v := wt - (wN old : Int)) hok (show w.heap.size ≠ H by omega) HG9.out HH9.out HX9.out HR9.out (below_step (Go.Joins.below_draws _ _ 1) HB4.out)
    generalize w4.setCell ⟨H, 2, none⟩ (.int .i64 (wt - (wN old : Int))) = W4 at *
    have hw0 : 0 ≤ wt - (wN old : Int) := by omega
    have hw1 : wt - (wN old : Int) ≤ 1000000000 := by omega
    generalize hwt2 : wt - (wN old : Int) = wt2 at *
    have hs4 := hg4.size
    have HG4 := Lib.hid hg4
    have HH4 := Lib.hid hH4
    have HX4 := Lib.hid hX4
    have HR4 := Lib.hid hR4
    have hlt4 := lt_of_block hX4
    unfold treeCells at hH4
    obtain ⟨t0, t1, t2, t3⟩ := cells4 hH4
    have hfH := frees hH4
    obtain ⟨c0, c1, c2, c3, c4, c5, c6, c7⟩ := cells8 hX4
    have hfb := frees hX4
    have hH3 : H < W4.heap.size := by omega
    have HA4 : Hid (∀ W', W'.heap = W4.heap → (Kd.int .u8).C W' A x.f2.f1.length x.f2.f1) := Lib.hid fun W' he => HA.out W' fun k hk hlt => by rw [he]; exact hg4.block k hlt (fun e => hk (by injection e))
    clear hg4 hH4 hX4 hR4
    have hwx0 : (0 : Int) ≤ (wN x : Int) := by omega
    have hwx1 : (wN x : Int) ≤ 3000000 := by unfold wN; omega
    have hwrap : IntKind.i64.wrap (wt2 + (wN x : Int)) = wt2 + (wN x : Int) := by simp [IntKind.wrap, IntKind.bits, IntKind.signed]; omega
    go_region_with (first
      | (go_at_call 55; refine (weigh_calls x A c _ (HA4.out _ (by rfl)) hc hkey hl).mono ?_; rintro e w5 ⟨rfl, hb5⟩; have hs5 : W4.heap.size ≤ w5.heap.size := hb5.size; have hfH5 : ∀ o, w5.frozen? ⟨H, o, none⟩ = false := fun o => (hb5.frozen (p := ⟨H, o, none⟩) hH3).trans (hfH o); have t25 : w5.cell? ⟨H, 2, none⟩ = some (.int .i64 wt2) := (hb5.cell (p := ⟨H, 2, none⟩) hH3).trans t2; have HB5 := Lib.hid hb5; clear hb5))
    all_goals (
      go_wp2
      obtain ⟨hg6, hH6, hX6, hR6⟩ := mid_set (v := wt2 + (wN x : Int)) hok (show w.heap.size ≠ H by omega) HG4.out HH4.out HX4.out HR4.out (below_step (Go.Joins.below_draws _ _ 1) HB5.out)
      generalize w5.setCell ⟨H, 2, none⟩ (.int .i64 (wt2 + (wN x : Int))) = W6 at *
      have hs6 := hg6.size
      have HG6 := Lib.hid hg6
      have HH6 := Lib.hid hH6
      have HR6 := Lib.hid hR6
      have hlt6 := lt_of_block hX6
      unfold treeCells at hH6
      obtain ⟨t0, t1, t2, t3⟩ := cells4 hH6
      have hfH := frees hH6
      obtain ⟨c0, c1, c2, c3, c4, c5, c6, c7⟩ := cells8 hX6
      have hfb := frees hX6
      have hH36 : H < W6.heap.size := by omega
      have HA6 : Hid (∀ W', W'.heap = W6.heap → (Kd.int .u8).C W' A x.f2.f1.length x.f2.f1) := Lib.hid fun W' he => HA.out W' fun k hk hlt => by rw [he]; exact hg6.block k hlt (fun e => hk (by injection e))
      clear hg6 hH6 hX6 hR6
      go_region_with (first
        | (go_at_call 57; refine (own_calls x A c _ (HA6.out _ (by rfl)) (by omega)).mono ?_; rintro e w7 ⟨A', c', rfl, hc7, hF7, hb7⟩; have hs7 : W6.heap.size ≤ w7.heap.size := hb7.size; have t07 : w7.cell? ⟨H, 0, none⟩ = some (.pointer p) := (hb7.cell (p := ⟨H, 0, none⟩) hH36).trans t0; have hfH7 : ∀ o, w7.frozen? ⟨H, o, none⟩ = false := fun o => (hb7.frozen (p := ⟨H, o, none⟩) hH36).trans (hfH o); have HB7 : Hid (Below W6.heap.size W6 w7) := Lib.hid (below_step (Go.Joins.below_draws _ _ 1) hb7); have HF7 : Hid (Kd.F (Kd.int .u8) w7 (fun k => W6.heap.size ≤ k) A' x.f2.f1.length x.f2.f1) := Lib.hid hF7; clear hF7 hb7)
        | (go_at_call 56; refine (put_ok T (fun k => ok k ∨ w.heap.size ≤ k) x _ _ _ _ hc7 ((HR6.out.mono fun k hk => .inl hk).below HB7.out) (Kd.F_mono HF7.out fun k hk => .inr (by omega))).mono ?_; rintro e w8 ⟨v8, rfl, hR8, hb8⟩; obtain ⟨q8, rfl⟩ := hR8.ptr; have hfH8 : ∀ o, w8.frozen? ⟨H, o, none⟩ = false := fun o => (hb8.frozen (p := ⟨H, o, none⟩) (by simp <;> omega)).trans (hfH7 o); have t08 : w8.cell? ⟨H, 0, none⟩ = some (.pointer p) := (hb8.cell (p := ⟨H, 0, none⟩) (by simp <;> omega)).trans t07; have HB8 : Hid (Below W6.heap.size W6 w8) := Lib.hid (below_step HB7.out hb8); have HR8 := Lib.hid (hR8.mono (ok' := fun k => ok k ∨ w.heap.size ≤ k) (fun k hk => hk.elim id (fun h => .inr (by omega)))); clear hR8 hb8))
      all_goals (
        go_wp2
        go_ret
        rw [hwt2]
        exact ⟨rfl, end_set (fun k hk => hk.elim (hok k) (fun h => by omega)) HG6.out HH6.out HB8.out HR8.out⟩)))
end Go.Proofs.Ytgoidimipchejaa.Tr
