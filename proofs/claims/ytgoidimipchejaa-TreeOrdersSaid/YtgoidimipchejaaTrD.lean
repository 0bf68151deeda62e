/- Layer 10: a tree's handle: a new one, and the item of a key; no condition beyond the bounds that each lemma names. -/
import Derived.Test.YtgoidimipchejaaTrC
import Derived.Deep.LoopGhost
namespace Go.Proofs.Ytgoidimipchejaa.Tr
open Go.RowKit Go.Proofs.Ytgoidimipchejaa.PT Go.Proofs.YtgoidimipchejaaW.PrintWords Go.Proofs.YtgoidimipchejaaW.PrintLast Go.Proofs.YtgoidimipchejaaW.PrintMore
set_option linter.unusedVariables false
set_option linter.unusedSimpArgs false
attribute [local go_sem ↓] Go.wp_at_zero Go.wp_at_succ

def treeCells (root : Value) (n wt : Int) (m : Bool := true) : Array Value := #[root, .int .i64 n, .int .i64 wt, .bool m]
/-- The tree behind a handle (m: New gave it): what it counts, and its nodes, none of which lies in a block that ok shuts out. -/
structure HasTree (W : World) (ok : Nat → Prop) (H : Nat) (T : BT) (n wt : Int) (m : Bool := true) : Prop where
  ex : ∃ root, W.heap[H]? = some (.cells (treeCells root n wt m) 72 (0, 0)) ∧ FT W ok T root
theorem HasTree.step {W W1 : World} {ok : Nat → Prop} {H : Nat} {T : BT} {n wt : Int} {m : Bool} (h : HasTree W ok H T n wt m) (hH : W1.heap[H]? = W.heap[H]?) (hm : ∀ k, ok k → k < W.heap.size → W1.heap[k]? = W.heap[k]?) : HasTree W1 ok H T n wt m := by
  obtain ⟨root, h1, h2⟩ := h.ex
  exact ⟨root, hH.trans h1, h2.step hm⟩
theorem HasTree.below {W W1 : World} {ok : Nat → Prop} {H : Nat} {T : BT} {n wt : Int} {m : Bool} (h : HasTree W ok H T n wt m) (hb : Below W.heap.size W W1) : HasTree W1 ok H T n wt m := by
  obtain ⟨root, h1, h2⟩ := h.ex
  exact h.step (hb.block _ (lt_of_block h1)) fun k _ hlt => hb.block k hlt
theorem HasTree.mono {W : World} {ok ok' : Nat → Prop} {H : Nat} {T : BT} {n wt : Int} {m : Bool} (h : HasTree W ok H T n wt m) (hok : ∀ k, ok k → ok' k) : HasTree W ok' H T n wt m := by
  obtain ⟨root, h1, h2⟩ := h.ex
  exact ⟨root, h1, h2.mono hok⟩
theorem cells4 {w : World} {b : Nat} {v0 v1 v2 v3 : Value} {t : TypeId} {fr : Nat × Nat} (h : w.heap[b]? = some (.cells #[v0, v1, v2, v3] t fr)) :
    w.cell? ⟨b, 0, none⟩ = some v0 ∧ w.cell? ⟨b, 1, none⟩ = some v1 ∧ w.cell? ⟨b, 2, none⟩ = some v2 ∧ w.cell? ⟨b, 3, none⟩ = some v3 := by
  simp [World.cell?, h]

/-- The item of a key. -/
def findT : BT → ByteArray → Option S38
  | .nil, _ => none
  | .node l x _ r, key => if key.toList = x.f0.toList then some x else if Op.bytesLess key.toList x.f0.toList = true then findT l key else findT r key
def sizeT : BT → Nat
  | .nil => 0
  | .node l _ _ r => sizeT l + sizeT r + 1
def zeroItem : Array Value := #[.string ⟨#[]⟩, .bool false, .bool false, .slice none 0 0, .int .i64 0, .int .i64 0, .int .i64 0, .int .u32 0]
/-- What find tells back, in its own words. -/
def Found (w' : World) (ok : Nat → Prop) (e : Ending) : Option S38 → Prop
  | none => e = .returned (.tuple #[.agg zeroItem, .bool false])
  | some x => ∃ A c, e = .returned (.tuple #[.agg (itemCells x A c), .bool true]) ∧ x.f2.f1.length ≤ c ∧ Kd.F (Kd.int .u8) w' ok A x.f2.f1.length x.f2.f1

set_option maxHeartbeats 4000000 in
set_option maxRecDepth 100000 in
theorem new_calls (w : World) : Calls Try.prog 28 #[] w fun e w' => e = .returned (.pointer (some ⟨w.heap.size, 0, none⟩)) ∧ w' = w.alloc (.cells (treeCells (.pointer none) 0 0) 72) := by
  unfold treeCells
  go_enter Try.func28, Try.ntmps28
  go_wp2
  go_ret
  exact ⟨rfl, rfl⟩
set_option maxHeartbeats 4000000 in
set_option maxRecDepth 100000 in
theorem is_calls (w : World) (ok : Nat → Prop) (H : Nat) (T : BT) (n wt : Int) {m : Bool} (h : HasTree w ok H T n wt m) : Calls Try.prog 53 #[.pointer (some ⟨H, 0, none⟩)] w fun e w' => e = .returned (.bool m) ∧ w' = w := by
  obtain ⟨root, h1, h2⟩ := h.ex
  obtain ⟨a0, a1, a2, a3⟩ := cells4 h1
  clear h1 h2 h
  go_enter Try.func53, Try.ntmps53
  go_wp2
  go_ret
  exact ⟨rfl, rfl⟩
set_option maxHeartbeats 8000000 in
set_option maxRecDepth 100000 in
theorem find_calls (w : World) (ok : Nat → Prop) (H : Nat) (T : BT) (n wt : Int) (key : ByteArray) {m : Bool} (h : HasTree w ok H T n wt m) :
    Calls Try.prog 54 #[.pointer (some ⟨H, 0, none⟩), .string key] w fun e w' => Found w' ok e (findT T key) ∧ Below w.heap.size w w' := by
  obtain ⟨root, h1, h2⟩ := h.ex
  obtain ⟨a0, a1, a2, a3⟩ := cells4 h1
  have hltH := lt_of_block h1
  obtain ⟨p0, rfl⟩ := h2.ptr
  have HT := Lib.hid h2
  clear h1 h2 h
  go_enter Try.func54, Try.ntmps54
  go_wp2
  go_loopg [6] (sizeT T) (fun kq v wr => ∃ T' p, v = .pointer p ∧ Aside0 (FT w ok T' (.pointer p)) ∧ Aside0 (findT T' key = findT T key) ∧ Aside0 (sizeT T' ≤ kq) ∧ w.alloc (.cells zeroItem 38) = wr)
  case atStart => exact ⟨T, p0, rfl, ⟨HT.out⟩, ⟨rfl⟩, ⟨Nat.le_refl _⟩, rfl⟩
  case round =>
    obtain ⟨T', p, rfl, hT, hF, hS, rfl⟩ := hrel
    have hnew := heap_alloc_new w (.cells zeroItem 38)
    obtain ⟨d0, d1, d2, d3, d4, d5, d6, d7⟩ := cells8 hnew
    have hfr := frees hnew
    clear hnew
    cases T' with
    | nil =>
      obtain rfl : p = none := by have := hT.out; injection this
      have HR := Lib.hid (show findT T key = none from hF.out.symm)
      clear hT hF hS
      unfold zeroItem at d0 d1 d2 d3 d4 d5 d6 d7 hfr ⊢
      go_wp2
      refine bodyPost_ret (v := .tuple #[.agg zeroItem, .bool false]) (by simp [results, zeroItem, Try.results54, go_sem, d0, d1, d2, d3, d4, d5, d6, d7]) rfl ⟨by rw [HR.out]; rfl, ?_⟩
      repeat (refine Below.setCell ?_ (by simp) _)
      exact below_alloc (Below.refl _ _) _
    | node l x lev r =>
      obtain ⟨b, vl, vr, A, c, hp, hb, hh, hc, hf, hl, hr⟩ := hT.out
      injection hp with hp
      subst hp
      have hltb := lt_of_block hh
      obtain ⟨e0, e1, e2, e3, e4, e5, e6, e7, e8, e9, e10⟩ := cells11 hh
      obtain ⟨p1, rfl⟩ := hl.ptr
      obtain ⟨p2, rfl⟩ := hr.ptr
      have HC := Lib.hid hf
      have HL := Lib.hid hl
      have HR := Lib.hid hr
      unfold zeroItem at d0 d1 d2 d3 d4 d5 d6 d7 hfr ⊢
      have HF := Lib.hid hF.out
      have HS := hS.out
      clear hf hl hr hh hT hF hS
      by_cases he : key.toList = x.f0.toList
      · have hq : (key.toList == x.f0.toList) = true := beq_iff_eq.2 he
        have HV := Lib.hid (show findT T key = some x from by rw [← HF.out]; simp only [findT]; rw [if_pos he])
        clear he HF
        go_wp2
        refine bodyPost_ret (v := .tuple #[.agg (itemCells x A c), .bool true]) (by simp [results, itemCells, Try.results54, go_sem, d0, d1, d2, d3, d4, d5, d6, d7]) rfl ⟨by rw [HV.out]; exact ⟨A, c, rfl, hc, Kd.F_below HC.out (below_alloc (Below.refl _ _) _)⟩, below_alloc (Below.refl _ _) _⟩
      · have hq : (key.toList == x.f0.toList) = false := beq_eq_false_iff_ne.2 he
        cases hb2 : Op.bytesLess key.toList x.f0.toList with
        | true =>
          have HV := Lib.hid (show findT l key = findT T key from by rw [← HF.out]; simp only [findT]; rw [if_neg he, if_pos hb2])
          clear he HF
          go_wp2
          go_roundg (sizeT l)
          case measure => simp only [sizeT] at HS; omega
          case rel => exact ⟨l, p1, rfl, ⟨HL.out⟩, ⟨HV.out⟩, ⟨Nat.le_refl _⟩, rfl⟩
        | false =>
          have HV := Lib.hid (show findT r key = findT T key from by rw [← HF.out]; simp only [findT]; rw [if_neg he, if_neg (by rw [hb2]; simp)])
          clear he HF
          go_wp2
          go_roundg (sizeT r)
          case measure => simp only [sizeT] at HS; omega
          case rel => exact ⟨r, p2, rfl, ⟨HR.out⟩, ⟨HV.out⟩, ⟨Nat.le_refl _⟩, rfl⟩
set_option maxHeartbeats 4000000 in
set_option maxRecDepth 100000 in
theorem is_none (w : World) : Calls Try.prog 53 #[.pointer none] w fun e w' => e = .returned (.bool false) ∧ w' = w := by
  go_enter Try.func53, Try.ntmps53
  go_wp2
  go_ret
  exact ⟨rfl, rfl⟩
set_option maxHeartbeats 4000000 in
set_option maxRecDepth 100000 in
theorem find_none (w : World) (key : ByteArray) :
    Calls Try.prog 54 #[.pointer none, .string key] w fun e w' => e = .returned (.tuple #[.agg zeroItem, .bool false]) ∧ Below w.heap.size w w' := by
  go_enter Try.func54, Try.ntmps54
  have hnew := heap_alloc_new w (.cells zeroItem 38)
  obtain ⟨d0, d1, d2, d3, d4, d5, d6, d7⟩ := cells8 hnew
  have hfr := frees hnew
  clear hnew
  unfold zeroItem at d0 d1 d2 d3 d4 d5 d6 d7 hfr ⊢
  go_wp2
  refine bodyPost_ret (v := .tuple #[.agg zeroItem, .bool false]) (by simp [results, zeroItem, Try.results54, go_sem, d0, d1, d2, d3, d4, d5, d6, d7]) rfl ⟨rfl, ?_⟩
  repeat (refine Below.setCell ?_ (by simp) _)
  exact below_alloc (Below.refl _ _) _
end Go.Proofs.Ytgoidimipchejaa.Tr
