/- Layer 10: trees of items in plain words, where a tree lies in memory and what leaves it as it is; a copy of bytes; no condition beyond the bounds that each lemma names. -/
import Derived.Test.YtgoidimipchejaaPTx0
import Derived.Lib.Hide
import Derived.OneCell
import Derived.LoopN
import Derived.WalkSpells
import Derived.Laws.Cover1
import Derived.Lib.SliceRun
namespace Go.Proofs.Ytgoidimipchejaa.Tr
open Go.RowKit Go.Proofs.Ytgoidimipchejaa.PT Go.Proofs.YtgoidimipchejaaW.PrintWords Go.Proofs.YtgoidimipchejaaW.PrintLast Go.Proofs.YtgoidimipchejaaW.PrintMore
set_option linter.unusedVariables false

/-! ### trees in plain words -/
inductive BT where
  | nil : BT
  | node (l : BT) (x : S38) (lev : Int) (r : BT) : BT
def BT.items : BT → List S38
  | .nil => []
  | .node l x _ r => l.items ++ x :: r.items
def skewT : BT → BT
  | .node (.node a y ly b) x lx c => if ly = lx then .node a y ly (.node b x lx c) else .node (.node a y ly b) x lx c
  | t => t
def splitT : BT → BT
  | .node a x lx (.node b y ly (.node c z lz d)) => if lz = lx then .node (.node a x lx b) y (IntKind.i64.wrap (ly + 1)) (.node c z lz d) else .node a x lx (.node b y ly (.node c z lz d))
  | t => t
def putT : BT → S38 → BT
  | .nil, x => .node .nil x 1 .nil
  | .node l y lev r, x =>
    if x.f0.toList = y.f0.toList then .node l x lev r
    else if Op.bytesLess x.f0.toList y.f0.toList = true then splitT (skewT (.node (putT l x) y lev r))
    else splitT (skewT (.node l y lev (putT r x)))
theorem skewT_items (t : BT) : (skewT t).items = t.items := by
  unfold skewT
  split
  · split <;> simp [BT.items]
  · rfl
theorem splitT_items (t : BT) : (splitT t).items = t.items := by
  unfold splitT
  split
  · split <;> simp [BT.items]
  · rfl

/-! ### where a tree lies -/
def nodeCells (x : S38) (A : Option Addr) (c : Nat) (vl vr : Value) (lev : Int) : Array Value :=
  #[.string x.f0, .bool x.f1, .bool x.f2.f0, .slice A x.f2.f1.length c, .int .i64 x.f2.f2.f0, .int .i64 x.f2.f2.f1, .int .i64 x.f2.f2.f2, .int .u32 x.f2.f2.f3, vl, vr, .int .i64 lev]
/-- The tree that a value leads to, all of it in blocks of ok. -/
def FT (W : World) (ok : Nat → Prop) : BT → Value → Prop
  | .nil, v => v = .pointer none
  | .node l x lev r, v => ∃ b vl vr A c, v = .pointer (some ⟨b, 0, none⟩) ∧ ok b ∧ W.heap[b]? = some (.cells (nodeCells x A c vl vr lev) 97 (0, 0)) ∧ x.f2.f1.length ≤ c ∧ Kd.F (Kd.int .u8) W ok A x.f2.f1.length x.f2.f1 ∧ FT W ok l vl ∧ FT W ok r vr
theorem FT.step {W W1 : World} {ok : Nat → Prop} (hm : ∀ k, ok k → k < W.heap.size → W1.heap[k]? = W.heap[k]?) : ∀ {T : BT} {v : Value}, FT W ok T v → FT W1 ok T v
  | .nil, _, h => h
  | .node l x lev r, _, ⟨b, vl, vr, A, c, hv, hb, hh, hc, hf, hl, hr⟩ =>
    ⟨b, vl, vr, A, c, hv, hb, (hm b hb (lt_of_block hh)).trans hh, hc, Kd.F_step hf hm, FT.step hm hl, FT.step hm hr⟩
theorem FT.mono {W : World} {ok ok' : Nat → Prop} (hok : ∀ k, ok k → ok' k) : ∀ {T : BT} {v : Value}, FT W ok T v → FT W ok' T v
  | .nil, _, h => h
  | .node l x lev r, _, ⟨b, vl, vr, A, c, hv, hb, hh, hc, hf, hl, hr⟩ => ⟨b, vl, vr, A, c, hv, hok b hb, hh, hc, Kd.F_mono hf hok, FT.mono hok hl, FT.mono hok hr⟩
theorem FT.below {W W1 : World} {ok : Nat → Prop} {T : BT} {v : Value} (h : FT W ok T v) (hb : Below W.heap.size W W1) : FT W1 ok T v := h.step fun k _ hlt => hb.block k hlt
/-- A tree's value is nobody, or a pointer to a block. -/
theorem FT.ptr {W : World} {ok : Nat → Prop} {T : BT} {v : Value} (h : FT W ok T v) : ∃ p, v = .pointer p := by
  cases T with
  | nil => exact ⟨none, h⟩
  | node l x lev r =>
    obtain ⟨b, vl, vr, A, c, rfl, _⟩ := h
    exact ⟨_, rfl⟩
/-- A new node over what is there. -/
theorem FT.alloc_node {W : World} {ok : Nat → Prop} {l r : BT} {x : S38} {lev : Int} {vl vr : Value} {A : Option Addr} {c B : Nat} (hl : FT W ok l vl) (hr : FT W ok r vr) (hc : x.f2.f1.length ≤ c) (hf : Kd.F (Kd.int .u8) W ok A x.f2.f1.length x.f2.f1)
    (hB : W.heap.size = B) (hok : ok B) : FT (W.alloc (.cells (nodeCells x A c vl vr lev) 97)) ok (.node l x lev r) (.pointer (some ⟨B, 0, none⟩)) := by
  subst hB
  have hb := below_alloc (Below.refl W.heap.size W) (.cells (nodeCells x A c vl vr lev) 97)
  exact ⟨_, vl, vr, A, c, rfl, hok, heap_alloc_new W _, hc, Kd.F_below hf hb, hl.below hb, hr.below hb⟩
/-- An item whose bytes lie in blocks of ok. -/
def itemCells (x : S38) (A : Option Addr) (c : Nat) : Array Value :=
  #[.string x.f0, .bool x.f1, .bool x.f2.f0, .slice A x.f2.f1.length c, .int .i64 x.f2.f2.f0, .int .i64 x.f2.f2.f1, .int .i64 x.f2.f2.f2, .int .u32 x.f2.f2.f3]

/-! ### what was there reads as before -/
theorem bcell {W w1 : World} (hb : Below W.heap.size W w1) : (∀ b o, b < W.heap.size → w1.cell? ⟨b, o, none⟩ = W.cell? ⟨b, o, none⟩) ∧ (∀ b o, b < W.heap.size → w1.frozen? ⟨b, o, none⟩ = W.frozen? ⟨b, o, none⟩) :=
  ⟨fun b o h => hb.cell (p := ⟨b, o, none⟩) h, fun b o h => hb.frozen (p := ⟨b, o, none⟩) h⟩

theorem cells8 {w : World} {b : Nat} {v0 v1 v2 v3 v4 v5 v6 v7 : Value} {t : TypeId} {fr : Nat × Nat} (h : w.heap[b]? = some (.cells #[v0, v1, v2, v3, v4, v5, v6, v7] t fr)) :
    w.cell? ⟨b, 0, none⟩ = some v0 ∧ w.cell? ⟨b, 1, none⟩ = some v1 ∧ w.cell? ⟨b, 2, none⟩ = some v2 ∧ w.cell? ⟨b, 3, none⟩ = some v3 ∧ w.cell? ⟨b, 4, none⟩ = some v4 ∧ w.cell? ⟨b, 5, none⟩ = some v5 ∧ w.cell? ⟨b, 6, none⟩ = some v6 ∧ w.cell? ⟨b, 7, none⟩ = some v7 := by
  simp [World.cell?, h]
theorem cells11 {w : World} {b : Nat} {v0 v1 v2 v3 v4 v5 v6 v7 v8 v9 v10 : Value} {t : TypeId} {fr : Nat × Nat} (h : w.heap[b]? = some (.cells #[v0, v1, v2, v3, v4, v5, v6, v7, v8, v9, v10] t fr)) :
    w.cell? ⟨b, 0, none⟩ = some v0 ∧ w.cell? ⟨b, 1, none⟩ = some v1 ∧ w.cell? ⟨b, 2, none⟩ = some v2 ∧ w.cell? ⟨b, 3, none⟩ = some v3 ∧ w.cell? ⟨b, 4, none⟩ = some v4 ∧ w.cell? ⟨b, 5, none⟩ = some v5 ∧ w.cell? ⟨b, 6, none⟩ = some v6 ∧ w.cell? ⟨b, 7, none⟩ = some v7 ∧ w.cell? ⟨b, 8, none⟩ = some v8 ∧ w.cell? ⟨b, 9, none⟩ = some v9 ∧ w.cell? ⟨b, 10, none⟩ = some v10 := by
  simp [World.cell?, h]
theorem frees {w : World} {b : Nat} {cs : Array Value} {t : TypeId} (h : w.heap[b]? = some (.cells cs t (0, 0))) : ∀ o, w.frozen? ⟨b, o, none⟩ = false := by
  intro o
  simp [World.frozen?, h]

/-- Two new blocks, as they read behind what leaves them alone. -/
theorem two_new (w : World) (o1 o2 : Obj) {w1 : World} (hb : Below ((w.alloc o1).alloc o2).heap.size ((w.alloc o1).alloc o2) w1) : w1.heap[w.heap.size]? = some o1 ∧ w1.heap[w.heap.size + 1]? = some o2 := by
  have h2 := heap_alloc_new (w.alloc o1) o2
  rw [World.size_alloc] at h2
  exact ⟨(hb.block _ (by simp; omega)).trans (((below_alloc (Below.refl _ _) o2).block w.heap.size (by simp)).trans (heap_alloc_new w o1)), (hb.block _ (by simp)).trans h2⟩
theorem one_new (w : World) (o1 : Obj) {w1 : World} (hb : Below (w.alloc o1).heap.size (w.alloc o1) w1) : w1.heap[w.heap.size]? = some o1 := (hb.block _ (by simp)).trans (heap_alloc_new w o1)

/-! ### a copy of bytes -/
theorem info5 : (Try.prog.info? 5).map (fun i => (i.zero, i.size, i.bytes)) = some (some (.int .u8 0), 1, 1) := by kernel_rfl
theorem R_lit_nil {α : Type} (d : Kd α) (e : Nat) (W : World) (h : True) : d.R e (W.alloc (.cells #[] e)) W.heap.size (fun k => W.heap.size ≤ k) (.slice (some ⟨W.heap.size, 0, none⟩) 0 0) [] :=
  ⟨fun k hk => by simp [Value.ownBlock] at hk; omega, [], ⟨by simp, .inr ⟨_, 0, #[], rfl, Nat.le_refl _, heap_alloc_new W _, Nat.le_refl _, by decide, by simp, by simp⟩⟩, Reps.none _ _⟩
set_option maxHeartbeats 4000000 in
set_option maxRecDepth 100000 in
theorem clone_calls (A : Option Addr) (c : Nat) (xs : List Int) (w : World) (hc : (Kd.int .u8).C w A xs.length xs) (hl : xs.length ≤ 140737488355328) :
    Calls Try.prog 50 #[.slice A xs.length c] w fun e w' => ∃ v, e = .returned v ∧ (Kd.int .u8).R 5 w' w.heap.size (fun k => w.heap.size ≤ k) v xs ∧ Below w.heap.size w w' := by
  cases A with
  | none =>
    have h0 : xs = [] := by
      cases xs with
      | nil => rfl
      | cons x xs =>
        obtain ⟨ad, h, _⟩ := hc.2.2 (by simp)
        simp at h
    subst h0
    clear hc
    have heq := fun W : World => Lib.run_eql_slice_nil (P := Try.prog) W 31 5 none 0 c 0 0 (by kernel_rfl)
    go_enter Try.func50, Try.ntmps50
    go_wp2
    go_ret
    exact ⟨_, rfl, Kd.R_nil _ _ _ _ _, Below.refl _ _⟩
  | some ad =>
    have heq := fun W : World => Lib.run_eql_slice_nil (P := Try.prog) W 31 5 (some ad) xs.length c 0 0 (by kernel_rfl)
    have HC := Lib.hid hc
    clear hc
    go_enter Try.func50, Try.ntmps50
    go_wp2_with (first
      | (at_builtin; refine Kd.R_append_row (w0 := w) (Value.int .u8) (0 : Int) w.heap.size rfl (.tmp 5) (.tmp 6) 31 5 (.int .u8 0) 1 rfl (by kernel_rfl) info5 rfl (by decide) _ [] xs (some ad) xs.length c (fun k => w.heap.size ≤ k) rfl rfl (fun k hk => by simp at hk; omega) (R_lit_nil (Kd.int .u8) 5 w trivial) (Kd.C_alloc HC.out _) (below_alloc (Below.refl _ _) _) (by simp) (by simp; omega) ?_; intro v1 w1 ho hb _ _))
    go_ret
    rw [List.nil_append] at ho
    exact ⟨_, rfl, ho, hb⟩
set_option maxHeartbeats 4000000 in
set_option maxRecDepth 100000 in
theorem own_calls (x : S38) (A : Option Addr) (c : Nat) (w : World) (hc : (Kd.int .u8).C w A x.f2.f1.length x.f2.f1) (hl : x.f2.f1.length ≤ 140737488355328) :
    Calls Try.prog 57 #[.agg (itemCells x A c)] w fun e w' => ∃ A' c', e = .returned (.agg (itemCells x A' c')) ∧ x.f2.f1.length ≤ c' ∧ Kd.F (Kd.int .u8) w' (fun k => w.heap.size ≤ k) A' x.f2.f1.length x.f2.f1 ∧ Below w.heap.size w w' := by
  unfold itemCells
  have HC := Lib.hid hc
  clear hc
  go_enter Try.func57, Try.ntmps57
  go_wp2_with fail
  refine (clone_calls A c x.f2.f1 _ (Kd.C_alloc (Kd.C_alloc HC.out _) _) hl).mono ?_
  rintro e w1 ⟨v, rfl, hR, hb⟩
  obtain ⟨A', c', rfl⟩ := Kd.R_slice hR
  obtain ⟨hb1, hb2⟩ := two_new w _ _ hb
  obtain ⟨a0, a1, a2, a3, a4, a5, a6, a7⟩ := cells8 hb1
  obtain ⟨d0, d1, d2, d3, d4, d5, d6, d7⟩ := cells8 hb2
  have hf1 := frees hb1
  have hf2 := frees hb2
  clear hb1 hb2
  have HR := Lib.hid (Kd.R_F hR)
  have HL := Lib.hid (Kd.R_reads' hR).2.1
  clear hR
  go_wp2
  refine bodyPost_ret (v := .agg #[.string x.f0, .bool x.f1, .bool x.f2.f0, .slice A' x.f2.f1.length c', .int .i64 x.f2.f2.f0, .int .i64 x.f2.f2.f1, .int .i64 x.f2.f2.f2, .int .u32 x.f2.f2.f3]) (by simp [results, Try.results57, go_sem, d0, d1, d2, d3, d4, d5, d6, d7]) rfl ⟨A', c', rfl, HL.out, ?_, ?_⟩
  · refine Kd.F_mono (ok := fun k => ((w.alloc (.cells (itemCells x A c) 38)).alloc (.cells #[.string ⟨#[]⟩, .bool false, .bool false, .slice none 0 0, .int .i64 0, .int .i64 0, .int .i64 0, .int .u32 0] 38)).heap.size ≤ k) ?_ (fun k hk => by simp at hk; omega)
    repeat (refine Kd.F_far ?_ (by intro k hk; simp at hk ⊢; omega) _)
    exact HR.out
  · repeat (refine Below.setCell ?_ (by simp) _)
    exact below_step (below_alloc (below_alloc (Below.refl _ _) _) _) hb
end Go.Proofs.Ytgoidimipchejaa.Tr
