/- Layer 10: nobody's tree, and the statement TreeClones, walked; no condition beyond what a value's form says. -/
import Derived.Test.YtgoidimipchejaaTrH
namespace Go.Proofs.Ytgoidimipchejaa.Tr
open Go.RowKit Go.Proofs.Ytgoidimipchejaa.PT Go.Proofs.YtgoidimipchejaaW.PrintWords Go.Proofs.YtgoidimipchejaaW.PrintLast Go.Proofs.YtgoidimipchejaaW.PrintMore
set_option linter.unusedVariables false
set_option linter.unusedSimpArgs false
attribute [local go_sem ↓] Go.wp_at_zero Go.wp_at_succ

/-- Nobody's tree: no handle, or one that New did not give. -/
def Nob (W : World) (v : Value) : Prop := v = .pointer none ∨ ∃ Z, v = .pointer (some ⟨Z, 0, none⟩) ∧ HasTree W (fun _ => True) Z .nil 0 0 false
theorem Nob.below {W W1 : World} {v : Value} (h : Nob W v) (hb : Below W.heap.size W W1) : Nob W1 v := by
  rcases h with h | ⟨Z, h1, h2⟩
  · exact .inl h
  · exact .inr ⟨Z, h1, h2.below hb⟩
theorem Nob.ptr {W : World} {v : Value} (h : Nob W v) : ∃ p, v = .pointer p := by
  rcases h with h | ⟨Z, h1, _⟩
  · exact ⟨_, h⟩
  · exact ⟨_, h1⟩
theorem nob_get (w : World) (v : Value) (key : ByteArray) (h : Nob w v) : Calls Try.prog 34 #[v, .string key] w fun e w' => ∃ A c, e = .returned (.tuple #[.agg (itemCells zeroS A c), .bool false]) ∧ Below w.heap.size w w' := by
  rcases h with rfl | ⟨Z, rfl, h⟩
  · exact (get_nobody w key).mono fun e w' ⟨A, c, h1, _, _, h2⟩ => ⟨A, c, h1, h2⟩
  · exact (get_none w _ Z .nil 0 0 key h rfl).mono fun e w' ⟨A, c, h1, _, _, h2⟩ => ⟨A, c, h1, h2⟩
theorem nob_len (w : World) (v : Value) (h : Nob w v) : Calls Try.prog 31 #[v] w fun e w' => e = .returned (.int .i64 0) ∧ w' = w := by
  rcases h with rfl | ⟨Z, rfl, h⟩
  · exact len_none w
  · exact len_calls w _ Z .nil 0 0 h
theorem nob_weight (w : World) (v : Value) (h : Nob w v) : Calls Try.prog 32 #[v] w fun e w' => e = .returned (.int .i64 0) ∧ w' = w := by
  rcases h with rfl | ⟨Z, rfl, h⟩
  · exact weight_none w
  · exact weight_calls w _ Z .nil 0 0 h
theorem nob_scan (w : World) (v : Value) (lo hi : ByteArray) (most : Int) (h : Nob w v) : Calls Try.prog 25 #[v, .string lo, .string hi, .int .i64 most] w fun e w' => ∃ A c, e = .returned (.slice A 0 c) ∧ Below w.heap.size w w' := by
  rcases h with rfl | ⟨Z, rfl, h⟩
  · refine (scan_none w lo hi most).mono ?_
    rintro e w' ⟨rfl, rfl⟩
    exact ⟨_, _, rfl, Below.refl _ _⟩
  · refine (scan_calls w _ Z .nil 0 0 lo hi most h (by simp [Small, BT.items]) (by simp [sizeT])).mono ?_
    rintro e w' ⟨vo, rfl, h1, h2⟩
    obtain ⟨A, c, rfl⟩ := Kd.N_slice h1
    exact ⟨A, c, rfl, h2⟩
theorem nob_all (w : World) (v : Value) (h : Nob w v) : Calls Try.prog 30 #[v] w fun e w' => ∃ A c, e = .returned (.slice A 0 c) ∧ Below w.heap.size w w' := by
  rcases h with rfl | ⟨Z, rfl, h⟩
  · refine (all_none w).mono ?_
    rintro e w' ⟨rfl, rfl⟩
    exact ⟨_, _, rfl, Below.refl _ _⟩
  · refine (all_calls w _ Z .nil 0 0 h (by simp [Small, BT.items]) (by simp [sizeT])).mono ?_
    rintro e w' ⟨vo, rfl, h1, h2⟩
    obtain ⟨A, c, rfl⟩ := Kd.N_slice h1
    exact ⟨A, c, rfl, h2⟩
theorem nob_clone (w : World) (v : Value) (h : Nob w v) : Calls Try.prog 36 #[v] w fun e w' => ∃ v', e = .returned v' ∧ Nob w' v' ∧ Below w.heap.size w w' := by
  rcases h with rfl | ⟨Z, rfl, h⟩
  · refine (clone_none w).mono ?_
    rintro e w' ⟨rfl, rfl⟩
    exact ⟨_, rfl, .inl rfl, Below.refl _ _⟩
  · refine (clone_tree w _ Z .nil 0 0 h).mono ?_
    rintro e w' ⟨rfl, h1, h2⟩
    exact ⟨_, rfl, .inr ⟨_, rfl, h1⟩, h2⟩
theorem nob_is (w : World) (v : Value) (h : Nob w v) : Calls Try.prog 53 #[v] w fun e w' => e = .returned (.bool false) ∧ w' = w := by
  rcases h with rfl | ⟨Z, rfl, h⟩
  · exact is_none w
  · exact is_calls w _ Z .nil 0 0 h
set_option maxHeartbeats 1000000 in
set_option maxRecDepth 100000 in
theorem nob_put (w : World) (v : Value) (x : S38) (A : Option Addr) (c : Nat) (h : Nob w v) : Calls Try.prog 29 #[v, .agg (itemCells x A c)] w fun e w' => e = .returned (.int .i64 1) ∧ Below w.heap.size w w' := by
  have HZ := Lib.hid h
  obtain ⟨p, rfl⟩ := h.ptr
  clear h
  unfold itemCells
  go_enter Try.func29, Try.ntmps29
  go_wp2_with (first
    | (go_at_call 53; refine (nob_is _ _ (HZ.out.below (below_alloc (Below.refl _ _) _))).mono ?_; rintro e w1 ⟨rfl, rfl⟩))
  go_ret
  exact ⟨rfl, below_alloc (Below.refl _ _) _⟩
theorem nob_zero (w : World) : Nob (w.alloc (.cells (treeCells (.pointer none) 0 0 false) 72)) (.pointer (some ⟨w.heap.size, 0, none⟩)) :=
  .inr ⟨w.heap.size, rfl, ⟨_, heap_alloc_new w _, rfl⟩⟩
end Go.Proofs.Ytgoidimipchejaa.Tr
