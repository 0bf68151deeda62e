/- Layer 11: the sieve of no keys has none, and a key has six bits: what the law's own small example asks; no condition. -/
import Derived.Test.YtnppeoophmihmaaSvE
namespace Go.Proofs.Ytnppeoophmihmaa.Sv
open Go.RowKit Go.Proofs.Ytnppeoophmihmaa.CrcP Go.Proofs.Ytnppeoophmihmaa.PCrc Go.Proofs.YtnppeoophmihmaaW.PrintWords Go.Proofs.YtnppeoophmihmaaW.PrintLast Go.Proofs.YtnppeoophmihmaaW.PrintMore
set_option linter.unusedVariables false

def keyA : ByteArray := ⟨#[97]⟩
theorem has_a : hasB [0] keyA = false := by decide +kernel

set_option maxHeartbeats 4000000 in
set_option maxRecDepth 100000 in
theorem of_nil (w : World) : Calls Try.prog 18 #[.slice none 0 0] w fun e w' => ∃ g, e = .returned (.slice (some ⟨g, 0, none⟩) 1 1) ∧ w'.cell? ⟨g, 0, none⟩ = some (.int .u8 0) ∧ Below w.heap.size w w' := by
  have hmk : ∀ W : World, (Instr.makeSlice 23 (.int .i64 1) (.int .i64 1)).run Try.prog W = .ok (.slice (some ⟨W.heap.size, 0, none⟩) 1 1) (W.alloc (.cells #[.int .u8 0] 5)) := by
    intro W
    have h := print_make (P := Try.prog) 23 5 .u8 1 (by kernel_rfl) (by kernel_rfl) (by decide) 1 (by decide) W
    rw [show madeCells #[Value.int .u8 0] 1 = #[Value.int .u8 0] from Array.toList_inj.1 (toList_madeCells_one _ 1)] at h
    exact h
  go_enter Try.func18, Try.ntmps18
  go_wp2
  refine wp_loop_rounds 1 ?_
  rw [rounds_succ]
  go_wp2
  go_ret
  exact ⟨w.heap.size, rfl, (World.cell?_alloc_lt _ _ _ (by simp)).trans (cell_of_one (heap_alloc_new w _)), below_alloc (below_alloc (Below.refl _ _) _) _⟩

/-- What stands in memory while a key's bits are gathered. -/
structure BitsInv (w : World) (k : Nat) (wr : World) : Prop where
  ex : ∃ v xs, wr.heap[w.heap.size]? = some (.cells #[v] 36 (0, 0)) ∧ xs.length = k ∧ wr.ownsRow (w.heap.size + 1) 3 1 v xs.length (nums .i64 xs)
  below : Below w.heap.size w wr

set_option maxHeartbeats 4000000 in
set_option maxRecDepth 100000 in
theorem bits1_calls (w wr : World) (k : Nat) (hk : k < 6) (m : Int) (h : BitsInv w k wr) :
    Calls Try.prog 26 #[.int .i64 m, .pointer (some ⟨w.heap.size, 0, none⟩)] wr fun e w' => e = .returned (.bool true) ∧ BitsInv w (k + 1) w' := by
  obtain ⟨⟨v, xs, hv, rfl, hown⟩, hbel⟩ := h
  have hc := cell_of_one hv
  have hf := free_of_one hv
  have hsz := lt_of_block hv
  go_enter Try.func26, Try.ntmps26
  go_wp2_with (first
    | (at_builtin; refine print_append_num (w0 := wr) (w.heap.size + 1) rfl (.tmp 4) (.tmp 6) 36 3 .i64 8 rfl (by kernel_rfl) (by kernel_rfl) (by decide) _ _ _ rfl rfl hown (Below.refl _ _) (by omega) (by omega) ?_; intro v1 w1 ho1 hb1 _ _; obtain ⟨A1, c1, rfl⟩ := own_slice ho1; have hv1 := (hb1.block w.heap.size (by omega)).trans hv; have hc1 := cell_of_one hv1; have hf1 := free_of_one hv1))
  go_ret
  exact ⟨rfl, ⟨⟨_, xs ++ [m], one_setCell hv1, by simp, by
    rw [List.length_append]
    rw [List.length_append] at ho1
    exact ownsRow_setCell_below ho1 (by simp) _⟩, (hbel.trans (hb1.mono (by omega))).setCell (Nat.le_refl _) _⟩⟩
set_option maxHeartbeats 4000000 in
set_option maxRecDepth 100000 in
theorem bits_a (w : World) : Calls Try.prog 19 #[.int .i64 3, .string keyA] w fun e w' => ∃ A c, e = .returned (.slice A 6 c) ∧ Below w.heap.size w w' := by
  have hka : keyA.size ≤ 140737488351232 := by decide
  generalize keyA = key at hka ⊢
  go_enter Try.func19, Try.ntmps19
  go_wp2_with fail
  refine (each_bits 3 (by decide) (by decide) key hka _ _ (fun k wr => BitsInv w k wr) (fun _ => False)
    (fun w' h => ⟨⟨.slice none 0 0, [], (h.block _ (by simp)).trans (heap_alloc_new w _), rfl, own_nil _ _ _ _⟩, below_step (below_alloc (Below.refl _ _) _) h⟩)
    (fun i w' hi hI => (bits1_calls w w' i hi _ hI).mono ?_)).mono ?_
  · rintro e w'' ⟨rfl, h⟩
    exact ⟨true, rfl, fun _ => h, fun h => by simp at h⟩
  · rintro e w' ⟨rfl, hI⟩
    obtain ⟨A, c, hv, hb⟩ : ∃ A c, w'.heap[w.heap.size]? = some (.cells #[.slice A 6 c] 36 (0, 0)) ∧ Below w.heap.size w w' := by
      rcases hI with hI | hI
      · obtain ⟨⟨v, xs, hv, hl, hown⟩, hb⟩ := hI
        obtain ⟨A, c, rfl⟩ := own_slice hown
        rw [hl] at hv
        exact ⟨A, c, hv, hb⟩
      · exact hI.elim
    have hc := cell_of_one hv
    clear hI hv
    go_wp2
    go_ret
    exact ⟨A, c, rfl, hb⟩
theorem C_zero {w : World} {g : Nat} (h : w.cell? ⟨g, 0, none⟩ = some (.int .u8 0)) : (Kd.int .u8).C w (some ⟨g, 0, none⟩) [0].length (B [0]) := by
  refine ⟨rfl, by decide, fun _ => ⟨_, rfl, fun j p hp => ?_⟩⟩
  have hj : j = 0 := by
    have := (List.getElem?_eq_some_iff.1 hp).1
    simp [B] at this
    omega
  subst hj
  have hp0 : p = 0 := by simpa [B] using hp.symm
  subst hp0
  refine ⟨[.int .u8 0], rfl, rfl, fun i u hu => ?_⟩
  cases i with
  | zero =>
    simp only [List.getElem?_cons_zero, Option.some.injEq] at hu
    subst hu
    rw [add_plain]
    exact h
  | succ i => simp at hu
theorem hasA_calls (g : Nat) (w : World) (h : w.cell? ⟨g, 0, none⟩ = some (.int .u8 0)) :
    Calls Try.prog 15 #[.slice (some ⟨g, 0, none⟩) 1 1, .string ⟨#[97]⟩] w fun e w' => e = .returned (.bool false) ∧ Below w.heap.size w w' := by
  have hh := has_calls [0] (by decide) (by decide) keyA (by decide) (some ⟨g, 0, none⟩) 1 w (C_zero h)
  rw [has_a] at hh
  exact hh
set_option maxHeartbeats 4000000 in
set_option maxRecDepth 100000 in
theorem awake_calls (w : World) : Calls Try.prog 14 #[] w fun e w' => e = .returned (.bool true) ∧ Below w.heap.size w w' := by
  have hkey : keyA.size ≤ 140737488351232 := by decide
  go_enter Try.func14, Try.ntmps14
  go_wp2_with fail
  refine (of_nil w).mono ?_
  rintro e w1 ⟨g, rfl, hc, hb⟩
  go_wp2_with fail
  refine (hasA_calls g w1 hc).mono ?_
  rintro e w2 ⟨rfl, hb2⟩
  go_wp2_with fail
  refine (bits_a w2).mono ?_
  rintro e w3 ⟨A, c, rfl, hb3⟩
  go_wp2
  go_ret
  exact ⟨rfl, below_step (below_step hb hb2) hb3⟩
end Go.Proofs.Ytnppeoophmihmaa.Sv
