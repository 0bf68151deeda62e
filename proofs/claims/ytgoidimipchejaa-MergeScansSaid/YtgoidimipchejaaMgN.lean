/- Layer 14: the statements' own small example; no condition. -/
import Derived.Test.YtgoidimipchejaaMgJ
import Derived.Test.YtgoidimipchejaaMgK
namespace Go.Proofs.Ytgoidimipchejaa.Mg
open Go.RowKit Go.Proofs.Ytgoidimipchejaa.PT Go.Proofs.Ytgoidimipchejaa.Tr Go.Proofs.YtgoidimipchejaaW.PrintWords Go.Proofs.YtgoidimipchejaaW.PrintLast Go.Proofs.YtgoidimipchejaaW.PrintMore
set_option linter.unusedVariables false
set_option linter.unusedSimpArgs false
attribute [local go_sem ↓] Go.wp_at_zero Go.wp_at_succ

def eAD : S38 := ⟨⟨#[97]⟩, true, ⟨false, [], ⟨0, 0, 0, 0⟩⟩⟩
def eA : S38 := ⟨⟨#[97]⟩, false, ⟨false, [], ⟨0, 0, 0, 0⟩⟩⟩
def eB : S38 := ⟨⟨#[98]⟩, false, ⟨false, [], ⟨0, 0, 0, 0⟩⟩⟩
def exLs : List (List S38) := [[eAD], [eA, eB]]
theorem ex_sorted : allSorted exLs = true := by kernel_rfl
theorem ex_merge : mergeL exLs = [eAD, eB] := by kernel_rfl
theorem ex_sel1 : selL true (mergeL exLs) = [eB] := by rw [ex_merge]; rfl
theorem ex_sel2 : selL false (mergeL exLs) = [eAD, eB] := by rw [ex_merge]; rfl
theorem ex_lite : LiteLs exLs := ⟨by decide, by intro l hl; simp [exLs] at hl; rcases hl with rfl | rfl <;> simp⟩
theorem ex_small : SmallLs exLs := by
  intro l hl x hx
  simp [exLs] at hl
  rcases hl with rfl | rfl
  · simp at hx; subst hx; decide
  · simp at hx; rcases hx with rfl | rfl <;> decide
/-- A row of items, cell by cell. -/
theorem C_row38 {w : World} {b : Nat} {cells : Array Value} {t : TypeId} {fr : Nat × Nat} {xs : List S38} (h : w.heap[b]? = some (.cells cells t fr)) (hl : xs.length ≤ 1000)
    (hx : ∀ (j : Nat) (x : S38), xs[j]? = some x → x.f2.f1 = [] ∧ ∀ i u, (itemCells x none 0).toList[i]? = some u → cells[j * 8 + i]? = some u) : Kd.C k38 w (some ⟨b, 0, none⟩) xs.length xs := by
  refine ⟨rfl, by omega, fun _ => ⟨_, rfl, fun j p hp => ?_⟩⟩
  obtain ⟨h1, h2⟩ := hx j p hp
  have hlen : p.f2.f1.length = 0 := by rw [h1]; rfl
  refine ⟨(itemCells p none 0).toList, rfl, ?_, fun i u hu => ?_⟩
  · exact k38_mk w p (A3 := none) (c3 := 0) (by omega) (by rw [h1]; exact Kd.C_nil _ _)
  · have := h2 i u hu
    rw [add_plain]
    simp only [World.cell?, h]
    exact this
theorem C_rowL {w : World} {b : Nat} {cells : Array Value} {t : TypeId} {fr : Nat × Nat} {xs : List (List S38)} (h : w.heap[b]? = some (.cells cells t fr)) (hl : xs.length ≤ 1000)
    (hx : ∀ (j : Nat) (l : List S38), xs[j]? = some l → ∃ A c, l.length ≤ c ∧ Kd.C k38 w A l.length l ∧ cells[j]? = some (Value.slice A l.length c)) : Kd.C kL w (some ⟨b, 0, none⟩) xs.length xs := by
  refine ⟨rfl, by omega, fun _ => ⟨_, rfl, fun j p hp => ?_⟩⟩
  obtain ⟨A, c, h1, h2, h3⟩ := hx j p hp
  refine ⟨[.slice A p.length c], rfl, ⟨A, c, rfl, h1, h2⟩, fun i u hu => ?_⟩
  have hi : i = 0 := by
    have := (List.getElem?_eq_some_iff.1 hu).1
    simp at this
    exact this
  subst hi
  simp at hu
  subst hu
  rw [add_plain, show j * kL.sz + 0 = j by show j * 1 + 0 = j; omega]
  simp only [World.cell?, h]
  exact h3

/-- The example's lists in memory. -/
def exW (w : World) : World := ((w.alloc (.cells #[.string ⟨#[97]⟩, .bool true, .bool false, .slice none 0 0, .int .i64 0, .int .i64 0, .int .i64 0, .int .u32 0] 38)).alloc (.cells #[.string ⟨#[97]⟩, .bool false, .bool false, .slice none 0 0, .int .i64 0, .int .i64 0, .int .i64 0, .int .u32 0, .string ⟨#[98]⟩, .bool false, .bool false, .slice none 0 0, .int .i64 0, .int .i64 0, .int .i64 0, .int .u32 0] 38)).alloc (.cells #[.slice (some ⟨w.heap.size, 0, none⟩) 1 1, .slice (some ⟨w.heap.size + 1, 0, none⟩) 2 2] 29)
set_option maxRecDepth 100000 in
theorem ex_C (w : World) : Kd.C kL (exW w) (some ⟨w.heap.size + 1 + 1, 0, none⟩) 2 exLs := by
  have h1 : (exW w).heap[w.heap.size]? = some (.cells #[.string ⟨#[97]⟩, .bool true, .bool false, .slice none 0 0, .int .i64 0, .int .i64 0, .int .i64 0, .int .u32 0] 38 (0, 0)) := by
    unfold exW
    exact ((below_alloc (Below.refl _ _) _).block w.heap.size (by simp; omega)).trans (((below_alloc (Below.refl _ _) _).block w.heap.size (by simp)).trans (heap_alloc_new w _))
  have h2 : (exW w).heap[w.heap.size + 1]? = some (.cells #[.string ⟨#[97]⟩, .bool false, .bool false, .slice none 0 0, .int .i64 0, .int .i64 0, .int .i64 0, .int .u32 0, .string ⟨#[98]⟩, .bool false, .bool false, .slice none 0 0, .int .i64 0, .int .i64 0, .int .i64 0, .int .u32 0] 38 (0, 0)) := by
    unfold exW
    have h := heap_alloc_new (w.alloc (.cells #[.string ⟨#[97]⟩, .bool true, .bool false, .slice none 0 0, .int .i64 0, .int .i64 0, .int .i64 0, .int .u32 0] 38)) (.cells #[.string ⟨#[97]⟩, .bool false, .bool false, .slice none 0 0, .int .i64 0, .int .i64 0, .int .i64 0, .int .u32 0, .string ⟨#[98]⟩, .bool false, .bool false, .slice none 0 0, .int .i64 0, .int .i64 0, .int .i64 0, .int .u32 0] 38)
    rw [World.size_alloc] at h
    exact ((below_alloc (Below.refl _ _) _).block (w.heap.size + 1) (by simp)).trans h
  have h3 : (exW w).heap[w.heap.size + 1 + 1]? = some (.cells #[.slice (some ⟨w.heap.size, 0, none⟩) 1 1, .slice (some ⟨w.heap.size + 1, 0, none⟩) 2 2] 29 (0, 0)) := by
    unfold exW
    have h := heap_alloc_new ((w.alloc (.cells #[.string ⟨#[97]⟩, .bool true, .bool false, .slice none 0 0, .int .i64 0, .int .i64 0, .int .i64 0, .int .u32 0] 38)).alloc (.cells #[.string ⟨#[97]⟩, .bool false, .bool false, .slice none 0 0, .int .i64 0, .int .i64 0, .int .i64 0, .int .u32 0, .string ⟨#[98]⟩, .bool false, .bool false, .slice none 0 0, .int .i64 0, .int .i64 0, .int .i64 0, .int .u32 0] 38)) (.cells #[.slice (some ⟨w.heap.size, 0, none⟩) 1 1, .slice (some ⟨w.heap.size + 1, 0, none⟩) 2 2] 29)
    rw [World.size_alloc, World.size_alloc] at h
    exact h
  have k1 : Kd.C k38 (exW w) (some ⟨w.heap.size, 0, none⟩) [eAD].length [eAD] := C_row38 h1 (by simp) (fun j x hj => by
    match j, hj with
    | 0, hj =>
      simp at hj
      subst hj
      refine ⟨rfl, fun i u hu => ?_⟩
      have hi : i < 8 := (List.getElem?_eq_some_iff.1 hu).1
      rw [← hu, Nat.zero_mul, Nat.zero_add]
      match i, hi with
      | 0, _ => rfl
      | 1, _ => rfl
      | 2, _ => rfl
      | 3, _ => rfl
      | 4, _ => rfl
      | 5, _ => rfl
      | 6, _ => rfl
      | 7, _ => rfl
    | j + 1, hj => simp at hj)
  have k2 : Kd.C k38 (exW w) (some ⟨w.heap.size + 1, 0, none⟩) [eA, eB].length [eA, eB] := C_row38 h2 (by simp) (fun j x hj => by
    match j, hj with
    | 0, hj =>
      simp at hj
      subst hj
      refine ⟨rfl, fun i u hu => ?_⟩
      have hi : i < 8 := (List.getElem?_eq_some_iff.1 hu).1
      rw [← hu, Nat.zero_mul, Nat.zero_add]
      match i, hi with
      | 0, _ => rfl
      | 1, _ => rfl
      | 2, _ => rfl
      | 3, _ => rfl
      | 4, _ => rfl
      | 5, _ => rfl
      | 6, _ => rfl
      | 7, _ => rfl
    | 1, hj =>
      simp at hj
      subst hj
      refine ⟨rfl, fun i u hu => ?_⟩
      have hi : i < 8 := (List.getElem?_eq_some_iff.1 hu).1
      rw [← hu]
      match i, hi with
      | 0, _ => rfl
      | 1, _ => rfl
      | 2, _ => rfl
      | 3, _ => rfl
      | 4, _ => rfl
      | 5, _ => rfl
      | 6, _ => rfl
      | 7, _ => rfl
    | j + 2, hj => simp at hj)
  exact C_rowL h3 (by decide) (fun j l hj => by
    match j, hj with
    | 0, hj => simp [exLs] at hj; subst hj; exact ⟨_, 1, by simp, k1, rfl⟩
    | 1, hj => simp [exLs] at hj; subst hj; exact ⟨_, 2, by simp, k2, rfl⟩
    | j + 2, hj => simp [exLs] at hj)
theorem ex_all (w W : World) (drop : Bool) (out : List S38) (ho : selL drop (mergeL exLs) = out) (h : Kd.C kL W (some ⟨w.heap.size + 1 + 1, 0, none⟩) 2 exLs) :
    Calls Try.prog 20 #[.slice (some ⟨w.heap.size + 1 + 1, 0, none⟩) 2 2, .bool drop] W fun e w' => ∃ A c, e = .returned (.tuple #[.slice A out.length c, .int .i64 0]) ∧ Kd.N k38 38 w' W.heap.size (fun k => W.heap.size ≤ k) (.slice A out.length c) out ∧ Below W.heap.size W w' := by
  have hd : decide (100 < (exLs.length : Int)) = false := rfl
  refine (all_yes (some ⟨w.heap.size + 1 + 1, 0, none⟩) 2 exLs drop W h (Nat.le_refl _) ex_lite hd ex_sorted ex_small (by rw [ex_merge]; decide)).mono ?_
  rintro e w' ⟨v, rfl, hN, hb⟩
  rw [ho] at hN
  obtain ⟨A, c, rfl⟩ := Kd.N_slice hN
  exact ⟨A, c, rfl, hN, hb⟩
set_option maxHeartbeats 400000 in
set_option maxRecDepth 100000 in
theorem awake14_calls (w : World) : Calls Try.prog 14 #[] w fun e w' => e = .returned (.bool true) ∧ Below w.heap.size w w' := by
  have HX := Lib.hid (ex_C w)
  have HB0 : Hid (Below w.heap.size w (exW w)) := Lib.hid (below_alloc (below_alloc (below_alloc (Below.refl _ _) _) _) _)
  have HA1 := Lib.hid (ex_all w (exW w) true [eB] ex_sel1 HX.out)
  have HA2 := Lib.hid (fun W h => ex_all w W false [eAD, eB] ex_sel2 h)
  unfold exW at HX HB0 HA1
  go_enter Try.func14, Try.ntmps14
  go_wp2_with (first
    | (go_at_call 20; refine (HA2.out _ (Kd.C_below HX.out HB1.out)).mono ?_; rintro e w2 ⟨A2, c2, rfl, hN2, hb2⟩; obtain ⟨ad2, A4, c4, eA2, y0, y1, _⟩ := at_T38 (Kd.N_reads' hN2).2.2 0 (by omega) (by simp); cases eA2; simp [rd_T38, eAD, add0] at y0 y1; have x0' := pw_cell_below hb2 x0; have HB2 := Lib.hid ((HB0.out.trans HB3.out).trans (⟨hb2.os, hb2.tape, hb2.output, hb2.size, fun k hk => hb2.block k (by have := HB3.out.size; have := HB0.out.size; omega)⟩ : Below w.heap.size _ w2)); clear hN2 hb2)
    | (go_at_call 20; refine HA1.out.mono ?_; rintro e w1 ⟨A1, c1, rfl, hN1, hb1⟩; obtain ⟨ad1, A3, c3, eA1, x0, x1, _⟩ := at_T38 (Kd.N_reads' hN1).2.2 0 (by omega) (by simp); cases eA1; simp [rd_T38, eB, add0] at x0 x1; have HB1 := Lib.hid hb1; have HB3 : Hid (Below w.heap.size _ w1) := Lib.hid ⟨hb1.os, hb1.tape, hb1.output, hb1.size, fun k hk => hb1.block k (Nat.lt_of_lt_of_le hk HB0.out.size)⟩; clear hN1 hb1))
  go_ret
  exact ⟨rfl, HB2.out⟩
end Go.Proofs.Ytgoidimipchejaa.Mg
