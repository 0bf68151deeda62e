/- Layer 10: whether items are alike, by contract; no condition beyond the bounds that each lemma names. -/
import Derived.Test.YtgoidimipchejaaTrK
import Derived.Test.YtgoidimipchejaaTrI
import Derived.Deep.LoopGhost
import Derived.Deep.RegionWith
import Derived.Deep.DrawnRows
import Derived.Lib.SmallJoins
namespace Go.Proofs.Ytgoidimipchejaa.Tr
open Go.RowKit Go.Proofs.Ytgoidimipchejaa.PT Go.Proofs.YtgoidimipchejaaW.PrintWords Go.Proofs.YtgoidimipchejaaW.PrintLast Go.Proofs.YtgoidimipchejaaW.PrintMore
set_option linter.unusedVariables false
set_option linter.unusedSimpArgs false
attribute [local go_sem ↓] Go.wp_at_zero Go.wp_at_succ

/-- Alike, the key and the mark left out. -/
def sameC (x y : S38) : Bool := x.f2.f0 == y.f2.f0 && ((x.f2.f2.f0 == y.f2.f2.f0 && (x.f2.f2.f1 == y.f2.f2.f1 && (x.f2.f2.f2 == y.f2.f2.f2 && x.f2.f2.f3 == y.f2.f2.f3))) && decide (x.f2.f1 = y.f2.f1))
theorem sameI_C (x y : S38) : sameI x y = (decide (x.f0.toList = y.f0.toList) && (x.f1 == y.f1 && sameC x y)) := rfl
theorem cell_fg (x y : S38) (hx : By x.f2.f1) (hy : By y.f2.f1) : cell_Same.f x.f2.f0 x.f2.f1 x.f2.f2.f0 x.f2.f2.f1 x.f2.f2.f2 x.f2.f2.f3 y.f2.f0 y.f2.f1 y.f2.f2.f0 y.f2.f2.f1 y.f2.f2.f2 y.f2.f2.f3 = some (sameC x y) := by
  unfold cell_Same.f sameC
  rw [equal_fg _ _ hx hy]
  cases hc : (x.f2.f0 == y.f2.f0)
  · simp
  · cases hd : (x.f2.f2.f0 == y.f2.f2.f0 && (x.f2.f2.f1 == y.f2.f2.f1 && (x.f2.f2.f2 == y.f2.f2.f2 && x.f2.f2.f3 == y.f2.f2.f3)))
    · simp
    · simp

set_option maxHeartbeats 2000000 in
set_option maxRecDepth 100000 in
theorem closure_calls (x : S38) (A : Option Addr) (c : Nat) (y : S38) (A1 : Option Addr) (c1 : Nat) (w : World) (hC : (Kd.int .u8).C w A x.f2.f1.length x.f2.f1) (hc : x.f2.f1.length ≤ c) (hC1 : (Kd.int .u8).C w A1 y.f2.f1.length y.f2.f1) (hc1 : y.f2.f1.length ≤ c1) (hx : By x.f2.f1) (hy : By y.f2.f1) :
    Calls Try.prog 62 #[.agg (itemCells x A c), .agg (itemCells y A1 c1)] w fun e w' => e = .returned (.bool (sameI x y)) ∧ Below w.heap.size w w' := by
  have HC := Lib.hid hC
  have HC1 := Lib.hid hC1
  have HS := Lib.hid (cell_fg x y hx hy)
  have HE := Lib.hid (sameI_C x y)
  unfold itemCells
  clear hC hC1 hx hy
  go_enter Try.func62, Try.ntmps62
  go_wp2_with (first
    | (go_at_call 58; refine (cell_Same.calls x.f2.f0 A c x.f2.f1 x.f2.f2.f0 x.f2.f2.f1 x.f2.f2.f2 x.f2.f2.f3 y.f2.f0 A1 c1 y.f2.f1 y.f2.f2.f0 y.f2.f2.f1 y.f2.f2.f2 y.f2.f2.f3 _ _ (Kd.C_alloc (Kd.C_alloc HC.out _) _) hc (Kd.C_alloc (Kd.C_alloc HC1.out _) _) hc1 HS.out).mono ?_; rintro e w1 ⟨rfl, hb1⟩; have HB1 := Lib.hid (below_step (below_alloc (below_alloc (Below.refl _ _) _) _) hb1); clear hb1))
  all_goals (
    go_ret
    refine ⟨by rw [HE.out]; simp [*], ?_⟩
    first | exact HB1.out | exact below_alloc (below_alloc (Below.refl _ _) _) _)

theorem sameL_drop (a b : List S38) (i : Nat) (h : i < a.length) (h2 : i < b.length) : sameL (a.drop i) (b.drop i) = (sameI a[i] b[i] && sameL (a.drop (i + 1)) (b.drop (i + 1))) := by
  rw [List.drop_eq_getElem_cons h, List.drop_eq_getElem_cons h2]
  rfl
theorem sameL_end (a b : List S38) (i : Nat) (h : a.length ≤ i) (h2 : b.length ≤ i) : sameL (a.drop i) (b.drop i) = true := by
  rw [List.drop_eq_nil_of_le h, List.drop_eq_nil_of_le h2]
  rfl
theorem rd38_get (l : List S38) (i : Nat) (h : i < l.length) : rd_T38 l (i : Int) = l[i] := by
  simp [rd_T38, h]
/-- Items' bytes are bytes. -/
def ByL (l : List S38) : Prop := ∀ x ∈ l, By x.f2.f1

set_option maxHeartbeats 4000000 in
set_option maxRecDepth 100000 in
theorem equal_func (A : Option Addr) (c : Nat) (a : List S38) (A1 : Option Addr) (c1 : Nat) (b : List S38) (w : World) (hC : Kd.C k38 w A a.length a) (hc : a.length ≤ c) (hC1 : Kd.C k38 w A1 b.length b) (hc1 : b.length ≤ c1) (ha : ByL a) (hb : ByL b) (hl : a.length ≤ 1000000) (hl1 : b.length ≤ 1000000) :
    Calls Try.prog 61 #[.slice A a.length c, .slice A1 b.length c1, .func (.func 62) #[] #[]] w fun e w' => e = .returned (.bool (sameL a b)) ∧ Below w.heap.size w w' := by
  have HC := Lib.hid hC
  have HC1 := Lib.hid hC1
  have HA := Lib.hid ha
  have HB := Lib.hid hb
  clear hC hC1 ha hb
  by_cases hlen : a.length = b.length
  case neg =>
    have HE := Lib.hid (sameL_len a b hlen)
    rw [HE.out]
    have d1 : ((a.length : Int) != (b.length : Int)) = true := by simpa using fun e => hlen (by omega)
    have d2 : ((a.length : Int) == (b.length : Int)) = false := by simpa using fun e => hlen (by omega)
    have d3 : ¬ (a.length : Int) = (b.length : Int) := by omega
    go_enter Try.func61, Try.ntmps61
    go_wp2
    go_ret
    exact ⟨rfl, Below.refl _ _⟩
  case pos =>
    have HL := Lib.hid hlen
    have d1 : ((a.length : Int) != (b.length : Int)) = false := by simp [hlen]
    have d2 : ((a.length : Int) == (b.length : Int)) = true := by simp [hlen]
    go_enter Try.func61, Try.ntmps61
    clear hlen
    go_wp2
    go_loopg [17] a.length (fun kq v wr => ∃ (i : Nat) (z : Int), v = .int .i64 z ∧ Aside0 (z = (i : Int)) ∧ Aside0 (i + kq = a.length) ∧ Aside0 (sameL (a.drop i) (b.drop i) = sameL a b) ∧ Aside0 (Below w.heap.size w wr))
    case atStart => exact ⟨0, 0, rfl, ⟨rfl⟩, ⟨by omega⟩, ⟨rfl⟩, ⟨Below.refl _ _⟩⟩
    case round =>
      obtain ⟨i, z, rfl, hz, hi, hS, hb⟩ := hrel
      have hi1 := hi.out
      have hz1 := hz.out
      have hlen := HL.out
      have HBw := Lib.hid hb.out
      have HSS := Lib.hid hS.out
      clear hb hS hz hi
      by_cases hlt : i < a.length
      · have p1 : 0 ≤ z := by omega
        have q1 : z < (a.length : Int) := by omega
        have q1b : z < (b.length : Int) := by omega
        have d1 : decide (z < (a.length : Int)) = true := decide_eq_true q1
        obtain ⟨ad, A3, c3, eA, x0, x1, x2, x3, x4, x5, x6, x7, hl3, hi3⟩ := at_T38 (Kd.C_below HC.out HBw.out) z p1 q1
        obtain ⟨ad4, A4, c4, eA4, y0, y1, y2, y3, y4, y5, y6, y7, hl4, hi4⟩ := at_T38 (Kd.C_below HC1.out HBw.out) z p1 q1b
        cases eA
        cases eA4
        have HC3 := Lib.hid hi3
        have HC4 := Lib.hid hi4
        have HY : Hid (ItemAt wr (ad4.add (z.toNat * 8)) (rd_T38 b z) A4 c4) := Lib.hid ⟨y0, y1, y2, y3, y4, y5, y6, y7⟩
        have hBx : Hid (By (rd_T38 a z).f2.f1) := Lib.hid (by rw [hz1, rd38_get a i hlt]; exact HA.out _ (by simp))
        have hBy : Hid (By (rd_T38 b z).f2.f1) := Lib.hid (by rw [hz1, rd38_get b i (by omega)]; exact HB.out _ (by simp))
        have HD : Hid (sameL a b = (sameI (rd_T38 a z) (rd_T38 b z) && sameL (a.drop (i + 1)) (b.drop (i + 1)))) := Lib.hid (by rw [← HSS.out, hz1, rd38_get a i hlt, rd38_get b i (by omega)]; exact sameL_drop a b i hlt (by omega))
        clear hi3 hi4
        generalize hq : rd_T38 a z = q at *
        generalize hq2 : rd_T38 b z = q2 at *
        have v0 := fun o => (HY.out.alloc o).1
        have v1 := fun o => (HY.out.alloc o).2.1
        have v2 := fun o => (HY.out.alloc o).2.2.1
        have v3 := fun o => (HY.out.alloc o).2.2.2.1
        have v4 := fun o => (HY.out.alloc o).2.2.2.2.1
        have v5 := fun o => (HY.out.alloc o).2.2.2.2.2.1
        have v6 := fun o => (HY.out.alloc o).2.2.2.2.2.2.1
        have v7 := fun o => (HY.out.alloc o).2.2.2.2.2.2.2
        have p2 := eq_true p1
        have q3 := eq_true q1
        have q4 := eq_true q1b
        have HZ := Lib.hid hz1
        have HI1 := Lib.hid hi1
        have HLL := Lib.hid hl
        have HLT := Lib.hid hlt
        clear p1 q1 q1b hz1 hi1 hq hq2 hl hl1 hlen hlt
        cases hs : sameI q q2 with
        | false =>
          have HSF := Lib.hid hs
          clear hs
          go_wp2_with (first
            | (go_at_call 62; refine (closure_calls q A3 c3 q2 A4 c4 _ (Kd.C_alloc (Kd.C_alloc HC3.out _) _) hl3 (Kd.C_alloc (Kd.C_alloc HC4.out _) _) hl4 hBx.out hBy.out).mono ?_; rintro e w1 ⟨rfl, hb1⟩; rw [HSF.out]; have HB1 := Lib.hid (below_step (below_alloc (below_alloc HBw.out _) _) hb1); clear hb1))
          go_ret
          exact ⟨by rw [HD.out, HSF.out]; rfl, HB1.out⟩
        | true =>
          have HSF := Lib.hid hs
          clear hs
          go_wp2_with (first
            | (go_at_call 62; refine (closure_calls q A3 c3 q2 A4 c4 _ (Kd.C_alloc (Kd.C_alloc HC3.out _) _) hl3 (Kd.C_alloc (Kd.C_alloc HC4.out _) _) hl4 hBx.out hBy.out).mono ?_; rintro e w1 ⟨rfl, hb1⟩; rw [HSF.out]; have HB1 := Lib.hid (below_step (below_alloc (below_alloc HBw.out _) _) hb1); clear hb1))
          have hz9 := HZ.out
          have hi9 := HI1.out
          have hl9 := HLL.out
          have ht9 := HLT.out
          go_roundg (gk - 1)
          case measure => omega
          case rel => exact ⟨i + 1, _, rfl, ⟨by rw [hz9]; first | exact wrap_succ i (by omega) | (simp only [IntKind.wrap_i64]; omega)⟩, ⟨by omega⟩, ⟨by rw [HD.out, HSF.out]; rfl⟩, ⟨HB1.out⟩⟩
      · have d1 : decide (z < (a.length : Int)) = false := decide_eq_false (by omega)
        have HD : Hid (sameL a b = true) := Lib.hid (by rw [← HSS.out]; exact sameL_end a b i (by omega) (by omega))
        clear hlen hz1 hi1 hlt
        go_wp2
        go_ret
        exact ⟨by rw [HD.out]; rfl, HBw.out⟩
set_option maxHeartbeats 1000000 in
set_option maxRecDepth 100000 in
theorem same_calls (A : Option Addr) (c : Nat) (a : List S38) (A1 : Option Addr) (c1 : Nat) (b : List S38) (w : World) (hC : Kd.C k38 w A a.length a) (hc : a.length ≤ c) (hC1 : Kd.C k38 w A1 b.length b) (hc1 : b.length ≤ c1) (ha : ByL a) (hb : ByL b) (hl : a.length ≤ 1000000) (hl1 : b.length ≤ 1000000) :
    Calls Try.prog 43 #[.slice A a.length c, .slice A1 b.length c1] w fun e w' => e = .returned (.bool (sameL a b)) ∧ Below w.heap.size w w' := by
  have H := Lib.hid (equal_func A c a A1 c1 b w hC hc hC1 hc1 ha hb hl hl1)
  clear hC hC1 ha hb
  go_enter Try.func43, Try.ntmps43
  go_wp2_with (first
    | (go_at_call 61; refine H.out.mono ?_; rintro e w1 ⟨rfl, hb1⟩; have HB1 := Lib.hid hb1; clear hb1))
  go_ret
  exact ⟨rfl, HB1.out⟩
end Go.Proofs.Ytgoidimipchejaa.Tr
