/- Layer 10: a tree of items, put one behind the other, by contract; no condition beyond the bounds that each lemma names. -/
import Derived.Test.YtgoidimipchejaaTrR
import Derived.Test.YtgoidimipchejaaTrI
import Derived.Deep.LoopGhost
import Derived.Deep.RegionWith
import Derived.Lib.SmallJoins
namespace Go.Proofs.Ytgoidimipchejaa.Tr
open Go.RowKit Go.Proofs.Ytgoidimipchejaa.PT Go.Proofs.YtgoidimipchejaaW.PrintWords Go.Proofs.YtgoidimipchejaaW.PrintLast Go.Proofs.YtgoidimipchejaaW.PrintMore
set_option linter.unusedVariables false
set_option linter.unusedSimpArgs false
attribute [local go_sem ↓] Go.wp_at_zero Go.wp_at_succ

theorem rd_get (l : List S38) (i : Nat) (h : i < l.length) : rd_T38 l (i : Int) = l[i] := by
  simp [rd_T38, h]
theorem take_next (l : List S38) (i : Nat) (h : i < l.length) : allL (l.take (i + 1)) = insM (allL (l.take i)) l[i] := by
  unfold allL allFrom insM
  rw [List.take_succ_eq_append_getElem h, List.foldl_append]
  rfl
theorem allL_lite (l : List S38) (n : Nat) (hl : l.length ≤ n) (hn : n ≤ 1000) (h : ∀ x ∈ l, x.f0.size ≤ 200 ∧ x.f2.f1.length ≤ 200) : Lite (allL l) := by
  refine ⟨?_, fun x hx => ?_⟩
  · have := allFrom_len l []
    unfold allL
    simp at this
    omega
  · rcases allFrom_mem l [] x hx with h2 | h2
    · simp at h2
    · exact h x h2
theorem may_calls (k : Nat) (x : S38) (A : Option Addr) (c : Nat) (w : World) (hk : 1 ≤ k) (hC : (Kd.int .u8).C w A x.f2.f1.length x.f2.f1) (hc : x.f2.f1.length ≤ c) :
    Calls Try.prog 40 #[.agg (itemCells x A c)] w fun e w' => e = .returned (.bool (mayB x)) ∧ Below w.heap.size w w' :=
  garnerref10_May.calls k x.f0 x.f1 x.f2.f0 A c x.f2.f1 x.f2.f2.f0 x.f2.f2.f1 x.f2.f2.f2 x.f2.f2.f3 (mayB x) w hC hc (may_mayB k x hk)
theorem code_may (x : S38) : ((okCode x == 0) == mayB x) = true := by
  unfold okCode
  cases mayB x <;> rfl

set_option maxHeartbeats 2000000 in
set_option maxRecDepth 100000 in
theorem made_calls (A0 : Option Addr) (c0 : Nat) (l : List S38) (w : World) (hC : Kd.C k38 w A0 l.length l) (hc : l.length ≤ c0) (hl : l.length ≤ 100) (hx : ∀ x ∈ l, x.f0.size ≤ 200 ∧ x.f2.f1.length ≤ 200) :
    Calls Try.prog 24 #[.slice A0 l.length c0] w fun e w' => e = .returned (.tuple #[.pointer (some ⟨w.heap.size, 0, none⟩), .bool true]) ∧ Holds w' (fun k => w.heap.size < k) w.heap.size (allL l) ∧ Below w.heap.size w w' := by
  have HC := Lib.hid hC
  have HX := Lib.hid hx
  clear hC hx
  go_enter Try.func24, Try.ntmps24
  go_wp2_with (first
    | (go_at_call 28; refine (new_holds _ (fun k => w.heap.size < k)).mono ?_; rintro e w1 ⟨rfl, hH1, hb1, hs1⟩; have HH1 := Lib.hid hH1; have HB1 := Lib.hid hb1; clear hH1 hb1))
  go_loopg [5] l.length (fun kq v wr => ∃ (i : Nat) (z : Int), v = .int .i64 z ∧ Aside0 (z = (i : Int)) ∧ Aside0 (i + kq = l.length) ∧ Aside0 (Holds wr (fun k => w.heap.size < k) w.heap.size (allL (l.take i))) ∧ Aside0 (Below w.heap.size w wr) ∧ Aside0 (w.heap.size + 1 ≤ wr.heap.size))
  case atStart => exact ⟨0, 0, rfl, ⟨rfl⟩, ⟨by omega⟩, ⟨HH1.out⟩, ⟨HB1.out⟩, ⟨hs1⟩⟩
  case round =>
    obtain ⟨i, z, rfl, hz, hi, hH, hb, hs⟩ := hrel
    have hi1 := hi.out
    have hz1 := hz.out
    by_cases hlt : i < l.length
    · have p1 : 0 ≤ z := by omega
      have q1 : z < (l.length : Int) := by omega
      have d1 : decide (z < (l.length : Int)) = true := decide_eq_true q1
      obtain ⟨ad, A3, c3, eA, x0, x1, x2, x3, x4, x5, x6, x7, hl3, hi3⟩ := at_T38 HC.out z p1 q1
      cases eA
      have HI : Hid (ItemAt w (ad.add (z.toNat * 8)) (rd_T38 l z) A3 c3) := Lib.hid ⟨x0, x1, x2, x3, x4, x5, x6, x7⟩
      have HC3 := Lib.hid hi3
      have HBw := Lib.hid hb.out
      have HHw := Lib.hid hH.out
      have hsw := hs.out
      have hxx : (rd_T38 l z).f0.size ≤ 200 ∧ (rd_T38 l z).f2.f1.length ≤ 200 := by rw [hz1, rd_get l i hlt]; exact HX.out _ (by simp)
      have HLT : Hid (Lite (allL (l.take i))) := Lib.hid (allL_lite _ 100 (by simp; omega) (by omega) (fun x hx => HX.out x (List.mem_of_mem_take hx)))
      have HNX : Hid (allL (l.take (i + 1)) = insM (allL (l.take i)) (rd_T38 l z)) := Lib.hid (by rw [hz1, rd_get l i hlt]; exact take_next l i hlt)
      clear x0 x1 x2 x3 x4 x5 x6 x7 hi3 hb hH hs hz hi
      obtain ⟨x0, x1, x2, x3, x4, x5, x6, x7⟩ := HI.out.below HBw.out
      generalize hq : rd_T38 l z = q at *
      have hcm := code_may q
      have p2 := eq_true p1
      have q2 := eq_true q1
      have HZ := Lib.hid hz1
      have HI1 := Lib.hid hi1
      have HLL := Lib.hid hl
      clear p1 q1 hz1 hi1 hq hl
      go_wp2
      go_region_with (first
        | (go_at_call 29; refine (put_all (fun k => w.heap.size < k) w.heap.size (allL (l.take i)) q A3 c3 _ (fun k hk => by omega) (by first | exact HH3.out | exact HHw.out.below (Go.Joins.below_draws _ _ 1)) (Kd.C_below HC3.out (by first | exact HB3.out | exact HBw.out.trans (Go.Joins.below_draws _ _ 1))) hl3 HLT.out hxx).mono ?_; rintro e w2 ⟨rfl, hH2, hg2⟩; have hs2 : w.heap.size + 1 ≤ w2.heap.size := Nat.le_trans (by first | exact hs3 | exact hsw) hg2.size; have HB2 : Hid (Below w.heap.size w w2) := Lib.hid (pw_below_grown (by first | exact HB3.out | exact HBw.out.trans (Go.Joins.below_draws _ _ 1)) _ (by first | exact Nat.le_of_succ_le hs3 | exact Nat.le_of_succ_le hsw) hg2 (fun k hk => by injection hk with hk; omega)); obtain ⟨y0, y1, y2, y3, y4, y5, y6, y7⟩ := HI.out.below HB2.out; have HH2 : Hid (Holds w2 (fun k => w.heap.size < k) w.heap.size (insM (allL (l.take i)) q)) := Lib.hid (hH2.mono (fun k hk => hk.elim id (fun h => Nat.lt_of_lt_of_le (by first | exact hs3 | exact hsw) h))); clear hH2 hg2)
        | (go_at_call 40; refine (may_calls 1 q A3 c3 _ (by omega) (Kd.C_below HC3.out (by first | exact HB2.out | exact HBw.out.trans (Go.Joins.below_draws _ _ 1))) hl3).mono ?_; rintro e w3 ⟨rfl, hb3⟩; have hs3 : w.heap.size + 1 ≤ w3.heap.size := Nat.le_trans (by first | exact hs2 | exact hsw) hb3.size; have HB3 : Hid (Below w.heap.size w w3) := Lib.hid (by first | exact below_then HB2.out (Nat.le_of_succ_le hs2) hb3 | exact below_then (HBw.out.trans (Go.Joins.below_draws _ _ 1)) (Nat.le_of_succ_le hsw) hb3); (first | (have HH3 : Hid (Holds w3 (fun k => w.heap.size < k) w.heap.size (insM (allL (l.take i)) q)) := Lib.hid (HH2.out.below hb3)) | (have HH3 : Hid (Holds w3 (fun k => w.heap.size < k) w.heap.size (allL (l.take i))) := Lib.hid ((HHw.out.below (Go.Joins.below_draws _ _ 1)).below hb3))); obtain ⟨y0, y1, y2, y3, y4, y5, y6, y7⟩ := HI.out.below HB3.out; clear hb3))
      all_goals (
        go_wp2
        have hz9 := HZ.out
        have hi9 := HI1.out
        have hl9 := HLL.out
        go_roundg (gk - 1)
        case measure => omega
        case rel => exact ⟨i + 1, _, rfl, ⟨by rw [hz9]; first | exact wrap_succ i (by omega) | (simp only [IntKind.wrap_i64]; omega) | (trace_state; omega)⟩, ⟨by omega⟩, ⟨by rw [HNX.out]; exact HH3.out⟩, ⟨HB3.out⟩, ⟨hs3⟩⟩)
    · have d1 : decide (z < (l.length : Int)) = false := decide_eq_false (by omega)
      have hil : l.take i = l := List.take_of_length_le (by omega)
      go_wp2
      refine bodyPost_ret (v := .tuple #[.pointer (some ⟨w.heap.size, 0, none⟩), .bool true]) (by simp [results, Try.results24, go_sem]) rfl ⟨rfl, ?_, hb.out⟩
      have := hH.out
      rw [hil] at this
      exact this
end Go.Proofs.Ytgoidimipchejaa.Tr
