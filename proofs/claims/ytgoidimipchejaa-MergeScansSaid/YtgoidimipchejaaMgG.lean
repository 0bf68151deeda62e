/- Layer 14: whether lists are in order, and a copy of lists, by contract; no condition beyond the bounds that each lemma names. -/
import Derived.Test.YtgoidimipchejaaMgC
import Derived.Test.YtgoidimipchejaaTrK
namespace Go.Proofs.Ytgoidimipchejaa.Mg
open Go.RowKit Go.Proofs.Ytgoidimipchejaa.PT Go.Proofs.Ytgoidimipchejaa.Tr Go.Proofs.YtgoidimipchejaaW.PrintWords Go.Proofs.YtgoidimipchejaaW.PrintLast Go.Proofs.YtgoidimipchejaaW.PrintMore
set_option linter.unusedVariables false
set_option linter.unusedSimpArgs false
attribute [local go_sem ↓] Go.wp_at_zero Go.wp_at_succ

abbrev kL : Kd (List S38) := Kd.slice 38 k38
/-- Lists that are no greater than a statement's merged ones. -/
def LiteLs (ls : List (List S38)) : Prop := ls.length ≤ 1000 ∧ ∀ l ∈ ls, l.length ≤ 100000
set_option maxHeartbeats 1000000 in
set_option maxRecDepth 100000 in
theorem bad_calls (A : Option Addr) (c : Nat) (l : List S38) (w : World) (hC : Kd.C k38 w A l.length l) (hc : l.length ≤ c) (hl : l.length ≤ 100000) :
    Calls Try.prog 45 #[.slice A l.length c] w fun e w' => e = .returned (.bool (!sortedB l)) ∧ Below w.heap.size w w' := by
  have H := Lib.hid (tree_Sorted.calls 200000 A c l (sortedB l) w hC hc (tree_sorted_f 200000 l (by omega) (by omega)))
  clear hC
  go_enter Try.func45, Try.ntmps45
  go_wp2_with (first
    | (go_at_call 41; refine H.out.mono ?_; rintro e w1 ⟨rfl, hb1⟩; have HB1 := Lib.hid hb1; clear hb1))
  go_ret
  exact ⟨rfl, HB1.out⟩
/-- Are all in order? -/
def allSorted (ls : List (List S38)) : Bool := ls.all sortedB
def IdxP (ls : List (List S38)) (w : World) (e : Ending) (w' : World) : Prop := ∃ r : Int, e = .returned (.int .i64 r) ∧ decide (0 ≤ r) = (!allSorted ls) ∧ -1 ≤ r ∧ r ≤ 1000 ∧ Below w.heap.size w w'
set_option maxHeartbeats 2000000 in
set_option maxRecDepth 100000 in
theorem index_calls (A : Option Addr) (c : Nat) (ls : List (List S38)) (w : World) (hC : Kd.C kL w A ls.length ls) (hc : ls.length ≤ c) (hl : LiteLs ls) :
    Calls Try.prog 63 #[.slice A ls.length c, .func (.func 45) #[] #[]] w (IdxP ls w) := by
  have HC := Lib.hid hC
  have HL := Lib.hid hl
  clear hC hl
  go_enter Try.func63, Try.ntmps63
  go_wp2_with fail
  go_loopg [8] ls.length (fun kq v wr => ∃ (i : Nat) (z : Int), v = .int .i64 z ∧ Aside0 (z = (i : Int)) ∧ Aside0 (i + kq = ls.length) ∧ Aside0 (allSorted (ls.take i) = true) ∧ Aside0 (Below w.heap.size w wr))
  case atStart => exact ⟨0, 0, rfl, ⟨rfl⟩, ⟨by omega⟩, ⟨by simp [allSorted]⟩, ⟨Below.refl _ _⟩⟩
  case round =>
    obtain ⟨i, z, rfl, hz, hi, hS, hb⟩ := hrel
    have HZ := Lib.hid hz.out
    have HI := Lib.hid hi.out
    have HS := Lib.hid hS.out
    have HBw := Lib.hid hb.out
    have hlen : ls.length ≤ 1000 := HL.out.1
    by_cases hlt : i < ls.length
    · have p1 : 0 ≤ z := by have := hz.out; omega
      have q1 : z < (ls.length : Int) := by have := hz.out; omega
      have d1 : decide (z < (ls.length : Int)) = true := decide_eq_true q1
      obtain ⟨ad, A1, c1, eA, x0, hl1, hC1⟩ := at_L9 (Kd.C_below HC.out HBw.out) z p1 q1
      cases eA
      have hel : rd_L9 ls z = ls[i] := by rw [hz.out]; simp [rd_L9, hlt]
      have hle : (rd_L9 ls z).length ≤ 100000 := by rw [hel]; exact HL.out.2 _ (List.getElem_mem hlt)
      have HTK : Hid (allSorted (ls.take (i + 1)) = (allSorted (ls.take i) && sortedB (rd_L9 ls z))) := Lib.hid (by rw [hel]; unfold allSorted; rw [List.take_succ_eq_append_getElem hlt, List.all_append]; simp only [List.all_cons, List.all_nil, Bool.and_true])
      have HAL : Hid (sortedB (rd_L9 ls z) = false → allSorted ls = false) := Lib.hid (fun h => by
        rw [hel] at h
        unfold allSorted
        rw [List.all_eq_false]
        exact ⟨ls[i], List.getElem_mem hlt, by simp [h]⟩)
      have HC1 := Lib.hid hC1
      generalize hq : rd_L9 ls z = q at *
      have p2 := eq_true p1
      have q2 := eq_true q1
      clear hz hi hS hb hel hq hC1 hlt
      cases hs : sortedB q with
      | false =>
        have HSF := Lib.hid hs
        clear hs
        go_wp2_with (first
          | (go_at_call 45; refine (bad_calls A1 c1 q _ HC1.out hl1 hle).mono ?_; rintro e w1 ⟨rfl, hb1⟩; rw [HSF.out]; have HB1 := Lib.hid (below_step HBw.out hb1); clear hb1))
        go_ret
        exact ⟨z, rfl, by rw [HAL.out HSF.out]; exact decide_eq_true (of_eq_true p2), by have := of_eq_true p2; omega, by have := of_eq_true q2; omega, HB1.out⟩
      | true =>
        have HSF := Lib.hid hs
        clear hs
        go_wp2_with (first
          | (go_at_call 45; refine (bad_calls A1 c1 q _ HC1.out hl1 hle).mono ?_; rintro e w1 ⟨rfl, hb1⟩; rw [HSF.out]; have HB1 := Lib.hid (below_step HBw.out hb1); clear hb1))
        have hz9 := HZ.out
        have hi9 := HI.out
        go_roundg (gk - 1)
        case measure => omega
        case rel => exact ⟨i + 1, _, rfl, ⟨by rw [hz9]; first | exact wrap_succ i (by omega) | omega | (simp only [IntKind.wrap_i64]; omega)⟩, ⟨by omega⟩, ⟨by rw [HTK.out, HS.out, HSF.out]; rfl⟩, ⟨HB1.out⟩⟩
    · have d1 : decide (z < (ls.length : Int)) = false := decide_eq_false (by have := hz.out; omega)
      have HA : Hid (allSorted ls = true) := Lib.hid (by have h := hS.out; rwa [List.take_of_length_le (by omega)] at h)
      clear hz hi hS hb hlt
      go_wp2
      go_ret
      exact ⟨-1, rfl, by rw [HA.out]; rfl, by omega, by omega, HBw.out⟩
set_option maxHeartbeats 1000000 in
set_option maxRecDepth 100000 in
theorem contains_calls (A : Option Addr) (c : Nat) (ls : List (List S38)) (w : World) (hC : Kd.C kL w A ls.length ls) (hc : ls.length ≤ c) (hl : LiteLs ls) :
    Calls Try.prog 44 #[.slice A ls.length c, .func (.func 45) #[] #[]] w fun e w' => e = .returned (.bool (!allSorted ls)) ∧ Below w.heap.size w w' := by
  have H := Lib.hid (index_calls A c ls w hC hc hl)
  clear hC
  go_enter Try.func44, Try.ntmps44
  go_wp2_with (first
    | (go_at_call 63; refine H.out.mono ?_; rintro e w1 ⟨r, rfl, hr, hr1, hr2, hb1⟩; have HR := Lib.hid hr; have HB1 := Lib.hid hb1; clear hr hb1))
  go_ret
  exact ⟨by rw [← HR.out]; rfl, HB1.out⟩
theorem infoL : (Try.prog.info? 29).map (fun i => (i.zero, i.size, i.bytes)) = some (some (.slice none 0 0), 1, 24) := by kernel_rfl
theorem RL_nil (W : World) : kL.R 29 (W.alloc (.cells #[] 29)) W.heap.size (fun k => W.heap.size ≤ k) (.slice (some ⟨W.heap.size, 0, none⟩) 0 0) [] := R_lit_nil kL 29 W trivial
set_option maxHeartbeats 2000000 in
set_option maxRecDepth 100000 in
theorem copy_calls (A : Option Addr) (c : Nat) (ls : List (List S38)) (w : World) (hF : Kd.F kL w (fun k => k < w.heap.size) A ls.length ls) (hl : ls.length ≤ 1000) :
    Calls Try.prog 46 #[.slice A ls.length c] w fun e w' => ∃ v, e = .returned v ∧ Kd.N kL 29 w' w.heap.size (fun _ => True) v ls ∧ Below w.heap.size w w' := by
  cases A with
  | none =>
    have h0 : ls = [] := by
      cases ls with
      | nil => rfl
      | cons x xs =>
        obtain ⟨ad, h, _⟩ := (Kd.F_now hF).2.2 (by simp)
        simp at h
    subst h0
    clear hF
    have heq := fun W : World => Lib.run_eql_slice_nil (P := Try.prog) W 22 29 none 0 c 0 0 (by kernel_rfl)
    go_enter Try.func46, Try.ntmps46
    go_wp2
    go_ret
    exact ⟨_, rfl, Kd.N_nil _ _ _ _ _, Below.refl _ _⟩
  | some ad =>
    have heq := fun W : World => Lib.run_eql_slice_nil (P := Try.prog) W 22 29 (some ad) ls.length c 0 0 (by kernel_rfl)
    have HF := Lib.hid hF
    clear hF
    go_enter Try.func46, Try.ntmps46
    go_wp2_with (first
      | (at_builtin; refine Kd.N_append_rows (w0 := w) kL w.heap.size rfl (.tmp 5) (.tmp 6) 22 29 _ _ rfl (by kernel_rfl) infoL rfl (by decide) (by decide) (.slice (some ⟨w.heap.size, 0, none⟩) 0 0) [] ls (some ad) ls.length c (fun _ => True) (fun k => k < w.heap.size) rfl rfl (Kd.N_mono (Kd.R_N (RL_nil w)) (fun _ _ => trivial)) (Kd.F_alloc HF.out _) (fun k hk => ⟨trivial, by simp [Value.ownBlock]; omega⟩) (fun _ _ => trivial) (below_alloc (Below.refl _ _) _) (by simp) (by simp; omega) ?_; intro v1 w1 hN1 hb1 _ _; rw [List.nil_append] at hN1; have HN1 := Lib.hid hN1; have HB1 := Lib.hid hb1; clear hN1 hb1))
    go_ret
    exact ⟨_, rfl, HN1.out, HB1.out⟩
end Go.Proofs.Ytgoidimipchejaa.Mg
