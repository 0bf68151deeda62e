/- Layer 14: the statement MergeParts, walked; no condition beyond what a value's form says. -/
import Derived.Test.YtgoidimipchejaaMgN
import Derived.IntWalk
namespace Go.Proofs.Ytgoidimipchejaa.Mg
open Go.RowKit Go.Proofs.Ytgoidimipchejaa.PT Go.Proofs.Ytgoidimipchejaa.Tr Go.Proofs.YtgoidimipchejaaW.PrintWords Go.Proofs.YtgoidimipchejaaW.PrintLast Go.Proofs.YtgoidimipchejaaW.PrintMore
set_option linter.unusedVariables false
set_option linter.unusedSimpArgs false
attribute [local go_sem ↓] Go.wp_at_zero Go.wp_at_succ

/-! ### plain -/
theorem selF (l : List S38) : selL false l = l := List.filter_eq_self.2 (by simp)
theorem sorted_conv : ∀ (l : List S38) (p : Option S38), Tr.Ord l → (∀ x ∈ l, mayB x = true) → (∀ q, p = some q → ∀ x ∈ l, kOf q < kOf x) → sortedFrom p l = true
  | [], p, _, _, _ => by cases p <;> rfl
  | x :: l, p, ho, hm, hp => by
    obtain ⟨h1, h2⟩ := List.pairwise_cons.1 ho
    have ih := sorted_conv l (some x) h2 (fun y hy => hm y (by simp [hy])) (fun q hq y hy => by cases hq; exact h1 y hy)
    cases p with
    | none => simp [sortedFrom, hm x (by simp), ih]
    | some q => simp [sortedFrom, hm x (by simp), ih, hp q rfl x (by simp)]
theorem mergeR_mem : ∀ (ls : List (List S38)) (x : S38), x ∈ mergeL ls → ∃ l ∈ ls, x ∈ l
  | [], x, h => by simp [mergeL] at h
  | l :: ls, x, h => by
    have e : mergeL (l :: ls) = l.foldl insL (mergeL ls) := rfl
    rw [e] at h
    have hf : ∀ (l acc : List S38), x ∈ l.foldl insL acc → x ∈ l ∨ x ∈ acc := by
      intro l
      induction l with
      | nil => exact fun acc h => .inr h
      | cons y l ih =>
        intro acc h
        simp only [List.foldl_cons] at h
        rcases ih _ h with h | h
        · exact .inl (by simp [h])
        · rcases insL_mem _ _ _ h with rfl | h
          · exact .inl (by simp)
          · exact .inr h
    rcases hf l _ h with h | h
    · exact ⟨l, by simp, h⟩
    · obtain ⟨l', h1, h2⟩ := mergeR_mem ls x h
      exact ⟨l', by simp [h1], h2⟩
theorem parts (ls : List (List S38)) (k : Nat) (ho : ∀ l ∈ ls, Tr.Ord l) : mergeL (mergeL (ls.take k) :: ls.drop k) = mergeL ls := by
  have h1 := merge_is (ls.take k) (fun l hl => ho l (List.mem_of_mem_take hl))
  have h2 := merge_is (mergeL (ls.take k) :: ls.drop k) (fun l hl => by
    rcases List.mem_cons.1 hl with rfl | hl
    · exact h1.ord
    · exact ho l (List.mem_of_mem_drop hl))
  refine IsM.unique (ls := ls) ⟨h2.ord, fun key => ?_⟩ (merge_is ls ho)
  rw [h2.get key]
  have e : firstL ls key = firstL (ls.take k ++ ls.drop k) key := by rw [List.take_append_drop]
  rw [e]
  unfold firstL at *
  rw [List.findSome?_append, List.findSome?_cons, h1.get key]
  unfold firstL
  cases List.findSome? (fun l => getL l key) (ls.take k) <;> rfl
/-- What is known of the lists, of the first part and of the rest. -/
structure Prt (ls : List (List S38)) (k : Nat) (P : List S38) : Prop where
  lite1 : LiteLs (ls.take k)
  len1 : decide (100 < ((ls.take k).length : Int)) = false
  sort1 : allSorted (ls.take k) = true
  small1 : SmallLs (ls.take k)
  m1 : (mergeL (ls.take k)).length ≤ 100000000
  e1 : selL false (mergeL (ls.take k)) = P
  lite2 : LiteLs ([P] ++ ls.drop k)
  sort2 : allSorted ([P] ++ ls.drop k) = true
  small2 : SmallLs ([P] ++ ls.drop k)
  m2 : (mergeL ([P] ++ ls.drop k)).length ≤ 100000000
  e2 : selL true (mergeL ([P] ++ ls.drop k)) = selL true (mergeL ls)
  lite3 : LiteLs ls
  len3 : decide (100 < (ls.length : Int)) = false
  sort3 : allSorted ls = true
  small3 : SmallLs ls
  m3 : (mergeL ls).length ≤ 100000000
  same : garnerref10_Same.f 10000 (selL true (mergeL ls)) (selL true (mergeL ls)) = some true
theorem prt (ls : List (List S38)) (k : Nat) (h : Lt ls) (h1 : decide (100 < (ls.length : Int)) = false) (hs : allSorted ls = true) : Prt ls k (mergeL (ls.take k)) := by
  have hlen := h.len
  have h1' : ls.length ≤ 100 := by have := of_decide_eq_false h1; omega
  have hso := sorted_all hs
  have hm := merge_len ls 30 h.each
  have hmt := merge_len (ls.take k) 30 (fun l hl => h.each l (List.mem_of_mem_take hl))
  have htl : (ls.take k).length ≤ ls.length := List.length_take_le' _ _
  have hdl : (ls.drop k).length ≤ ls.length := by rw [List.length_drop]; omega
  have e0 := parts ls k (fun l hl => (hso l hl).1)
  have hP := merge_is (ls.take k) (fun l hl => (hso l (List.mem_of_mem_take hl)).1)
  have hsm : SmallLs ls := fun l hl x hx => by have := (h.small l hl x hx).2; omega
  have hlt : LiteLs ls := ⟨by omega, fun l hl => by have := h.each l hl; omega⟩
  have hmem : ∀ x ∈ mergeL (ls.take k), ∃ l ∈ ls, x ∈ l := fun x hx => by
    obtain ⟨l, hl, hxl⟩ := mergeR_mem _ x hx
    exact ⟨l, List.mem_of_mem_take hl, hxl⟩
  refine ⟨⟨by omega, fun l hl => hlt.2 l (List.mem_of_mem_take hl)⟩, decide_eq_false (by omega), ?_, fun l hl => hsm l (List.mem_of_mem_take hl), by omega, selF _, ⟨by simp only [List.length_append, List.length_cons, List.length_nil]; omega, ?_⟩, ?_, ?_, ?_, ?_, hlt, h1, hs, hsm, by omega, ?_⟩
  · exact List.all_eq_true.2 fun l hl => List.all_eq_true.1 hs l (List.mem_of_mem_take hl)
  · intro l hl
    rcases List.mem_append.1 hl with hl | hl
    · rw [List.mem_singleton.1 hl]; omega
    · exact hlt.2 l (List.mem_of_mem_drop hl)
  · refine List.all_eq_true.2 fun l hl => ?_
    rcases List.mem_append.1 hl with hl | hl
    · rw [List.mem_singleton.1 hl]
      exact sorted_conv _ none hP.ord (fun x hx => by obtain ⟨l', hl', hx'⟩ := hmem x hx; exact (hso l' hl').2 x hx') (fun q hq => by cases hq)
    · exact List.all_eq_true.1 hs l (List.mem_of_mem_drop hl)
  · intro l hl x hx
    rcases List.mem_append.1 hl with hl | hl
    · rw [List.mem_singleton.1 hl] at hx
      obtain ⟨l', hl', hx'⟩ := hmem x hx
      exact hsm l' hl' x hx'
    · exact hsm l (List.mem_of_mem_drop hl) x hx
  · rw [show [mergeL (ls.take k)] ++ ls.drop k = mergeL (ls.take k) :: ls.drop k from rfl, e0]; omega
  · rw [show [mergeL (ls.take k)] ++ ls.drop k = mergeL (ls.take k) :: ls.drop k from rfl, e0]
  · refine Same_f 10000 _ ?_ ?_ (fun x hx => ?_)
    · have : (selL true (mergeL ls)).length ≤ (mergeL ls).length := List.length_filter_le _ _
      omega
    · have : (selL true (mergeL ls)).length ≤ (mergeL ls).length := List.length_filter_le _ _
      omega
    · obtain ⟨l, hl, hxl⟩ := mergeR_mem ls x (List.mem_filter.1 hx).1
      have := (h.small l hl x hxl).2
      omega
theorem light14_callsR (k : Nat) (A0 : Option Addr) (c0 : Nat) (ls : List (List S38)) (r : Bool) (w : World) (hC : Kd.C kL w A0 ls.length ls) (hc : ls.length ≤ c0) (h : garnerlaw14_light.f k ls = some r) :
    Calls Try.prog 12 #[.slice A0 ls.length c0] w fun e w' => e = .returned (.bool r) ∧ Below w.heap.size w w' :=
  (garnerlaw14_light.calls k A0 c0 ls r w hC hc h).mono fun e w' h => ⟨h.1, h.2.below⟩
set_option maxHeartbeats 2000000 in
set_option maxRecDepth 100000 in
theorem parts_dark (A0 : Option Addr) (c0 : Nat) (ls : List (List S38)) (z : Int) (w : World) (hC : Kd.C kL w A0 ls.length ls) (hc : ls.length ≤ c0) (hb : garnerlaw14_light.f 1000 ls = some false) :
    Calls Try.prog 4 #[.slice A0 ls.length c0, .int .u8 z] w fun e w' => e = .returned (.bool true) ∧ Below w.heap.size w w' := by
  have HC := Lib.hid hC
  have HL := Lib.hid hb
  clear hC hb
  go_enter Try.func4, Try.ntmps4
  go_wp2_with (first
    | (go_at_call 12; refine (light14_callsR 1000 A0 c0 ls _ _ HC.out hc HL.out).mono ?_; rintro e w1 ⟨rfl, hb1⟩; have HB1 := Lib.hid hb1; clear hb1)
    | (go_at_call 14; refine (awake14_calls _).mono ?_; rintro e w9 ⟨rfl, hb9⟩; have HB9 := Lib.hid (below_step HB1.out hb9); clear hb9))
  go_ret
  exact ⟨rfl, HB9.out⟩
set_option maxHeartbeats 2000000 in
set_option maxRecDepth 100000 in
theorem parts_no (A0 : Option Addr) (c0 : Nat) (ls : List (List S38)) (z : Int) (w : World) (hC : Kd.C kL w A0 ls.length ls) (hc : ls.length ≤ c0) (hb : garnerlaw14_light.f 1000 ls = some true) (hm : garnerref14_May.f 10000 ls = some false) :
    Calls Try.prog 4 #[.slice A0 ls.length c0, .int .u8 z] w fun e w' => e = .returned (.bool true) ∧ Below w.heap.size w w' := by
  have HC := Lib.hid hC
  have HL := Lib.hid hb
  have HM := Lib.hid hm
  clear hC hb hm
  go_enter Try.func4, Try.ntmps4
  go_wp2_with (first
    | (go_at_call 12; refine (light14_callsR 1000 A0 c0 ls _ _ HC.out hc HL.out).mono ?_; rintro e w1 ⟨rfl, hb1⟩; have HB1 := Lib.hid hb1; clear hb1)
    | (go_at_call 13; refine (garnerref14_May.calls 10000 A0 c0 ls false _ (Kd.C_below HC.out HB1.out) hc HM.out).mono ?_; rintro e w3 ⟨rfl, hb3⟩; have HB3 := Lib.hid (below_step HB1.out hb3); clear hb3)
    | (go_at_call 14; refine (awake14_calls _).mono ?_; rintro e w9 ⟨rfl, hb9⟩; have HB9 := Lib.hid (below_step HB3.out hb9); clear hb9))
  go_ret
  exact ⟨rfl, HB9.out⟩
set_option maxHeartbeats 4000000 in
set_option maxRecDepth 100000 in
theorem parts_yes (A0 : Option Addr) (c0 : Nat) (ls : List (List S38)) (z : Int) (w : World) (hC : Kd.C kL w A0 ls.length ls) (hc : ls.length ≤ c0) (hb : garnerlaw14_light.f 1000 ls = some true) (hm : garnerref14_May.f 10000 ls = some true) (k : Nat) (P : List S38) (hp : Prt ls k P) (z0 : 0 ≤ z) (z1 : z ≤ 255) (hk : z % ((ls.length : Int) + 1) = (k : Int)) (two : ∀ (A : Option Addr) (c : Nat) (W : World), Kd.C kL W A ([P] ++ ls.drop k).length ([P] ++ ls.drop k) → ([P] ++ ls.drop k).length ≤ c → Calls Try.prog 20 #[.slice A ([P] ++ ls.drop k).length c, .bool true] W fun e w' => ∃ v r, e = .returned (.tuple #[v, .int .i64 r]) ∧ Below W.heap.size W w' ∧ (ls.length < 100 → r = 0 ∧ Kd.N k38 38 w' W.heap.size (fun k => W.heap.size ≤ k) v (selL true (mergeL ls)))) :
    Calls Try.prog 4 #[.slice A0 ls.length c0, .int .u8 z] w fun e w' => e = .returned (.bool true) ∧ Below w.heap.size w w' := by
  have HC := Lib.hid hC
  have HL := Lib.hid hb
  have HM := Lib.hid hm
  have HP := Lib.hid hp
  have hl : ls.length ≤ 100 := by have := of_decide_eq_false hp.len3; omega
  have hkl : k ≤ ls.length := by
    have := Int.emod_lt_of_pos z (show (0 : Int) < (ls.length : Int) + 1 by omega)
    omega
  have HK := Lib.hid hk
  have HKL := Lib.hid hkl
  have e1 : IntKind.i64.wrap ((ls.length : Int) + 1) = (ls.length : Int) + 1 := IntWalk.i64_in _ ⟨by omega, by omega⟩
  have e2 : IntKind.i64.wrap z = z := IntWalk.i64_in _ ⟨by omega, by omega⟩
  have e3 : ¬ ((ls.length : Int) + 1 = 0) := by omega
  have e4 : (0 : Int) < (ls.length : Int) + 1 := by omega
  clear hC hb hm hp hk hkl
  go_enter Try.func4, Try.ntmps4
  go_upto_region 4 with (first
    | (go_at_call 12; refine (light14_callsR 1000 A0 c0 ls _ _ HC.out hc HL.out).mono ?_; rintro e w1 ⟨rfl, hb1⟩; have HB1 := Lib.hid hb1; clear hb1)
    | (go_at_call 13; refine (garnerref14_May.calls 10000 A0 c0 ls true _ (Kd.C_below HC.out HB1.out) hc HM.out).mono ?_; rintro e w3 ⟨rfl, hb3⟩; have HB3 := Lib.hid (below_step HB1.out hb3); clear hb3))
  rw [HK.out]
  have k1 := HKL.out
  have f1 : (k : Int) ≤ (c0 : Int) := by omega
  have f2 : (k : Int) ≤ (ls.length : Int) := by omega
  have f3 : (0 : Int) ≤ (k : Int) := by omega
  have hF : Kd.F kL w3 (fun k => k < w3.heap.size) A0 ls.length ls := (Kd.heap_slice 38 k38_heap) |> fun h => Kd.C_F h (Kd.C_below HC.out HB3.out)
  have HF1 : Hid (Kd.C kL w3 A0 k (ls.take k)) := Lib.hid (by have h := Kd.C_take (m := k) (Kd.C_below HC.out HB3.out) k1; rwa [List.length_take, Nat.min_eq_left k1] at h)
  have HTL : Hid ((ls.take k).length = k) := Lib.hid (by rw [List.length_take, Nat.min_eq_left k1])
  have HF := Lib.hid hF
  clear hF e1 e2 e3 e4
  go_upto_region 5 with (first
    | (go_at_call 20; refine (show Calls Try.prog 20 #[.slice A0 k c0, .bool false] w3 _ from HTL.out ▸ all_yes A0 c0 (ls.take k) false w3 (HTL.out.symm ▸ HF1.out) (by have := HTL.out; omega) HP.out.lite1 HP.out.len1 HP.out.sort1 HP.out.small1 HP.out.m1).mono ?_; rintro e w4 ⟨v4, rfl, hN4, hb4⟩; rw [HP.out.e1] at hN4; obtain ⟨A4, c4, rfl⟩ := Kd.N_slice hN4; have HN4 := Lib.hid hN4; have HF4 := Lib.hid (Kd.F_below HF.out hb4); have HB4 := Lib.hid (below_step HB3.out hb4); clear hN4 hb4))
  have hPc : P.length ≤ c4 := (Kd.N_reads' HN4.out).2.1
  have HFP : Hid (Kd.F k38 w4 (fun k => k < w4.heap.size) A4 P.length P) := Lib.hid (Kd.F_mono (Kd.F_bound (Kd.N_F HN4.out)) (fun k hk => hk.2))
  have HFK : Hid (Kd.FK kL w4 (fun k => k < w4.heap.size) P [.slice A4 P.length c4]) := Lib.hid (Kd.FK_slice_mk hPc HFP.out)
  have hdl : (ls.drop k).length = ls.length - k := List.length_drop
  have HF2 := Lib.hid (Kd.F_cut (m := k) (c := c0) (Kd.F_mono (Kd.F_bound HF4.out) (fun k hk => hk.2)) k1 hc)
  have HTW := Lib.hid two
  clear two
  rw [hdl] at HF2
  generalize hD : ls.drop k = D at HF2 HTW
  clear hD hdl
  have hks : k * kL.sz = k := Nat.mul_one k
  rw [hks] at HF2
  clear hks
  cases A0 with
  | none =>
    simp only [Option.map_none, ite_self] at HF2
    go_upto_region 6 with (first
      | ((with_reducible refine gate_dst (N := 36) rfl ?_); (try (refine gate_guard (by rfl) ?_; dsimp only)); refine Kd.N_lit (w0 := w4) kL w4.heap.size 29 ?hg (N' := 36) ?hd (xs := [P]) (inner := [.slice A4 P.length c4]) (ok := fun _ => True) (okp := fun k => k < w4.heap.size) ?hr ?hp (fun _ _ => trivial) trivial (Below.refl _ _) (Nat.le_refl _) (by simp) ?_; (case hd => rfl); (case hg => rfl); (case hr => first | (go_simp; done) | (go_simp; rfl)); (case hp => exact ⟨rfl, fun j p hj => by (match j, hj with | 0, hj => simp at hj; subst hj; exact HFK.out)⟩); intro v5 w5 hN5 hb5 _ hnew; obtain ⟨A5, c5, rfl⟩ := Kd.N_slice hN5; have HN5 := Lib.hid hN5; have HF5 := Lib.hid (Kd.F_below HF2.out hb5); have HNW := Lib.hid hnew; have hs5 := hb5.size; have HBN5 := Lib.hid hb5; clear hN5 hb5 hnew)
      | (at_builtin; go_loud (refine Kd.N_append_rows (w0 := w4) kL w4.heap.size rfl (.tmp 36) (.tmp 39) 22 29 _ _ rfl (by kernel_rfl) infoL rfl (by decide) (by decide) (.slice A5 1 c5) [P] D none (ls.length - k) (c0 - k) (fun _ => True) (fun k => k < w4.heap.size) rfl rfl HN5.out HF5.out (fun k hk => ⟨trivial, fun he => by obtain ⟨b, h1, h2⟩ := HNW.out; simp only [List.length_cons, List.length_nil] at h1; rw [h1] at he; injection he with he; omega⟩) (fun _ _ => trivial) HBN5.out hs5 (by simp; omega) ?_; intro v6 w6 hN6 hb6 _ _; obtain ⟨A6, c6, rfl⟩ := Kd.N_slice hN6; have HN6 := Lib.hid hN6; have HB6 := Lib.hid (below_step HB4.out hb6); clear hN6 hb6))
      | (go_at_call 20; go_loud (refine (HTW.out A6 c6 w6 (Kd.N_reads' HN6.out).2.2 (Kd.N_reads' HN6.out).2.1).mono ?_; rintro e w7 ⟨v7, r7, rfl, hb7, hs7⟩; have HB7 := Lib.hid (below_step HB6.out hb7); have HS7 := Lib.hid hs7; clear hb7 hs7)))
    by_cases hge : ls.length < 100
    · obtain ⟨rfl, hN7⟩ := HS7.out hge
      obtain ⟨A7, c7, rfl⟩ := Kd.N_slice hN7
      have HN7 := Lib.hid hN7
      have g1 : decide ((100 : Int) ≤ (ls.length : Int)) = false := decide_eq_false (by omega)
      have g2 : decide (100 ≤ ls.length) = false := decide_eq_false (by omega)
      clear hN7 hge HS7
      go_wp2_with (first
        | (go_at_call 20; refine (all_yes none c0 ls true _ (Kd.C_below HC.out HB7.out) hc HP.out.lite3 HP.out.len3 HP.out.sort3 HP.out.small3 HP.out.m3).mono ?_; rintro e w8 ⟨v8, rfl, hN8, hb8⟩; have HM7 := Lib.hid (Kd.N_below HN7.out hb8); obtain ⟨A8, c8, rfl⟩ := Kd.N_slice hN8; have HN8 := Lib.hid hN8; have HB8 := Lib.hid (below_step HB7.out hb8); clear hN8 hb8)
        | (go_at_call 21; refine (garnerref10_Same.calls 10000 A7 c7 _ A8 c8 _ true _ (Kd.N_reads' HM7.out).2.2 (Kd.N_reads' HM7.out).2.1 (Kd.N_reads' HN8.out).2.2 (Kd.N_reads' HN8.out).2.1 HP.out.same).mono ?_; rintro e w5 ⟨rfl, hb5⟩; have HB5 := Lib.hid (below_step HB8.out hb5); clear hb5)
        | (go_at_call 14; refine (awake14_calls _).mono ?_; rintro e w9 ⟨rfl, hb9⟩; have HB9 := Lib.hid (below_step HB5.out hb9); clear hb9))
      all_goals (
        go_ret
        exact ⟨rfl, HB9.out⟩)
    · have g1 : decide ((100 : Int) ≤ (ls.length : Int)) = true := decide_eq_true (by omega)
      have g2 : decide (100 ≤ ls.length) = true := decide_eq_true (by omega)
      clear hge HS7
      go_wp2_with (first
        | (go_at_call 20; refine (all_yes none c0 ls true _ (Kd.C_below HC.out HB7.out) hc HP.out.lite3 HP.out.len3 HP.out.sort3 HP.out.small3 HP.out.m3).mono ?_; rintro e w8 ⟨v8, rfl, hN8, hb8⟩; obtain ⟨A8, c8, rfl⟩ := Kd.N_slice hN8; have HN8 := Lib.hid hN8; have HB8 := Lib.hid (below_step HB7.out hb8); clear hN8 hb8)
        | (go_at_call 14; refine (awake14_calls _).mono ?_; rintro e w9 ⟨rfl, hb9⟩; have HB9 := Lib.hid (below_step HB8.out hb9); clear hb9))
      all_goals (
        go_ret
        exact ⟨rfl, HB9.out⟩)
  | some ad =>
    simp only [Option.map_some] at HF2
    go_upto_region 6 with (first
      | ((with_reducible refine gate_dst (N := 36) rfl ?_); (try (refine gate_guard (by rfl) ?_; dsimp only)); refine Kd.N_lit (w0 := w4) kL w4.heap.size 29 ?hg (N' := 36) ?hd (xs := [P]) (inner := [.slice A4 P.length c4]) (ok := fun _ => True) (okp := fun k => k < w4.heap.size) ?hr ?hp (fun _ _ => trivial) trivial (Below.refl _ _) (Nat.le_refl _) (by simp) ?_; (case hd => rfl); (case hg => rfl); (case hr => first | (go_simp; done) | (go_simp; rfl)); (case hp => exact ⟨rfl, fun j p hj => by (match j, hj with | 0, hj => simp at hj; subst hj; exact HFK.out)⟩); intro v5 w5 hN5 hb5 _ hnew; obtain ⟨A5, c5, rfl⟩ := Kd.N_slice hN5; have HN5 := Lib.hid hN5; have HF5 := Lib.hid (Kd.F_below HF2.out hb5); have HNW := Lib.hid hnew; have hs5 := hb5.size; have HBN5 := Lib.hid hb5; clear hN5 hb5 hnew)
      | (at_builtin; go_loud (refine Kd.N_append_rows (w0 := w4) kL w4.heap.size rfl (.tmp 36) (.tmp 39) 22 29 _ _ rfl (by kernel_rfl) infoL rfl (by decide) (by decide) (.slice A5 1 c5) [P] D (if c0 = k then some ad else some (ad.add k)) (ls.length - k) (c0 - k) (fun _ => True) (fun k => k < w4.heap.size) rfl rfl HN5.out HF5.out (fun k hk => ⟨trivial, fun he => by obtain ⟨b, h1, h2⟩ := HNW.out; simp only [List.length_cons, List.length_nil] at h1; rw [h1] at he; injection he with he; omega⟩) (fun _ _ => trivial) HBN5.out hs5 (by simp; omega) ?_; intro v6 w6 hN6 hb6 _ _; obtain ⟨A6, c6, rfl⟩ := Kd.N_slice hN6; have HN6 := Lib.hid hN6; have HB6 := Lib.hid (below_step HB4.out hb6); clear hN6 hb6))
      | (go_at_call 20; go_loud (refine (HTW.out A6 c6 w6 (Kd.N_reads' HN6.out).2.2 (Kd.N_reads' HN6.out).2.1).mono ?_; rintro e w7 ⟨v7, r7, rfl, hb7, hs7⟩; have HB7 := Lib.hid (below_step HB6.out hb7); have HS7 := Lib.hid hs7; clear hb7 hs7)))
    by_cases hge : ls.length < 100
    · obtain ⟨rfl, hN7⟩ := HS7.out hge
      obtain ⟨A7, c7, rfl⟩ := Kd.N_slice hN7
      have HN7 := Lib.hid hN7
      have g1 : decide ((100 : Int) ≤ (ls.length : Int)) = false := decide_eq_false (by omega)
      have g2 : decide (100 ≤ ls.length) = false := decide_eq_false (by omega)
      clear hN7 hge HS7
      go_wp2_with (first
        | (go_at_call 20; refine (all_yes (some ad) c0 ls true _ (Kd.C_below HC.out HB7.out) hc HP.out.lite3 HP.out.len3 HP.out.sort3 HP.out.small3 HP.out.m3).mono ?_; rintro e w8 ⟨v8, rfl, hN8, hb8⟩; have HM7 := Lib.hid (Kd.N_below HN7.out hb8); obtain ⟨A8, c8, rfl⟩ := Kd.N_slice hN8; have HN8 := Lib.hid hN8; have HB8 := Lib.hid (below_step HB7.out hb8); clear hN8 hb8)
        | (go_at_call 21; refine (garnerref10_Same.calls 10000 A7 c7 _ A8 c8 _ true _ (Kd.N_reads' HM7.out).2.2 (Kd.N_reads' HM7.out).2.1 (Kd.N_reads' HN8.out).2.2 (Kd.N_reads' HN8.out).2.1 HP.out.same).mono ?_; rintro e w5 ⟨rfl, hb5⟩; have HB5 := Lib.hid (below_step HB8.out hb5); clear hb5)
        | (go_at_call 14; refine (awake14_calls _).mono ?_; rintro e w9 ⟨rfl, hb9⟩; have HB9 := Lib.hid (below_step HB5.out hb9); clear hb9))
      all_goals (
        go_ret
        exact ⟨rfl, HB9.out⟩)
    · have g1 : decide ((100 : Int) ≤ (ls.length : Int)) = true := decide_eq_true (by omega)
      have g2 : decide (100 ≤ ls.length) = true := decide_eq_true (by omega)
      clear hge HS7
      go_wp2_with (first
        | (go_at_call 20; refine (all_yes (some ad) c0 ls true _ (Kd.C_below HC.out HB7.out) hc HP.out.lite3 HP.out.len3 HP.out.sort3 HP.out.small3 HP.out.m3).mono ?_; rintro e w8 ⟨v8, rfl, hN8, hb8⟩; obtain ⟨A8, c8, rfl⟩ := Kd.N_slice hN8; have HN8 := Lib.hid hN8; have HB8 := Lib.hid (below_step HB7.out hb8); clear hN8 hb8)
        | (go_at_call 14; refine (awake14_calls _).mono ?_; rintro e w9 ⟨rfl, hb9⟩; have HB9 := Lib.hid (below_step HB8.out hb9); clear hb9))
      all_goals (
        go_ret
        exact ⟨rfl, HB9.out⟩)
theorem all_weak (A : Option Addr) (c : Nat) (L : List (List S38)) (R : List S38) (n : Nat) (hn : n < 100 → decide (100 < (L.length : Int)) = false) (hlt : LiteLs L) (hs : allSorted L = true) (hsm : SmallLs L) (hM : (mergeL L).length ≤ 100000000) (hR : selL true (mergeL L) = R) (W : World) (hC : Kd.C kL W A L.length L) (hc : L.length ≤ c) :
    Calls Try.prog 20 #[.slice A L.length c, .bool true] W fun e w' => ∃ v r, e = .returned (.tuple #[v, .int .i64 r]) ∧ Below W.heap.size W w' ∧ (n < 100 → r = 0 ∧ Kd.N k38 38 w' W.heap.size (fun k => W.heap.size ≤ k) v R) := by
  by_cases h : 100 < (L.length : Int)
  · refine (all_no A c L true W hC hc hlt (.inl h)).mono ?_
    rintro e w' ⟨rfl, hb⟩
    exact ⟨_, _, rfl, hb, fun h2 => absurd h (of_decide_eq_false (hn h2))⟩
  · refine (all_yes A c L true W hC hc hlt (decide_eq_false h) hs hsm hM).mono ?_
    rintro e w' ⟨v, rfl, hN, hb⟩
    exact ⟨v, 0, rfl, hb, fun _ => ⟨rfl, hR ▸ hN⟩⟩
/-- The ways of a statement's lists. -/
theorem waysR (ls : List (List S38)) (hm : ls.length ≤ maxLen) (hx : ∀ l ∈ ls, l.length ≤ maxLen) :
    garnerlaw14_light.f 1000 ls = some false ∨ (garnerlaw14_light.f 1000 ls = some true ∧ Lt ls ∧ (garnerref14_May.f 10000 ls = some false ∨ (garnerref14_May.f 10000 ls = some true ∧ decide (100 < (ls.length : Int)) = false ∧ allSorted ls = true))) := by
  unfold maxLen at hm hx
  obtain ⟨b, h1, h2⟩ := light14_f ls 1000 (Nat.le_refl _) (by omega) (fun l hl => by have := hx l hl; omega)
  cases b with
  | false => exact .inl h1
  | true =>
    have hlt := h2 rfl
    refine .inr ⟨h1, hlt, ?_⟩
    have h3 := may14_f ls 10000 (by omega) hlt
    by_cases h4 : (ls.all sortedB && decide (ls.length ≤ 100)) = true
    · rw [h4] at h3
      rw [Bool.and_eq_true, decide_eq_true_eq] at h4
      exact .inr ⟨h3, decide_eq_false (by have := h4.2; omega), h4.1⟩
    · have h5 : (ls.all sortedB && decide (ls.length ≤ 100)) = false := by simpa using h4
      rw [h5] at h3
      exact .inl h3
theorem parts_any {w0 : World} (A0 : Option Addr) (c0 : Nat) (ls : List (List S38)) (hC : Kd.C kL w0 A0 ls.length ls) (hc : ls.length ≤ c0) (hm : ls.length ≤ maxLen) (hx : ∀ l ∈ ls, l.length ≤ maxLen) (z : Int) (hz : (Lit.int .u8 z).wf = true) (w : World) (he : w = w0 := by rfl) :
    Calls Try.prog 4 #[.slice A0 ls.length c0, .int .u8 z] w fun e w' => e = .returned (.bool true) ∧ Below w.heap.size w w' := by
  subst he
  obtain ⟨z0, z1⟩ := by_range hz
  rcases waysR ls hm hx with h | ⟨h1, h2, h3 | ⟨h3, h4, h5⟩⟩
  · exact parts_dark A0 c0 ls z w hC hc h
  · exact parts_no A0 c0 ls z w hC hc h1 h3
  · have hk : z % ((ls.length : Int) + 1) = ((z % ((ls.length : Int) + 1)).toNat : Int) := by
      have := Int.emod_nonneg z (show ((ls.length : Int) + 1) ≠ 0 by omega)
      omega
    have hlt := Int.emod_lt_of_pos z (show (0 : Int) < (ls.length : Int) + 1 by omega)
    generalize (z % ((ls.length : Int) + 1)).toNat = k at hk
    have hp := prt ls k h2 h4 h5
    have hl : ls.length ≤ 100 := by have := of_decide_eq_false h4; omega
    refine parts_yes A0 c0 ls z w hC hc h1 h3 k _ hp z0 z1 hk fun A c W hCW hcW => ?_
    exact all_weak A c _ _ ls.length (fun hn => decide_eq_false (by simp only [List.length_append, List.length_cons, List.length_nil, List.length_drop]; omega)) hp.lite2 hp.sort2 hp.small2 hp.m2 hp.e2 W hCW hcW
end Go.Proofs.Ytgoidimipchejaa.Mg
