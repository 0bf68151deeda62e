/- Layer 14: the statement MergeWalks, walked; no condition beyond what a value's form says. -/
import Derived.Test.YtgoidimipchejaaMgPa
import Derived.Test.YtgoidimipchejaaTrQg
import Derived.IntWalk
import Derived.Deep.RegionHeld3
namespace Go.Proofs.Ytgoidimipchejaa.Mg
open Go.RowKit Go.Proofs.Ytgoidimipchejaa.PT Go.Proofs.Ytgoidimipchejaa.Tr Go.Proofs.YtgoidimipchejaaW.PrintWords Go.Proofs.YtgoidimipchejaaW.PrintLast Go.Proofs.YtgoidimipchejaaW.PrintMore
set_option linter.unusedVariables false
set_option linter.unusedSimpArgs false
attribute [local go_sem ↓] Go.wp_at_zero Go.wp_at_succ

theorem may_key {x : S38} (h : mayB x = true) : ¬ kOf x = [] := by
  intro e
  unfold mayB chkF tree_Check.f at h
  rw [if_pos (show x.f0.toList = ([] : List UInt8) from e)] at h
  simp at h
theorem from14_l0 (key : ByteArray) : ∀ (rest pre : List (List S38)) (k : Nat), rest.length + 4000 < k → (pre ++ rest).length ≤ 1000000 → (∀ l ∈ rest, l.length ≤ 30) → (∀ l ∈ rest, ∀ x ∈ l, ¬ kOf x = []) →
    garnerref14_From.l0 k (pre ++ rest) key (pre.length : Int) = some (match rest.findIdx? (fun l => (getL l key.toList).isSome) with | some i => ((pre.length + i : Nat) : Int) | none => 0)
  | [], pre, k + 1, _, _, _, _ => by simp [garnerref14_From.l0]
  | y :: rest, pre, k + 1, hk, hl, hx, hm => by
    simp only [List.length_cons] at hk
    have ih := from14_l0 key rest (pre ++ [y]) k (by omega) (by simpa using hl) (fun l h => hx l (by simp [h])) (fun l h => hm l (by simp [h]))
    simp only [← append_one, len_one] at ih
    have h1 : (pre.length : Int) < ((pre ++ y :: rest).length : Int) := by simp; omega
    have hw : wrap64 ((pre.length : Int) + 1) = ((pre.length + 1 : Nat) : Int) := wrap_succ _ (by simp at hl; omega)
    have hy := hx y (by simp)
    simp only [garnerref14_From.l0]
    rw [if_pos h1, if_pos (by omega), rdL_mid, hw, get_f y key k (by omega) (by omega), Option.bind_some]
    cases hg : getL y key.toList with
    | none =>
      rw [if_pos (show (tup (Option.getD (none : Option S38) zeroS)).1.toList = ([] : List UInt8) by simp [tup, zeroS]), ih]
      rw [List.findIdx?_cons, hg]
      cases rest.findIdx? (fun l => (getL l key.toList).isSome) with
      | none => rfl
      | some i =>
        show some (((pre.length + 1 + i : Nat)) : Int) = some (((pre.length + (i + 1) : Nat)) : Int)
        rw [Nat.add_assoc, Nat.add_comm 1 i]
    | some x =>
      have hmem : x ∈ y := List.mem_of_find?_eq_some hg
      rw [if_neg (show ¬ (tup ((some x).getD zeroS)).1.toList = ([] : List UInt8) from hm y (by simp) x hmem), List.findIdx?_cons, hg]
      simp
theorem from14_f (ls : List (List S38)) (key : ByteArray) (k : Nat) (hk : 10000 ≤ k) (h : Lt ls) (hm : ∀ l ∈ ls, ∀ x ∈ l, mayB x = true) : garnerref14_From.f k ls key = some (fromI ls key.toList) := by
  have := from14_l0 key ls [] k (by have := h.len; omega) (by have := h.len; simp; omega) h.each (fun l hl x hx => may_key (hm l hl x hx))
  unfold garnerref14_From.f fromI
  simp only [List.nil_append, List.length_nil, Nat.zero_add] at this
  rw [show ((0 : Nat) : Int) = 0 from rfl] at this
  rw [this]
  cases List.findIdx? (fun l => (getL l key.toList).isSome) ls <;> rfl
/-- What is left of a walk behind i items. -/
structure LeftAt (w wr : World) (b0 Bd H : Nat) (ls ls' : List (List S38)) (M : List S38) (A : Option Addr) (c i B : Nat) : Prop where
  st : St wr b0 Bd H ls'
  left : mergeL ls' = M.drop i
  small : SmallLs ls'
  from' : ∀ x ∈ M.drop i, fromI ls' (kOf x) = fromI ls (kOf x)
  row : Kd.N k38 38 wr B (fun k => k < w.heap.size ∨ Bd ≤ k) (.slice A M.length c) M
  below : Below w.heap.size w wr
theorem LeftAt.turn {w wr w' : World} {b0 Bd H : Nat} {ls ls' ls'' : List (List S38)} {M : List S38} {A : Option Addr} {c i B : Nat} {x : S38} {cur : Option S38} {fr : Int} (h : LeftAt w wr b0 Bd H ls ls' M A c i B) (ho : Tr.Ord M) (hb0 : w.heap.size ≤ b0) (hx : M.drop i = x :: M.drop (i + 1))
    (hs : St w' b0 Bd H ls'') (hm : mergeL ls' = cur.toList ++ mergeL ls'') (hn : cur = none → mergeL ls'' = [] ∧ fr = 0 ∧ ls'' = ls') (he : ∀ x, cur = some x → fr = fromI ls' (kOf x) ∧ ls'' = ls'.map (dropHead (kOf x))) (hsm : SmallLs ls'') (hT : Turns wr w' (Its b0 Bd)) :
    cur = some x ∧ fr = fromI ls (kOf x) ∧ LeftAt w w' b0 Bd H ls ls'' M A c (i + 1) B := by
  have hl := h.left
  rw [hx, hm] at hl
  cases cur with
  | none =>
    rw [(hn rfl).1] at hl
    simp at hl
  | some y =>
    simp only [Option.toList_some, List.cons_append, List.nil_append, List.cons.injEq] at hl
    obtain ⟨rfl, hl⟩ := hl
    obtain ⟨e1, e2⟩ := he y rfl
    refine ⟨rfl, by rw [e1, h.from' y (by rw [hx]; simp)], hs, hl, hsm, fun z hz => ?_, Kd.N_step h.row fun k hk hlt => hT.block k hlt fun hi => ?_, h.below.trans (hT.since hb0 h.below.size)⟩
    · have hod : Tr.Ord (M.drop i) := List.Pairwise.sublist (List.drop_sublist i M) ho
      rw [hx] at hod
      have hne : ¬ kOf z = kOf y := fun e => by
        have := (List.pairwise_cons.1 hod).1 z hz
        rw [e] at this
        exact k_irr _ this
      rw [e2, fromI_drop hne]
      exact h.from' z (by rw [hx]; simp [hz])
    · rcases hk with hk | hk
      · have := hi.1; omega
      · have := hi.2; omega
theorem LeftAt.grow {w wr w' : World} {b0 Bd H : Nat} {ls ls' : List (List S38)} {M : List S38} {A : Option Addr} {c i B : Nat} (h : LeftAt w wr b0 Bd H ls ls' M A c i B) (hb : Below wr.heap.size wr w') : LeftAt w w' b0 Bd H ls ls' M A c i B :=
  ⟨h.st.below hb, h.left, h.small, h.from', Kd.N_below h.row hb, below_step h.below hb⟩
set_option maxHeartbeats 2000000 in
set_option maxRecDepth 100000 in
theorem walks_dark (A0 : Option Addr) (c0 : Nat) (ls : List (List S38)) (w : World) (hC : Kd.C kL w A0 ls.length ls) (hc : ls.length ≤ c0) (hb : garnerlaw14_light.f 1000 ls = some false) :
    Calls Try.prog 3 #[.slice A0 ls.length c0] w fun e w' => e = .returned (.bool true) ∧ Below w.heap.size w w' := by
  have HC := Lib.hid hC
  have HL := Lib.hid hb
  clear hC hb
  go_enter Try.func3, Try.ntmps3
  go_wp2_with (first
    | (go_at_call 12; refine (light14_calls 1000 A0 c0 ls _ _ HC.out hc HL.out).mono ?_; rintro e w1 ⟨rfl, hb1⟩; have HB1 := Lib.hid hb1; clear hb1)
    | (go_at_call 14; refine (awake14_calls _).mono ?_; rintro e w9 ⟨rfl, hb9⟩; have HB9 := Lib.hid (below_step HB1.out hb9); clear hb9))
  go_ret
  exact ⟨rfl, HB9.out⟩
set_option maxHeartbeats 2000000 in
set_option maxRecDepth 100000 in
theorem walks_no (A0 : Option Addr) (c0 : Nat) (ls : List (List S38)) (w : World) (hC : Kd.C kL w A0 ls.length ls) (hc : ls.length ≤ c0) (hb : garnerlaw14_light.f 1000 ls = some true) (hm : garnerref14_May.f 10000 ls = some false) :
    Calls Try.prog 3 #[.slice A0 ls.length c0] w fun e w' => e = .returned (.bool true) ∧ Below w.heap.size w w' := by
  have HC := Lib.hid hC
  have HL := Lib.hid hb
  have HM := Lib.hid hm
  clear hC hb hm
  go_enter Try.func3, Try.ntmps3
  go_wp2_with (first
    | (go_at_call 12; refine (light14_calls 1000 A0 c0 ls _ _ HC.out hc HL.out).mono ?_; rintro e w1 ⟨rfl, hb1⟩; have HB1 := Lib.hid hb1; clear hb1)
    | (go_at_call 13; refine (garnerref14_May.calls 10000 A0 c0 ls false _ (Kd.C_below HC.out HB1.out) hc HM.out).mono ?_; rintro e w3 ⟨rfl, hb3⟩; have HB3 := Lib.hid (below_step HB1.out hb3); clear hb3)
    | (go_at_call 14; refine (awake14_calls _).mono ?_; rintro e w9 ⟨rfl, hb9⟩; have HB9 := Lib.hid (below_step HB3.out hb9); clear hb9))
  go_ret
  exact ⟨rfl, HB9.out⟩
set_option maxHeartbeats 4000000 in
set_option maxRecDepth 100000 in
theorem walks_yes (A0 : Option Addr) (c0 : Nat) (ls : List (List S38)) (w : World) (hC : Kd.C kL w A0 ls.length ls) (hc : ls.length ≤ c0) (hb : garnerlaw14_light.f 1000 ls = some true) (hlt : Lt ls) (hm : garnerref14_May.f 10000 ls = some true) (h1 : decide (100 < (ls.length : Int)) = false) (hs : allSorted ls = true) :
    Calls Try.prog 3 #[.slice A0 ls.length c0] w fun e w' => e = .returned (.bool true) ∧ Below w.heap.size w w' := by
  have HC := Lib.hid hC
  have HL := Lib.hid hb
  have HM := Lib.hid hm
  have hML := merge_len ls 30 hlt.each
  have hlen := hlt.len
  have HF := Lib.hid (Kd.C_F (Kd.heap_slice 38 k38_heap) hC)
  have hso := sorted_all hs
  have HAF := Lib.hid (all14_f ls false 400000 hlt (fun l hl => (hso l hl).1) (by omega))
  rw [sel_MM] at HAF
  have hfil : selL false (mergeL ls) = mergeL ls := List.filter_eq_self.2 (by simp)
  rw [hfil] at HAF
  have HFR : Hid (∀ key : ByteArray, garnerref14_From.f 10000 ls key = some (fromI ls key.toList)) := Lib.hid (fun key => from14_f ls key 10000 (Nat.le_refl _) hlt (fun l hl => (hso l hl).2))
  have HBG := Lib.hid (fun W h => begin_st A0 c0 ls W h hc hlt.lite h1 hs)
  have HSM := Lib.hid hlt.small2
  have HOM : Hid (Tr.Ord (mergeL ls)) := Lib.hid (merge_is ls (fun l hl => (hso l hl).1)).ord
  have HXB : Hid (∀ x ∈ mergeL ls, x.f2.f1.length ≤ 900) := Lib.hid (fun x hx => by
    obtain ⟨l, hl, hxl⟩ := merge_mem ls x hx
    have := (hlt.small l hl x hxl).2
    omega)
  generalize hR : mergeL ls = M at *
  have HR := Lib.hid hR
  have hMl : M.length ≤ 3300 := by omega
  clear hC hb hm hlt hs hR h1 hML hlen hso hfil
  go_enter Try.func3, Try.ntmps3
  go_wp2_with (first
    | (go_at_call 12; refine (light14_calls 1000 A0 c0 ls _ _ HC.out hc HL.out).mono ?_; rintro e w1 ⟨rfl, hb1⟩; have HB1 := Lib.hid hb1; clear hb1)
    | (go_at_call 13; refine (garnerref14_May.calls 10000 A0 c0 ls true _ (Kd.C_below HC.out HB1.out) hc HM.out).mono ?_; rintro e w2 ⟨rfl, hb2⟩; have HB2 := Lib.hid (below_step HB1.out hb2); clear hb2)
    | (go_at_call 15; refine (HBG.out _ (Kd.C_below HC.out HB2.out)).mono ?_; rintro e w3 ⟨HH, rfl, hS3, hb3⟩; have HS3 := Lib.hid hS3; have HB3 := Lib.hid (below_step HB2.out hb3); have hs2 := HB2.out.size; have hs3 := hb3.size; clear hS3 hb3)
    | (go_at_call 16; refine (garnerref14_All.calls 400000 (fun k => k < w.heap.size) A0 c0 ls false M _ (Kd.V_mk hc (Kd.F_below HF.out HB3.out)) HAF.out).mono ?_; rintro e w4 ⟨v4, rfl, hN4, hb4⟩; obtain ⟨A4, c4, rfl⟩ := Kd.N_slice hN4; have HN4 := Lib.hid hN4; have HB34 := Lib.hid hb4; have HB4 := Lib.hid (below_step HB3.out hb4); clear hN4 hb4))
  have hs34 := HB34.out.size
  have HLA : Hid (LeftAt w w4 w2.heap.size w3.heap.size HH ls ls M A4 c4 0 w3.heap.size) := Lib.hid ⟨HS3.out.below HB34.out, HR.out, HSM.out, fun _ _ => rfl, HN4.out, HB4.out⟩
  generalize hBd : w3.heap.size = Bd at *
  clear HS3 HN4 HB34 hBd
  go_loopg [6] M.length (fun kq v wr => ∃ (i : Nat) (z : Int) (ls' : List (List S38)), v = .int .i64 z ∧ Aside0 (z = (i : Int)) ∧ Aside0 (i + kq = M.length) ∧ Aside0 (LeftAt w wr w2.heap.size Bd HH ls ls' M A4 c4 i Bd))
  case atStart => exact ⟨0, 0, ls, rfl, ⟨rfl⟩, ⟨by omega⟩, ⟨HLA.out⟩⟩
  case round =>
    clear HLA HB4
    obtain ⟨i, z, ls', rfl, hz, hi, hA⟩ := hrel
    have HZ := Lib.hid hz.out
    have HI := Lib.hid hi.out
    have HA := Lib.hid hA.out
    by_cases hlt : i < M.length
    · have p1 : 0 ≤ z := by have := hz.out; omega
      have q1 : z < (M.length : Int) := by have := hz.out; omega
      have d1 : decide (z < (M.length : Int)) = true := decide_eq_true q1
      have hrd : rd_T38 M z = M[i] := by rw [hz.out]; simp [rd_T38, hlt]
      have HXD : Hid (M.drop i = rd_T38 M z :: M.drop (i + 1)) := Lib.hid (by rw [hrd]; exact List.drop_eq_getElem_cons hlt)
      have HXM : Hid ((rd_T38 M z).f2.f1.length ≤ 900) := Lib.hid (by rw [hrd]; exact HXB.out _ (List.getElem_mem hlt))
      have HP1 := Lib.hid p1
      have HQ1 := Lib.hid q1
      clear hz hi hA hrd hlt
      go_upto_region 11 with (first
        | (go_at_call 17; refine (next_q _ w2.heap.size Bd HH ls' HA.out.st HA.out.small).mono ?_; rintro e w5 ⟨cur, ls'', A', c', fr, rfl, ⟨hc5, hF5⟩, hS5, hm5, hn5, hy5, hsm5, hT5⟩; obtain ⟨rfl, rfl, hL5⟩ := HA.out.turn HOM.out hs2 HXD.out hS5 hm5 hn5 hy5 hsm5 hT5; simp only [Option.getD_some] at hc5 hF5 ⊢; have HL5 := Lib.hid hL5; have HC5 := Lib.hid (Kd.F_now hF5); have hc5 := hc5; clear hF5 hS5 hm5 hn5 hy5 hsm5 hT5 hL5; unfold itemCells))
      have HL6 := Lib.hid (HL5.out.grow (below_alloc (Below.refl _ _) (.cells #[.string (rd_T38 M z).f0, .bool (rd_T38 M z).f1, .bool (rd_T38 M z).f2.f0, .slice A' (rd_T38 M z).f2.f1.length c', .int .i64 (rd_T38 M z).f2.f2.f0, .int .i64 (rd_T38 M z).f2.f2.f1, .int .i64 (rd_T38 M z).f2.f2.f2, .int .u32 (rd_T38 M z).f2.f2.f3] 38)))
      have HC6 := Lib.hid (Kd.C_alloc HC5.out (.cells #[.string (rd_T38 M z).f0, .bool (rd_T38 M z).f1, .bool (rd_T38 M z).f2.f0, .slice A' (rd_T38 M z).f2.f1.length c', .int .i64 (rd_T38 M z).f2.f2.f0, .int .i64 (rd_T38 M z).f2.f2.f1, .int .i64 (rd_T38 M z).f2.f2.f2, .int .u32 (rd_T38 M z).f2.f2.f3] 38))
      have hX6 := heap_alloc_new w5 (.cells #[.string (rd_T38 M z).f0, .bool (rd_T38 M z).f1, .bool (rd_T38 M z).f2.f0, .slice A' (rd_T38 M z).f2.f1.length c', .int .i64 (rd_T38 M z).f2.f2.f0, .int .i64 (rd_T38 M z).f2.f2.f1, .int .i64 (rd_T38 M z).f2.f2.f2, .int .u32 (rd_T38 M z).f2.f2.f3] 38)
      generalize w5.alloc (.cells #[.string (rd_T38 M z).f0, .bool (rd_T38 M z).f1, .bool (rd_T38 M z).f2.f0, .slice A' (rd_T38 M z).f2.f1.length c', .int .i64 (rd_T38 M z).f2.f2.f0, .int .i64 (rd_T38 M z).f2.f2.f1, .int .i64 (rd_T38 M z).f2.f2.f2, .int .u32 (rd_T38 M z).f2.f2.f3] 38) = w6 at *
      generalize w5.heap.size = B6 at *
      obtain ⟨b0, b1, b2, b3, b4, b5, b6, b7⟩ := cells8 hX6
      have hB6 := lt_of_block hX6
      obtain ⟨ad, A3, c3, eA, x0, x1, x2, x3, x4, x5, x6, x7, hl3, hi3⟩ := at_T38 (Kd.N_reads' HL6.out.row).2.2 z p1 q1
      cases eA
      have HC3 := Lib.hid hi3
      have hadb : (ad.add (z.toNat * 8)).block < w6.heap.size := World.block_lt_of_cell? w6 (ad.add (z.toNat * 8)) x0
      have HON : Hid (oneF 10000 (rd_T38 M z) (rd_T38 M z) = some true) := Lib.hid (one_self 10000 _ (by have := HXM.out; omega) (by have := HXM.out; omega))
      have HFQ := Lib.hid (HFR.out (rd_T38 M z).f0)
      have p2 := eq_true p1
      have q2 := eq_true q1
      clear hX6 hi3 HL5 HC5
      generalize hq : rd_T38 M z = q at *
      rw [show kOf q = q.f0.toList from rfl]
      generalize fromI ls q.f0.toList = fq at HFQ ⊢
      clear hq
      go_region_held3 (fun w' => w'.cell? ⟨B6, 0, none⟩ = some (.string q.f0) ∧ w'.cell? ⟨B6, 1, none⟩ = some (.bool q.f1) ∧ w'.cell? ⟨B6, 2, none⟩ = some (.bool q.f2.f0) ∧ w'.cell? ⟨B6, 3, none⟩ = some (.slice A' q.f2.f1.length c') ∧ w'.cell? ⟨B6, 4, none⟩ = some (.int .i64 q.f2.f2.f0) ∧ w'.cell? ⟨B6, 5, none⟩ = some (.int .i64 q.f2.f2.f1) ∧ w'.cell? ⟨B6, 6, none⟩ = some (.int .i64 q.f2.f2.f2) ∧ w'.cell? ⟨B6, 7, none⟩ = some (.int .u32 q.f2.f2.f3) ∧ w'.cell? (ad.add (z.toNat * 8)) = some (.string q.f0) ∧ w'.cell? ⟨(ad.add (z.toNat * 8)).block, (ad.add (z.toNat * 8)).off + 1, none⟩ = some (.bool q.f1) ∧ w'.cell? ⟨(ad.add (z.toNat * 8)).block, (ad.add (z.toNat * 8)).off + 2, none⟩ = some (.bool q.f2.f0) ∧ w'.cell? ⟨(ad.add (z.toNat * 8)).block, (ad.add (z.toNat * 8)).off + 3, none⟩ = some (.slice A3 q.f2.f1.length c3) ∧ w'.cell? ⟨(ad.add (z.toNat * 8)).block, (ad.add (z.toNat * 8)).off + 4, none⟩ = some (.int .i64 q.f2.f2.f0) ∧ w'.cell? ⟨(ad.add (z.toNat * 8)).block, (ad.add (z.toNat * 8)).off + 5, none⟩ = some (.int .i64 q.f2.f2.f1) ∧ w'.cell? ⟨(ad.add (z.toNat * 8)).block, (ad.add (z.toNat * 8)).off + 6, none⟩ = some (.int .i64 q.f2.f2.f2) ∧ w'.cell? ⟨(ad.add (z.toNat * 8)).block, (ad.add (z.toNat * 8)).off + 7, none⟩ = some (.int .u32 q.f2.f2.f3)) ((refine ⟨?_, ?_, ?_, ?_, ?_, ?_, ?_, ?_, ?_, ?_, ?_, ?_, ?_, ?_, ?_, ?_⟩ <;> (first | (rw [hb8.cell (by first | omega | (simp <;> omega))]; go_keep) | (rw [hb7.cell (by first | omega | (simp <;> omega))]; go_keep) | go_keep)))
        (first
          | (go_at_call 18; refine (garnerref10_One.calls 10000 q.f0 q.f1 q.f2.f0 A' c' q.f2.f1 q.f2.f2.f0 q.f2.f2.f1 q.f2.f2.f2 q.f2.f2.f3 q.f0 q.f1 q.f2.f0 A3 c3 q.f2.f1 q.f2.f2.f0 q.f2.f2.f1 q.f2.f2.f2 q.f2.f2.f3 true _ (Kd.C_below HC6.out (Go.Joins.below_draws _ _ 1)) hc5 (Kd.C_below HC3.out (Go.Joins.below_draws _ _ 1)) hl3 HON.out).mono ?_; rintro e w7 ⟨rfl, hb7⟩; have hs7 : w6.heap.size ≤ w7.heap.size := hb7.size; have HB7 := Lib.hid (below_step (Go.Joins.below_draws _ _ 1) hb7))
          | (go_at_call 19; refine (garnerref14_From.calls 10000 A0 c0 ls q.f0 fq _ (Kd.C_below (Kd.C_below HC.out HL6.out.below) HB7.out) hc HFQ.out).mono ?_; rintro e w8 ⟨rfl, hb8⟩; have HB8 := Lib.hid (below_step HB7.out hb8)))
      have HL8 := Lib.hid (HL6.out.grow HB8.out)
      clear HL6 HA
      go_wp2
      all_goals (
        have hz9 := HZ.out
        have hi9 := HI.out
        go_roundg (gk - 1)
        case measure => omega
        case rel => exact ⟨i + 1, _, ls'', rfl, ⟨by rw [hz9]; first | exact wrap_succ i (by omega) | omega | (simp only [IntKind.wrap_i64]; omega)⟩, ⟨by omega⟩, ⟨HL8.out⟩⟩)
    · have d1 : decide (z < (M.length : Int)) = false := decide_eq_false (by have := hz.out; omega)
      have HE : Hid (mergeL ls' = []) := Lib.hid (by rw [HA.out.left]; exact List.drop_eq_nil_of_le (by omega))
      clear hz hi hA hlt
      have HZO : Hid (garnerref10_One.f 10000 ⟨#[]⟩ false false [] 0 0 0 0 ⟨#[]⟩ false false [] 0 0 0 0 = some true) := Lib.hid (one_self 10000 zeroS (by simp [zeroS]) (by simp [zeroS]))
      go_wp2_with fail
      go_loopg [10] 2 (fun kq v wx => ∃ (j : Nat) (y : Int), v = .int .i64 y ∧ Aside0 (y = (j : Int)) ∧ Aside0 (j + kq = 2) ∧ Aside0 (St wx w2.heap.size Bd HH ls') ∧ Aside0 (Below w.heap.size w wx))
      case atStart => exact ⟨0, 0, rfl, ⟨rfl⟩, ⟨by omega⟩, ⟨HA.out.st⟩, ⟨HA.out.below⟩⟩
      case round =>
        obtain ⟨j, y, rfl, hy, hj, hS, hBx⟩ := hrel
        have HY := Lib.hid hy.out
        have HJ := Lib.hid hj.out
        have HS := Lib.hid hS.out
        have HBX := Lib.hid hBx.out
        by_cases hlt : j < 2
        · have d3 : decide (y < (2 : Int)) = true := decide_eq_true (by have := hy.out; omega)
          have q3 := eq_true (show y < (2 : Int) by have := hy.out; omega)
          have hj2 := Lib.hid hlt
          clear hy hj hS hBx hlt
          go_wp2_with (first
            | (go_at_call 17; refine (next_q _ w2.heap.size Bd HH ls' HS.out HA.out.small).mono ?_; rintro e w5 ⟨cur, ls'', A', c', fr, rfl, ⟨hc5, hF5⟩, hS5, hm5, hn5, hy5, hsm5, hT5⟩; have hcn : cur = none := (by rw [HE.out] at hm5; cases cur with | none => rfl | some x => simp at hm5); subst hcn; obtain ⟨_, rfl, rfl⟩ := hn5 rfl; simp only [Option.getD_none, zeroS] at hc5 hF5 ⊢; have HS5 := Lib.hid hS5; have HC5 := Lib.hid (Kd.F_now hF5); have HB5 := Lib.hid (HBX.out.trans (hT5.since hs2 HBX.out.size)); clear hF5 hS5 hm5 hn5 hy5 hsm5 hT5; unfold itemCells)
            | (go_at_call 18; refine (garnerref10_One.calls 10000 ⟨#[]⟩ false false A' c' [] 0 0 0 0 ⟨#[]⟩ false false none 0 [] 0 0 0 0 true _ (Kd.C_alloc HC5.out _) hc5 (Kd.C_nil _ _) (Nat.le_refl _) HZO.out).mono ?_; rintro e w7 ⟨rfl, hb7⟩; have HB7 := Lib.hid (below_step (below_alloc HB5.out _) hb7); have HS7 := Lib.hid ((HS5.out.alloc _).below hb7); clear hb7))
          have hz9 := HY.out
          have hi9 := HJ.out
          have hj9 := hj2.out
          go_roundg (1 - j)
          case measure => omega
          case rel => exact ⟨j + 1, _, rfl, ⟨by rw [hz9]; first | exact wrap_succ j (by omega) | omega | (simp only [IntKind.wrap_i64]; omega)⟩, ⟨by omega⟩, ⟨HS7.out⟩, ⟨HB7.out⟩⟩
        · have d3 : decide (y < (2 : Int)) = false := decide_eq_false (by have := hy.out; omega)
          clear hy hj hS hBx hlt
          go_upto_region 21 with (first
            | (go_at_call 17; refine (next_nobody _).mono ?_; rintro e w6 ⟨A6, c6, rfl, _, hb6⟩; unfold itemCells zeroS; have HB6 := Lib.hid (below_step HBX.out hb6); clear hb6))
          have HB8 := Lib.hid (below_alloc HB6.out (.cells #[.string ⟨#[]⟩, .bool false, .bool false, .slice A6 0 c6, .int .i64 0, .int .i64 0, .int .i64 0, .int .u32 0] 38))
          generalize w6.alloc (.cells #[.string ⟨#[]⟩, .bool false, .bool false, .slice A6 0 c6, .int .i64 0, .int .i64 0, .int .i64 0, .int .u32 0] 38) = w8 at *
          clear HB6 HA HS HBX
          go_wp2_with (first
            | (go_at_call 17; refine (next_empty _ w8.heap.size (.slice none 0 0) none 0 (heap_alloc_new w8 _)).mono ?_; rintro e w7 ⟨A7, c7, rfl, _, hb7⟩; unfold itemCells zeroS; have HB7 := Lib.hid (below_step (below_alloc HB8.out _) hb7); clear hb7)
            | (go_at_call 14; refine (awake14_calls _).mono ?_; rintro e w9 ⟨rfl, hb9⟩; have HB9 := Lib.hid (below_step (below_alloc HB7.out _) hb9); clear hb9))
          go_ret
          exact ⟨rfl, HB9.out⟩
theorem walks_any {w0 : World} (A0 : Option Addr) (c0 : Nat) (ls : List (List S38)) (hC : Kd.C kL w0 A0 ls.length ls) (hc : ls.length ≤ c0) (hm : ls.length ≤ maxLen) (hx : ∀ l ∈ ls, l.length ≤ maxLen) (w : World) (he : w = w0 := by rfl) :
    Calls Try.prog 3 #[.slice A0 ls.length c0] w fun e w' => e = .returned (.bool true) ∧ Below w.heap.size w w' := by
  subst he
  rcases ways ls hm hx with h | ⟨h1, h2, ⟨h3, h4⟩ | ⟨h3, h4, h5⟩⟩
  · exact walks_dark A0 c0 ls w hC hc h
  · exact walks_no A0 c0 ls w hC hc h1 h3
  · exact walks_yes A0 c0 ls w hC hc h1 h2 h3 h4 h5
end Go.Proofs.Ytgoidimipchejaa.Mg
