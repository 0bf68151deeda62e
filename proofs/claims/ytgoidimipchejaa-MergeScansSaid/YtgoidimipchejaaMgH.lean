/- Layer 14: a walk begun, by contract; no condition beyond the bounds that each lemma names. -/
import Derived.Test.YtgoidimipchejaaMgE
import Derived.Test.YtgoidimipchejaaMgG
namespace Go.Proofs.Ytgoidimipchejaa.Mg
open Go.RowKit Go.Proofs.Ytgoidimipchejaa.PT Go.Proofs.Ytgoidimipchejaa.Tr Go.Proofs.YtgoidimipchejaaW.PrintWords Go.Proofs.YtgoidimipchejaaW.PrintLast Go.Proofs.YtgoidimipchejaaW.PrintMore
set_option linter.unusedVariables false
set_option linter.unusedSimpArgs false
attribute [local go_sem ↓] Go.wp_at_zero Go.wp_at_succ

set_option maxHeartbeats 1000000 in
set_option maxRecDepth 100000 in
theorem begin_no (A0 : Option Addr) (c0 : Nat) (ls : List (List S38)) (w : World) (hC : Kd.C kL w A0 ls.length ls) (hc : ls.length ≤ c0) (hl : LiteLs ls) (hn : 100 < (ls.length : Int) ∨ allSorted ls = false) :
    Calls Try.prog 15 #[.slice A0 ls.length c0] w fun e w' => e = .returned (.tuple #[.pointer none, .int .i64 1]) ∧ Below w.heap.size w w' := by
  have H := Lib.hid (contains_calls A0 c0 ls w hC hc hl)
  clear hC
  by_cases h1 : 100 < (ls.length : Int)
  · have d1 : decide (100 < (ls.length : Int)) = true := decide_eq_true h1
    clear hn h1
    go_enter Try.func15, Try.ntmps15
    go_wp2
    go_ret2
    exact ⟨rfl, Below.refl _ _⟩
  · have d1 : decide (100 < (ls.length : Int)) = false := decide_eq_false h1
    have HS := Lib.hid (hn.resolve_left h1)
    clear hn h1
    go_enter Try.func15, Try.ntmps15
    go_wp2_with (first
      | (go_at_call 44; refine H.out.mono ?_; rintro e w1 ⟨rfl, hb1⟩; rw [HS.out]; have HB1 := Lib.hid hb1; clear hb1))
    go_ret2
    exact ⟨rfl, HB1.out⟩

/-- Rows' elements in order. -/
theorem sorted_all {ls : List (List S38)} (h : allSorted ls = true) : ∀ l ∈ ls, Tr.Ord l ∧ ∀ x ∈ l, mayB x = true := fun l hl => by
  unfold allSorted at h
  rw [List.all_eq_true] at h
  have h2 := sorted_ord l none (h l hl)
  exact ⟨h2.1, h2.2.1⟩
/-- A begun walk. -/
structure Begun (w w' : World) (H : Nat) (lv : Value) (A : Option Addr) (c : Nat) (ls : List (List S38)) (hp : List Int) : Prop where
  walk : HasWalk w' w.heap.size (fun _ => True) H lv A c ls hp
  inv : Inv ls hp
  len : hp.length ≤ 1000
  below : Below w.heap.size w w'
  new : w.heap.size ≤ H
def BeginP (w : World) (ls : List (List S38)) (e : Ending) (w' : World) : Prop := ∃ H lv A c hp, e = .returned (.tuple #[.pointer (some ⟨H, 0, none⟩), .int .i64 0]) ∧ Begun w w' H lv A c ls hp
theorem info3 : (Try.prog.info? 3).map (fun i => (i.zero, i.size, i.bytes)) = some (some (.int .i64 0), 1, 8) := by kernel_rfl
/-- The heap has grown by one place. -/
theorem HasWalk.push {W w5 : World} {base : Nat} {Q : Nat → Prop} {H : Nat} {lv : Value} {A : Option Addr} {c : Nat} {ls : List (List S38)} {hp hp2 : List Int} {A' : Option Addr} {c' : Nat} (h : HasWalk W base Q H lv A c ls hp)
    (hR : (Kd.int .i64).R 3 w5 base (fun k => k ≠ H) (.slice A' hp2.length c') hp2) (hg : W.grownBy w5 (Value.slice A hp.length c).ownBlock) (hat : (Value.slice A' hp2.length c').ownBlock = (Value.slice A hp.length c).ownBlock ∨ ∃ b, (Value.slice A' hp2.length c').ownBlock = some b ∧ W.heap.size ≤ b) :
    HasWalk (w5.setCell ⟨H, 1, none⟩ (.slice A' hp2.length c')) base Q H lv A' c' ls hp2 := by
  have hH : some H ≠ (Value.slice A hp.length c).ownBlock := fun e => h.heap.1 H e.symm rfl
  refine ⟨?_, ?_, ?_⟩
  · have h5 := (hg.block H (lt_of_block h.obj) hH).trans h.obj
    have := Go.Joins.block_setCell h5 (i := 1) (.slice A' hp2.length c')
    simpa using this
  · have hn := Kd.N_after (u := Value.slice A hp.length c) (ok := fun k => k ≠ H ∧ Q k) (Kd.N_mono h.lists (fun k hk => ⟨⟨hk.1.1, hk.2⟩, hk.1.2⟩)) hg hat
    exact Kd.N_far (p := ⟨H, 1, none⟩) (Kd.N_mono hn (fun k hk => ⟨⟨hk.1.1, hk.2⟩, hk.1.2⟩)) (fun k hk => hk.1.1) _
  · exact Kd.R_far (p := ⟨H, 1, none⟩) hR (fun k hk => hk) _
set_option maxHeartbeats 4000000 in
set_option maxRecDepth 100000 in
theorem begin_yes (A0 : Option Addr) (c0 : Nat) (ls : List (List S38)) (w : World) (hC : Kd.C kL w A0 ls.length ls) (hc : ls.length ≤ c0) (hl : LiteLs ls) (h1 : decide (100 < (ls.length : Int)) = false) (hs : allSorted ls = true) :
    Calls Try.prog 15 #[.slice A0 ls.length c0] w (BeginP w ls) := by
  have H := Lib.hid (contains_calls A0 c0 ls w hC hc hl)
  have HC := Lib.hid hC
  have HS := Lib.hid hs
  have HL := Lib.hid hl
  have hlen : ls.length ≤ 100 := by have := of_decide_eq_false h1; omega
  clear hC hs hl
  go_enter Try.func15, Try.ntmps15
  go_wp2_with (first
    | (go_at_call 44; refine H.out.mono ?_; rintro e w1 ⟨rfl, hb1⟩; rw [HS.out]; have HB1 := Lib.hid hb1; clear hb1)
    | (go_at_call 46; refine (copy_calls A0 c0 ls _ (Kd.C_F (Kd.heap_slice 38 k38_heap) (Kd.C_below HC.out HB1.out)) (by omega)).mono ?_; rintro e w2 ⟨lv, rfl, hN2, hb2⟩; obtain ⟨AL, cL, rfl⟩ := Kd.N_slice hN2; have hs1 := HB1.out.size; have hs2 := hb2.size; have HN2 := Lib.hid (Kd.N_bound (Kd.N_lower hN2 hs1)); have HB2 := Lib.hid (below_step HB1.out hb2); clear hN2 hb2))
  have hwH : w.heap.size ≤ w2.heap.size := Nat.le_trans hs1 hs2
  have HW3 : Hid (HasWalk (w2.alloc (.cells #[.slice AL ls.length cL, .slice none 0 0] 45)) w.heap.size (fun _ => True) w2.heap.size (.slice AL ls.length cL) none 0 ls []) := Lib.hid
    ⟨heap_alloc_new w2 _, Kd.N_alloc (Kd.N_mono HN2.out (fun k hk => ⟨⟨by have := hk.2; omega, by simp [Value.ownBlock]⟩, trivial⟩)) _, Kd.R_nil _ _ _ _ _⟩
  have HB3 := Lib.hid (below_alloc HB2.out (.cells #[.slice AL ls.length cL, .slice none 0 0] 45))
  have hs3 : w2.heap.size + 1 ≤ (w2.alloc (.cells #[.slice AL ls.length cL, .slice none 0 0] 45)).heap.size := by simp
  generalize (w2.alloc (.cells #[.slice AL ls.length cL, .slice none 0 0] 45)) = w3 at HW3 HB3 hs3 ⊢
  generalize hHH : w2.heap.size = HH at *
  clear hHH
  go_loopg [20] ls.length (fun kq v wr => ∃ (i : Nat) (z : Int) (A : Option Addr) (c : Nat), v = .int .i64 z ∧ Aside0 (z = (i : Int)) ∧ Aside0 (i + kq = ls.length) ∧ Aside0 (HasWalk wr w.heap.size (fun _ => True) HH (.slice AL ls.length cL) A c ls (idxUp ls i)) ∧ Aside0 (Below w.heap.size w wr))
  case atStart => exact ⟨0, 0, none, 0, rfl, ⟨rfl⟩, ⟨by omega⟩, ⟨HW3.out⟩, ⟨HB3.out⟩⟩
  case round =>
    obtain ⟨i, z, A, c, rfl, hz, hi, hW, hb⟩ := hrel
    have HZ := Lib.hid hz.out
    have HI := Lib.hid hi.out
    have HW := Lib.hid hW.out
    have HBw := Lib.hid hb.out
    by_cases hlt : i < ls.length
    · have p1 : 0 ≤ z := by have := hz.out; omega
      have q1 : z < (ls.length : Int) := by have := hz.out; omega
      have d1 : decide (z < (ls.length : Int)) = true := decide_eq_true q1
      obtain ⟨ad, A1, c1, eA, x0, hl1, hC1⟩ := at_L9 (Kd.C_below HC.out HBw.out) z p1 q1
      cases eA
      have HEL : Hid (rd_L9 ls z = lst ls (i : Int)) := Lib.hid (by rw [hz.out]; rfl)
      obtain ⟨m0, m1⟩ := cells2 HW.out.obj
      have m2 := frees HW.out.obj
      have p2 := eq_true p1
      have q2 := eq_true q1
      have hix := idx_len ls i
      clear hz hi hW hb hC1
      by_cases he : rd_L9 ls z = []
      · have hn : (rd_L9 ls z).length = 0 := by rw [he]; rfl
        have HID : Hid (idxUp ls (i + 1) = idxUp ls i) := Lib.hid (by simp only [idxUp]; rw [if_pos (by rw [← HEL.out]; exact he)])
        rw [hn] at x0
        clear he hn hlt
        go_wp2
        have hz9 := HZ.out
        have hi9 := HI.out
        go_roundg (gk - 1)
        case measure => omega
        case rel => exact ⟨i + 1, _, A, c, rfl, ⟨by rw [hz9]; first | exact wrap_succ i (by omega) | omega | (simp only [IntKind.wrap_i64]; omega)⟩, ⟨by omega⟩, ⟨by rw [HID.out]; exact HW.out⟩, ⟨HBw.out⟩⟩
      · have hn : 0 < (rd_L9 ls z).length := List.length_pos_iff.2 he
        have hn2 : (0 : Int) < ((rd_L9 ls z).length : Int) := by omega
        have HID : Hid (idxUp ls (i + 1) = idxUp ls i ++ [z]) := Lib.hid (by simp only [idxUp]; rw [if_neg (by rw [← HEL.out]; exact he), ← HZ.out])
        have hsz := lt_of_block HW.out.obj
        generalize hnl : (rd_L9 ls z).length = nl at *
        have d2 : decide (0 < nl) = true := decide_eq_true hn
        have d3 : decide ((0 : Int) < (nl : Int)) = true := decide_eq_true hn2
        clear he hnl
        go_wp2_with (first
          | (at_builtin; refine Kd.R_append (w0 := w) (Kd.int .i64) w.heap.size rfl (.tmp 33) (.tmp 35) 43 3 _ _ rfl (by kernel_rfl) info3 rfl (by decide) (by decide) (.slice A (idxUp ls i).length c) (idxUp ls i) z [.int .i64 z] (fun k => k ≠ HH) (fun _ => False) rfl rfl rfl (fun _ hk => hk.elim) (fun k hk => by omega) HW.out.heap HBw.out HBw.out.size (by omega) ?_; intro v5 w5 hR5 hb5 hg5 hat5; obtain ⟨A5, c5, rfl⟩ := Kd.R_slice hR5; have HW5 := Lib.hid (HW.out.push hR5 hg5 hat5); have HB5 := Lib.hid (hb5.setCell (p := ⟨HH, 1, none⟩) hwH (.slice A5 (idxUp ls i ++ [z]).length c5)); have h5 := (hg5.block HH hsz (fun e => HW.out.heap.1 HH e.symm rfl)).trans HW.out.obj; obtain ⟨n0, n1⟩ := cells2 h5; have n2 := frees h5; rw [← HID.out] at HW5 HB5 ⊢; clear hR5 hb5 hg5 hat5 h5))
        have hz9 := HZ.out
        have hi9 := HI.out
        go_roundg (gk - 1)
        case measure => omega
        case rel => exact ⟨i + 1, _, A5, c5, rfl, ⟨by rw [hz9]; first | exact wrap_succ i (by omega) | omega | (simp only [IntKind.wrap_i64]; omega)⟩, ⟨by omega⟩, ⟨HW5.out⟩, ⟨HB5.out⟩⟩
    · have d1 : decide (z < (ls.length : Int)) = false := decide_eq_false (by have := hz.out; omega)
      have hil : i = ls.length := by have := hi.out; omega
      have HWi := Lib.hid hW.out
      rw [hil] at HWi
      have hix := idx_len ls ls.length
      have HIX : Hid (∃ n, (idxUp ls ls.length).length = n) := Lib.hid ⟨_, rfl⟩
      obtain ⟨m0, m1⟩ := cells2 HWi.out.obj
      clear hz hi hW hb hlt hil HZ HI HW
      go_wp2_with fail
      go_loopg [6] (ls.length + 1) (fun kq v wt => ∃ (j : Nat) (z : Int) (hp : List Int), v = .int .i64 z ∧ Aside0 (z = (j : Int) - 1) ∧ Aside0 (j + 1 ≤ kq) ∧ Aside0 (HeapFrom ls j hp ∧ hp.Perm (idxUp ls ls.length) ∧ j ≤ hp.length) ∧ Aside0 (HasWalk wt w.heap.size (fun _ => True) HH (.slice AL ls.length cL) A c ls hp) ∧ Aside0 (Below w.heap.size w wt))
      case atStart => exact ⟨(idxUp ls ls.length).length, _, idxUp ls ls.length, rfl, ⟨by first | rfl | omega | (simp only [IntKind.wrap_i64]; omega)⟩, ⟨by omega⟩, ⟨heap_top ls _, List.Perm.refl _, Nat.le_refl _⟩, ⟨HWi.out⟩, ⟨HBw.out⟩⟩
      case round =>
        obtain ⟨j, z, hp, rfl, hz, hj, hP, hW, hb⟩ := hrel
        have HZ := Lib.hid hz.out
        have HJ := Lib.hid hj.out
        have HP := Lib.hid hP.out
        have HW := Lib.hid hW.out
        have HBt := Lib.hid hb.out
        have hlen2 : hp.length ≤ 100 := by have := HP.out.2.1.length_eq; omega
        have hzl : z ≤ 1000 := by have := hz.out; have := HP.out.2.2; omega
        by_cases hpos : 0 < j
        · have p1 : 0 ≤ z := by have := hz.out; omega
          have d1 : decide ((0 : Int) ≤ z) = true := decide_eq_true p1
          obtain ⟨g, rfl⟩ : ∃ g, A = some ⟨g, 0, none⟩ := by
            cases A with
            | none =>
              have h := (Kd.R_reads' HW.out.heap).2.2.2.2 (by have := HP.out.2.2; omega)
              obtain ⟨ad, e, _⟩ := h
              cases e
            | some ad =>
              obtain ⟨g, rfl⟩ := Kd.R_head HW.out.heap
              exact ⟨g, rfl⟩
          have HDN : Hid (Calls Try.prog 47 #[.pointer (some ⟨HH, 0, none⟩), .int .i64 z] _ fun e w' => e = .returned (.tuple #[]) ∧ HasWalk w' w.heap.size (fun _ => True) HH (.slice AL ls.length cL) (some ⟨g, 0, none⟩) c ls (downL ls hp.length hp (j - 1)) ∧ World.grownBy _ w' (some g)) := Lib.hid (by
            have h := down_calls _ w.heap.size (fun _ => True) HH g _ c ls hp (j - 1) HW.out (fun z hz => (idx_mem ls ls.length z).1 (HP.out.2.1.mem_iff.1 hz)) (by have := HP.out.2.2; omega) (by omega)
            rwa [show ((j - 1 : Nat) : Int) = z by have := hz.out; omega] at h)
          have HGB : Hid (w.heap.size ≤ g) := Lib.hid (Kd.R_base HW.out.heap g (by simp [Value.ownBlock]))
          have HBS := Lib.hid HBt.out.size
          clear hz hj hP hW hb
          go_wp2_with (first
            | (go_at_call 47; refine HDN.out.mono ?_; rintro e w6 ⟨rfl, hW6, hg6⟩; have HW6 := Lib.hid hW6; have HB6 : Hid (Below w.heap.size w w6) := Lib.hid (pw_below_grown HBt.out _ HBS.out hg6 (fun k hk => by injection hk with hk; have := HGB.out; omega)); clear hW6 hg6))
          have hz9 := HZ.out
          have hj9 := HJ.out
          obtain ⟨q1, q2, q3⟩ := HP.out
          go_roundg (gk - 1)
          case measure => omega
          case rel => exact ⟨j - 1, _, _, rfl, ⟨by first | omega | (simp only [IntKind.wrap_i64]; omega)⟩, ⟨by omega⟩, ⟨heap_down (by rwa [show j - 1 + 1 = j by omega]) _ (Nat.le_refl _), (down_perm ls _ hp _).trans q2, by rw [down_len]; omega⟩, ⟨HW6.out⟩, ⟨HB6.out⟩⟩
        · have d1 : decide ((0 : Int) ≤ z) = false := decide_eq_false (by have := hz.out; omega)
          have hj0 : j = 0 := by omega
          have HF : Hid (Begun w _ HH (.slice AL ls.length cL) A c ls hp) := Lib.hid ⟨HW.out, inv_begin (fun l hl => (sorted_all HS.out l hl).1) (by have h := HP.out.1; rwa [hj0] at h) HP.out.2.1, by omega, HBt.out, hwH⟩
          clear hz hj hP hW hb hpos hj0
          go_wp2
          go_ret2
          exact ⟨HH, _, A, c, hp, rfl, HF.out⟩
end Go.Proofs.Ytgoidimipchejaa.Mg
