/- Layer 14: the next item of a walk, by contract; no condition beyond the bounds that each lemma names. -/
import Derived.Test.YtgoidimipchejaaMgE
namespace Go.Proofs.Ytgoidimipchejaa.Mg
open Go.RowKit Go.Proofs.Ytgoidimipchejaa.PT Go.Proofs.Ytgoidimipchejaa.Tr Go.Proofs.YtgoidimipchejaaW.PrintWords Go.Proofs.YtgoidimipchejaaW.PrintLast Go.Proofs.YtgoidimipchejaaW.PrintMore
set_option linter.unusedVariables false
set_option linter.unusedSimpArgs false
attribute [local go_sem ↓] Go.wp_at_zero Go.wp_at_succ

theorem HasWalk.turn {W : World} {base : Nat} {Q : Nat → Prop} {H : Nat} {lv : Value} {A : Option Addr} {c : Nat} {ls : List (List S38)} {hp : List Int} (h : HasWalk W base Q H lv A c ls hp) (o : Obj) : HasWalk (W.alloc o) base Q H lv A c ls hp := h.below (below_alloc (Below.refl _ _) o)
/-- Nothing is left, or there never was a walk. -/
def Nothing (w : World) (e : Ending) (w' : World) : Prop := ∃ A' c', e = .returned (.tuple #[.agg (itemCells zeroS A' c'), .int .i64 0, .bool false]) ∧ (zeroS.f2.f1.length ≤ c' ∧ Kd.F (Kd.int .u8) w' (fun k => w.heap.size ≤ k) A' zeroS.f2.f1.length zeroS.f2.f1) ∧ Below w.heap.size w w'
set_option maxHeartbeats 2000000 in
set_option maxRecDepth 100000 in
theorem next_nobody (w : World) : Calls Try.prog 17 #[.pointer none] w (Nothing w) := by
  go_enter Try.func17, Try.ntmps17
  go_wp2
  refine bodyPost_ret (v := .tuple #[.agg (itemCells zeroS none 0), .int .i64 0, .bool false]) (by simp [results, itemCells, zeroS, Try.results17, go_sem]) rfl ⟨none, 0, rfl, ⟨by simp [zeroS], Kd.F_nil _ _ _⟩, ?_⟩
  repeat (refine Below.setCell ?_ (by simp) _)
  exact below_alloc (Below.refl _ _) _
set_option maxHeartbeats 2000000 in
set_option maxRecDepth 100000 in
theorem next_empty (w : World) (H : Nat) (v : Value) (A : Option Addr) (c : Nat) (h : w.heap[H]? = some (.cells #[v, .slice A 0 c] 45 (0, 0))) : Calls Try.prog 17 #[.pointer (some ⟨H, 0, none⟩)] w (Nothing w) := by
  obtain ⟨m0, m1⟩ := cells2 h
  have hlt := lt_of_block h
  clear h
  go_enter Try.func17, Try.ntmps17
  go_wp2
  refine bodyPost_ret (v := .tuple #[.agg (itemCells zeroS none 0), .int .i64 0, .bool false]) (by simp [results, itemCells, zeroS, Try.results17, go_sem]) rfl ⟨none, 0, rfl, ⟨by simp [zeroS], Kd.F_nil _ _ _⟩, ?_⟩
  repeat (refine Below.setCell ?_ (by simp) _)
  exact below_alloc (Below.refl _ _) _

theorem Turns.setCell {w W : World} {S : Nat → Prop} (h : Turns w W S) (p : Addr) (v : Value) (hp : w.heap.size ≤ p.block) : Turns w (W.setCell p v) S := by
  have hb : Below w.heap.size W (W.setCell p v) := (Below.refl _ _).setCell hp v
  exact ⟨hb.os.trans h.os, hb.tape.trans h.tape, hb.output.trans h.output, Nat.le_trans h.size hb.size, fun k hk hs => (hb.block k hk).trans (h.block k hk hs)⟩
/-- What Next leaves, in the loop. -/
structure NextAt (w2 wr : World) (base : Nat) (Q : Nat → Prop) (H BL g cL c : Nat) (ls : List (List S38)) (key : List UInt8) (ls' : List (List S38)) (hp' : List Int) (B : Nat) : Prop where
  mid : Mid ls ls' hp' key
  walk : HasWalk wr base Q H (.slice (some ⟨BL, 0, none⟩) ls.length cL) (some ⟨g, 0, none⟩) c ls' hp'
  turns : Turns w2 wr (Mine H BL g)
  len : hp'.length ≤ B
  len2 : ls'.length = ls.length
theorem NextAt.drewN {w2 wr : World} {base : Nat} {Q : Nat → Prop} {H BL g cL c : Nat} {ls : List (List S38)} {key : List UInt8} {ls' : List (List S38)} {hp' : List Int} {B : Nat} (h : NextAt w2 wr base Q H BL g cL c ls key ls' hp' B) (n : Nat) : NextAt w2 (wr.drewN n) base Q H BL g cL c ls key ls' hp' B :=
  ⟨h.mid, h.walk.drewN n, h.turns.below (pw_below_drewN (Below.refl _ _) n), h.len, h.len2⟩
theorem NextAt.facts {w2 wr : World} {base : Nat} {Q : Nat → Prop} {H BL g cL c : Nat} {ls : List (List S38)} {key : List UInt8} {ls' : List (List S38)} {hp' : List Int} {B : Nat} (h : NextAt w2 wr base Q H BL g cL c ls key ls' hp' B) (hne : hp' ≠ []) :
    ∃ (z : Int) (nl c1 : Nat) (ad1 : Addr) (k1 : ByteArray), hat hp' 0 = z ∧ 0 ≤ z ∧ z < (ls.length : Int) ∧ (0 : Int) < (nl : Int) ∧ (0 : Int) < (hp'.length : Int) ∧ wr.cell? ⟨g, 0, none⟩ = some (.int .i64 z) ∧ wr.cell? ⟨BL, z.toNat, none⟩ = some (.slice (some ad1) nl c1) ∧ wr.cell? ad1 = some (.string k1) ∧ k1.toList = hkey ls' (hat hp' 0) := by
  have hlen : 0 < hp'.length := List.length_pos_iff.2 hne
  obtain ⟨i0, i1, i2⟩ := (h.mid.inv.mem _).1 (hat_mem hp' 0 hlen)
  obtain ⟨w0a, _⟩ := h.walk.at 0 (by omega) (by omega)
  simp only [Int.toNat_zero] at w0a
  obtain ⟨AL, A1, c1, eL, x0, hl1, hC1⟩ := at_L9 (Kd.N_reads' h.walk.lists).2.2 (hat hp' 0) i0 i1
  cases eL
  rw [rdL_lst] at x0 hl1 hC1
  rw [add_plain] at x0
  have n1 : 0 < (lst ls' (hat hp' 0)).length := List.length_pos_iff.2 i2
  obtain ⟨ad1, A3, c3, eA, z0, _⟩ := at_T38 hC1 0 (by omega) (by omega)
  cases eA
  simp only [Int.toNat_zero, Nat.zero_mul, add0] at z0
  exact ⟨hat hp' 0, _, c1, ad1, _, rfl, i0, by rw [← h.len2]; exact i1, by omega, by omega, w0a, x0, z0, rfl⟩
set_option maxHeartbeats 1600000 in
set_option maxRecDepth 100000 in
theorem next_yes (w : World) (base : Nat) (Q : Nat → Prop) (H BL g cL c : Nat) (ls : List (List S38)) (hp : List Int) (x : S38) (hx : rd_T38 (lst ls (hat hp 0)) 0 = x) (hW : HasWalk w base Q H (.slice (some ⟨BL, 0, none⟩) ls.length cL) (some ⟨g, 0, none⟩) c ls hp) (hI : Inv ls hp) (hne : hp ≠ []) (hl : hp.length ≤ 1000) (hxb : x.f2.f1.length ≤ 1000000) :
    Calls Try.prog 17 #[.pointer (some ⟨H, 0, none⟩)] w fun e w' => ∃ A' c' hp', e = .returned (.tuple #[.agg (itemCells x A' c'), .int .i64 (hat hp 0), .bool true]) ∧ (x.f2.f1.length ≤ c' ∧ Kd.F (Kd.int .u8) w' (fun k => w.heap.size ≤ k) A' x.f2.f1.length x.f2.f1) ∧
      HasWalk w' base Q H (.slice (some ⟨BL, 0, none⟩) ls.length cL) (some ⟨g, 0, none⟩) c (ls.map (dropHead (kOf x))) hp' ∧ Inv (ls.map (dropHead (kOf x))) hp' ∧ hp'.length ≤ hp.length ∧ Turns w w' (Mine H BL g) := by
  have hlen : 0 < hp.length := List.length_pos_iff.2 hne
  have hltH := lt_of_block hW.obj
  have hltB : BL < w.heap.size := Kd.N_lt hW.lists BL (by simp [Value.ownBlock])
  have hltg : g < w.heap.size := (Kd.R_bound hW.heap).1 g (by simp [Value.ownBlock]) |>.2.2.1
  obtain ⟨i0, i1, i2⟩ := (hI.mem _).1 (hat_mem hp 0 hlen)
  obtain ⟨m0, m1⟩ := cells2 hW.obj
  obtain ⟨w0a, _⟩ := hW.at 0 (by omega) (by omega)
  simp only [Int.toNat_zero] at w0a
  have HM : Hid (Mid ls ls hp (kOf x)) := Lib.hid (by rw [← hx]; exact mid_start hI hne)
  obtain ⟨csl, hcll, hFKl, hccl, _⟩ := Kd.N_elem hW.lists [] (hat hp 0) i0 i1
  obtain ⟨A1, c1, rfl, hl1, hF1⟩ := Kd.FK_slice_open hFKl
  have x0 := hccl 0 _ rfl
  have elst : ls.getD (hat hp 0).toNat [] = lst ls (hat hp 0) := rfl
  rw [elst] at x0 hl1 hF1
  rw [show (hat hp 0).toNat * (Kd.slice 38 k38).sz + 0 = (hat hp 0).toNat by show (hat hp 0).toNat * 1 + 0 = _; omega] at x0
  have n1 : 0 < (lst ls (hat hp 0)).length := List.length_pos_iff.2 i2
  obtain ⟨ad1, cs1, eA, hcl1, hFK1, hcc1, hb1⟩ := Kd.F_get hF1 z38 0 (by omega) (by omega)
  have ex : (lst ls (hat hp 0)).getD (Int.toNat 0) z38 = x := hx
  rw [ex] at hFK1
  subst eA
  obtain ⟨A3, c3, rfl, hl3, hF3⟩ := k38_openF hFK1
  have HIT : Hid (ItemAt w ad1 x A3 c3) := Lib.hid ⟨by have h := hcc1 0 _ rfl; exact h, hcc1 1 _ rfl, hcc1 2 _ rfl, hcc1 3 _ rfl, hcc1 4 _ rfl, hcc1 5 _ rfl, hcc1 6 _ rfl, hcc1 7 _ rfl⟩
  have HF3 : Hid (Kd.F (Kd.int .u8) w (fun k => ¬ Mine H BL g k) A3 x.f2.f1.length x.f2.f1) := Lib.hid (Kd.F_mono hF3 (fun k hk hm => by
    obtain ⟨⟨⟨h1, h2⟩, _⟩, h3⟩ := hk
    rcases hm with h | h | h
    · exact h1 h
    · exact h3 h
    · exact h2 (by rw [h]; simp [Value.ownBlock])))
  have HW := Lib.hid hW.narrow
  have HI0 : Hid (∃ z, hat hp 0 = z) := Lib.hid ⟨_, rfl⟩
  obtain ⟨z, hz⟩ := HI0.out
  rw [hz] at i0 i1 i2 x0 w0a n1 hl1
  generalize hm1 : (lst ls z).length = nl at *
  have HZ := Lib.hid hz
  have t1 := eq_true i0
  have t2 := eq_true i1
  have hnz : (0 : Int) < (hp.length : Int) := by omega
  have hnz2 : ((hp.length : Int) == 0) = false := by simp; omega
  have hnl : (0 : Int) < (nl : Int) := by omega
  have v0 := fun o => (HIT.out.alloc o).1
  have v1 := fun o => (HIT.out.alloc o).2.1
  have v2 := fun o => (HIT.out.alloc o).2.2.1
  have v3 := fun o => (HIT.out.alloc o).2.2.2.1
  have v4 := fun o => (HIT.out.alloc o).2.2.2.2.1
  have v5 := fun o => (HIT.out.alloc o).2.2.2.2.2.1
  have v6 := fun o => (HIT.out.alloc o).2.2.2.2.2.2.1
  have v7 := fun o => (HIT.out.alloc o).2.2.2.2.2.2.2
  have u0 := fun (o : Obj) => Lib.cell?_alloc_some o x0
  have u1 := fun (o : Obj) => Lib.cell?_alloc_some o w0a
  have u2 := fun (o : Obj) => Lib.cell?_alloc_some o m0
  have u3 := fun (o : Obj) => Lib.cell?_alloc_some o m1
  clear hx hW hI hne hz HI0 hm1 i2 hFKl hccl hF1 hFK1 hcc1 hb1 hF3 elst ex hcll hcl1
  go_enter Try.func17, Try.ntmps17
  go_wp2_with fail
  obtain ⟨hR, hX⟩ := two_new w (.cells (itemCells zeroS none 0) 38) (.cells (itemCells x A3 c3) 38) (Below.refl _ _)
  have HR := Lib.hid hR
  have HX := Lib.hid hX
  have HW2 := Lib.hid ((HW.out.turn (.cells (itemCells zeroS none 0) 38)).turn (.cells (itemCells x A3 c3) 38))
  have HB2 := Lib.hid (below_alloc (below_alloc (Below.refl w.heap.size w) (.cells (itemCells zeroS none 0) 38)) (.cells (itemCells x A3 c3) 38))
  have hs2 : ((w.alloc (.cells (itemCells zeroS none 0) 38)).alloc (.cells (itemCells x A3 c3) 38)).heap.size = w.heap.size + 2 := by simp
  have HS2 := Lib.hid hs2
  clear hR hX hs2
  unfold itemCells zeroS at HR HX HW2 HB2 HS2
  simp only [List.length_nil] at HR HX HW2 HB2 HS2
  generalize ((w.alloc _).alloc _) = w2 at HR HX HW2 HB2 HS2 ⊢
  clear v0 v1 v2 v3 v4 v5 v6 v7 u0 u1 u2 u3 x0 w0a m0 m1
  go_loopg [] (total ls) (fun kq wr => ∃ (ls' : List (List S38)) (hp' : List Int), Aside0 (NextAt w2 wr base (fun k => Q k ∧ k < w.heap.size) H BL g cL c ls (kOf x) ls' hp' hp.length) ∧ Aside0 (total ls' ≤ kq))
  case atStart => exact ⟨ls, hp, ⟨⟨HM.out, HW2.out, Turns.refl _ _, Nat.le_refl _, rfl⟩⟩, ⟨Nat.le_refl _⟩⟩
  case round =>
    obtain ⟨ls', hp', hN, hT⟩ := hrel
    have HN := Lib.hid hN.out
    have HT := Lib.hid hT.out
    clear hN hT
    obtain ⟨m0, m1⟩ := cells2 HN.out.walk.obj
    have hXr := (HN.out.turns.block (w.heap.size + 1) (by rw [HS2.out]; omega) (by rintro (h | h | h) <;> omega)).trans HX.out
    obtain ⟨d0, d1, d2, d3, d4, d5, d6, d7⟩ := cells8 hXr
    clear hXr
    by_cases hcont : hp' ≠ [] ∧ hkey ls' (hat hp' 0) = kOf x
    · obtain ⟨hne, hk⟩ := hcont
      obtain ⟨z', nl', c1', ad1', k1, f0, f1, f2, f3, f4, f5, f6, f7, f8⟩ := HN.out.facts hne
      have d9 : decide ((0 : Int) < (hp'.length : Int)) = true := decide_eq_true f4
      have d8 : decide (0 < hp'.length) = true := decide_eq_true (by omega)
      have d10 : (k1.toList == x.f0.toList) = true := by rw [f8, hk]; simp [kOf]
      have s1 := eq_true f1
      have s2 := eq_true f2
      have HP := Lib.hid (fun n => pop_calls (wr.drewN n) base (fun k => Q k ∧ k < w.heap.size) H BL g cL c ls' hp' (by rw [HN.out.len2]; exact HN.out.walk.drewN n) HN.out.mid.inv hne (by have := HN.out.len; omega))
      have HMP := Lib.hid (mid_pop HN.out.mid hne hk _ (Nat.le_refl _))
      have HTP := Lib.hid (total_pop HN.out.mid.inv hne)
      clear hne hk f0 f8
      go_upto_region 5 with (fail)
      go_quiet (fail)
      go_wp2_with (first
        | (go_at_call 49; refine (HP.out _).mono ?_; rintro e w5 ⟨rfl, hW5, hT5⟩; rw [HN.out.len2] at hW5; have HW5 := Lib.hid hW5; have HT5 := Lib.hid hT5; clear hW5 hT5))
      have e1 := HT.out
      have e2 := HTP.out
      have e3 := HN.out.len
      have e4 := popHp_len ls' hp'
      go_roundg (gk - 1)
      case measure => omega
      case rel => exact ⟨popLs ls' hp', _, ⟨⟨HMP.out, HW5.out, (HN.out.drewN _).turns.trans HT5.out, by rw [down_len]; omega, by unfold popLs; rw [List.length_set]; exact HN.out.len2⟩⟩, ⟨by omega⟩⟩
    · have hlast : hp' = [] ∨ (hp' ≠ [] ∧ ¬ hkey ls' (hat hp' 0) = kOf x) := by
        rcases Classical.em (hp' = []) with h | h
        · exact .inl h
        · exact .inr ⟨h, fun k => hcont ⟨h, k⟩⟩
      have HEND := Lib.hid (mid_end HN.out.mid (hlast.imp id fun k => k.2))
      have hhx : wr.heap[w.heap.size + 1]? = _ := (HN.out.turns.block (w.heap.size + 1) (by rw [HS2.out]; omega) (by rintro (h | h | h) <;> omega)).trans HX.out
      have hhr : wr.heap[w.heap.size]? = _ := (HN.out.turns.block w.heap.size (by rw [HS2.out]; omega) (by rintro (h | h | h) <;> omega)).trans HR.out
      have HHX := Lib.hid hhx
      have HHR := Lib.hid hhr
      have hszr : w.heap.size + 2 ≤ wr.heap.size := by rw [← HS2.out]; exact HN.out.turns.size
      have HFR : Hid (Kd.F (Kd.int .u8) wr (fun k => ¬ Mine H BL g k ∧ k < w.heap.size) A3 x.f2.f1.length x.f2.f1) := Lib.hid (Kd.F_step (Kd.F_bound HF3.out) (fun k hk hlt => (HN.out.turns.block k (by rw [HS2.out]; omega) hk.1).trans (HB2.out.block k hlt)))
      clear hcont hhx hhr
      rcases hlast with he | ⟨hne, hk⟩
      · have HE := Lib.hid he
        have hz0 : hp'.length = 0 := by rw [he]; rfl
        rw [hz0] at m1
        clear he hz0
        have d9 : decide ((0 : Int) < ((0 : Nat) : Int)) = false := rfl
        go_upto_region 5 with (fail)
        go_quiet (fail)
        go_wp2_with fail
        have hFN : Kd.F (Kd.int .u8) (wr.drewN nq) (fun k => ¬ Mine H BL g k ∧ k < w.heap.size) A3 x.f2.f1.length x.f2.f1 := Kd.F_drewN HFR.out nq
        have HND := Lib.hid (HN.out.drewN nq)
        have HHX2 : Hid ((wr.drewN nq).heap[w.heap.size + 1]? = _) := Lib.hid HHX.out
        have HHR2 : Hid ((wr.drewN nq).heap[w.heap.size]? = _) := Lib.hid HHR.out
        have hsz2 : w.heap.size + 2 ≤ (wr.drewN nq).heap.size := hszr
        generalize wr.drewN nq = w7 at hFN HND HHX2 HHR2 hsz2 ⊢
        refine (clone_calls A3 c3 x.f2.f1 w7 (Kd.F_now hFN) (by omega)).mono ?_
        rintro e w8 ⟨v8, rfl, hR8, hb8⟩
        obtain ⟨A', c', rfl⟩ := Kd.R_slice hR8
        have hl8 := (Kd.R_reads' hR8).2.1
        have HF8 := Lib.hid (Kd.R_F hR8)
        have HW8 := Lib.hid (HND.out.walk.below hb8)
        have HT8 := Lib.hid (HND.out.turns.below hb8)
        have hs8 := hb8.size
        have hX8 := (hb8.block (w.heap.size + 1) (by omega)).trans HHX2.out
        have hR8' := (hb8.block w.heap.size (by omega)).trans HHR2.out
        have hfx := frees hX8
        have hfr := frees hR8'
        obtain ⟨d0, d1, d2, d3, d4, d5, d6, d7⟩ := cells8 hX8
        obtain ⟨r0, r1, r2, r3, r4, r5, r6, r7⟩ := cells8 hR8'
        clear hR8 hFN hb8 hX8 hR8'
        go_wp2
        refine bodyPost_ret (v := .tuple #[.agg (itemCells x A' c'), .int .i64 z, .bool true]) (by simp [results, itemCells, Try.results17, go_sem, d0, d1, d2, d3, d4, d5, d6, d7, r0, r1, r2, r3, r4, r5, r6, r7]) rfl ⟨A', c', hp', by rw [HZ.out], ⟨hl8, ?_⟩, ?_, ?_, HN.out.len, ?_⟩
        · refine Kd.F_mono (ok := fun k => w7.heap.size ≤ k) ?_ (fun k hk => by omega)
          repeat (refine Kd.F_far ?_ (by intro k hk; simp at hk ⊢; omega) _)
          exact HF8.out
        · rw [← HEND.out]
          refine HasWalk.widen (Q := fun k => Q k ∧ k < w.heap.size) ?_ (fun k hk => hk.1)
          repeat (refine HasWalk.far ?_ _ _ (by simp; omega) (by simp [Value.ownBlock]; omega) (by intro k hk; simp at hk ⊢; omega))
          exact HW8.out
        · rw [← HEND.out]
          exact HN.out.mid.inv
        · have hT := Turns.trans (⟨HB2.out.os, HB2.out.tape, HB2.out.output, HB2.out.size, fun k hk _ => HB2.out.block k hk⟩ : Turns w w2 (Mine H BL g)) HT8.out
          repeat (refine Turns.setCell ?_ _ _ (by simp))
          exact hT
      · obtain ⟨z', nl', c1', ad1', k1, f0, f1, f2, f3, f4, f5, f6, f7, f8⟩ := HN.out.facts hne
        have d9 : decide ((0 : Int) < (hp'.length : Int)) = true := decide_eq_true f4
        have d8 : decide (0 < hp'.length) = true := decide_eq_true (by omega)
        have d10 : (k1.toList == x.f0.toList) = false := by rw [f8]; exact beq_eq_false_iff_ne.2 hk
        have s1 := eq_true f1
        have s2 := eq_true f2
        clear hne hk f0 f8
        go_upto_region 5 with (fail)
        go_quiet (fail)
        go_wp2_with fail
        have hFN : Kd.F (Kd.int .u8) (wr.drewN nq) (fun k => ¬ Mine H BL g k ∧ k < w.heap.size) A3 x.f2.f1.length x.f2.f1 := Kd.F_drewN HFR.out nq
        have HND := Lib.hid (HN.out.drewN nq)
        have HHX2 : Hid ((wr.drewN nq).heap[w.heap.size + 1]? = _) := Lib.hid HHX.out
        have HHR2 : Hid ((wr.drewN nq).heap[w.heap.size]? = _) := Lib.hid HHR.out
        have hsz2 : w.heap.size + 2 ≤ (wr.drewN nq).heap.size := hszr
        generalize wr.drewN nq = w7 at hFN HND HHX2 HHR2 hsz2 ⊢
        refine (clone_calls A3 c3 x.f2.f1 w7 (Kd.F_now hFN) (by omega)).mono ?_
        rintro e w8 ⟨v8, rfl, hR8, hb8⟩
        obtain ⟨A', c', rfl⟩ := Kd.R_slice hR8
        have hl8 := (Kd.R_reads' hR8).2.1
        have HF8 := Lib.hid (Kd.R_F hR8)
        have HW8 := Lib.hid (HND.out.walk.below hb8)
        have HT8 := Lib.hid (HND.out.turns.below hb8)
        have hs8 := hb8.size
        have hX8 := (hb8.block (w.heap.size + 1) (by omega)).trans HHX2.out
        have hR8' := (hb8.block w.heap.size (by omega)).trans HHR2.out
        have hfx := frees hX8
        have hfr := frees hR8'
        obtain ⟨d0, d1, d2, d3, d4, d5, d6, d7⟩ := cells8 hX8
        obtain ⟨r0, r1, r2, r3, r4, r5, r6, r7⟩ := cells8 hR8'
        clear hR8 hFN hb8 hX8 hR8'
        go_wp2
        refine bodyPost_ret (v := .tuple #[.agg (itemCells x A' c'), .int .i64 z, .bool true]) (by simp [results, itemCells, Try.results17, go_sem, d0, d1, d2, d3, d4, d5, d6, d7, r0, r1, r2, r3, r4, r5, r6, r7]) rfl ⟨A', c', hp', by rw [HZ.out], ⟨hl8, ?_⟩, ?_, ?_, HN.out.len, ?_⟩
        · refine Kd.F_mono (ok := fun k => w7.heap.size ≤ k) ?_ (fun k hk => by omega)
          repeat (refine Kd.F_far ?_ (by intro k hk; simp at hk ⊢; omega) _)
          exact HF8.out
        · rw [← HEND.out]
          refine HasWalk.widen (Q := fun k => Q k ∧ k < w.heap.size) ?_ (fun k hk => hk.1)
          repeat (refine HasWalk.far ?_ _ _ (by simp; omega) (by simp [Value.ownBlock]; omega) (by intro k hk; simp at hk ⊢; omega))
          exact HW8.out
        · rw [← HEND.out]
          exact HN.out.mid.inv
        · have hT := Turns.trans (⟨HB2.out.os, HB2.out.tape, HB2.out.output, HB2.out.size, fun k hk _ => HB2.out.block k hk⟩ : Turns w w2 (Mine H BL g)) HT8.out
          repeat (refine Turns.setCell ?_ _ _ (by simp))
          exact hT
end Go.Proofs.Ytgoidimipchejaa.Mg
