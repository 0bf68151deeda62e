/- Layer 10: what is read through a tree's handle, and a clone; no condition beyond the bounds that each lemma names. -/
import Derived.Test.YtgoidimipchejaaTrF
namespace Go.Proofs.Ytgoidimipchejaa.Tr
open Go.RowKit Go.Proofs.Ytgoidimipchejaa.PT Go.Proofs.YtgoidimipchejaaW.PrintWords Go.Proofs.YtgoidimipchejaaW.PrintLast Go.Proofs.YtgoidimipchejaaW.PrintMore
set_option linter.unusedVariables false
set_option linter.unusedSimpArgs false
attribute [local go_sem ↓] Go.wp_at_zero Go.wp_at_succ

/-- The items' bytes are bounded. -/
def Small (T : BT) : Prop := ∀ x ∈ T.items, x.f2.f1.length ≤ 1000000 ∧ x.f0.size ≤ 1000000
theorem scan_ok : ∀ T : BT, Small T → ScanOk T
  | .nil, _ => scan_nil
  | .node l x lev r, hS => fun B ok lo hi most v vo out w hok hB h hN hsz => by
    have hl := scan_ok l (fun y hy => hS y (by simp [BT.items, hy]))
    have hr := scan_ok r (fun y hy => hS y (by simp [BT.items, hy]))
    have hx := (hS x (by simp [BT.items])).1
    by_cases hm : most ≤ (out.length : Int)
    · have e : scanT (.node l x lev r) lo hi most out = out := by simp only [scanT]; rw [if_pos hm]
      rw [e]
      exact scan_full l x lev r B ok lo hi most v vo out w h hN hm
    cases hq : Op.bytesLess x.f0.toList lo.toList with
    | true =>
      cases hi1 : inHi x hi with
      | true =>
        have e : scanT (.node l x lev r) lo hi most out = scanT r lo hi most out := by simp only [scanT]; rw [if_neg hm, if_pos hq, if_pos hi1]
        rw [e]
        exact scan_low_in l x lev r hr B ok lo hi most v vo out w hok hB h hN hsz hm hq hi1
      | false =>
        have e : scanT (.node l x lev r) lo hi most out = out := by simp only [scanT]; rw [if_neg hm, if_pos hq, if_neg (by rw [hi1]; simp)]
        rw [e]
        unfold inHi at hi1
        rw [Bool.or_eq_false_iff] at hi1
        exact scan_low_out l x lev r B ok lo hi most v vo out w hok hB h hN hsz hm hq hi1.1 hi1.2
    | false =>
      cases hi1 : inHi x hi with
      | false =>
        have e : scanT (.node l x lev r) lo hi most out = scanT l lo hi most out := by simp only [scanT]; rw [if_neg hm, if_neg (by rw [hq]; simp), if_neg (by rw [hi1]; simp)]
        rw [e]
        unfold inHi at hi1
        rw [Bool.or_eq_false_iff] at hi1
        exact scan_mid_out l x lev r hl B ok lo hi most v vo out w hok hB h hN hsz hm hq hi1.1 hi1.2
      | true =>
        by_cases hn : ((scanT l lo hi most out).length : Int) < most
        · have e : scanT (.node l x lev r) lo hi most out = scanT r lo hi most (scanT l lo hi most out ++ [x]) := by simp only [scanT]; rw [if_neg hm, if_neg (by rw [hq]; simp), if_pos hi1, if_pos hn]
          rw [e]
          exact scan_mid_yes l x lev r hl hr B ok lo hi most v vo out w hok hB h hN hsz hm hq hi1 (decide_eq_true hn) hx
        · have e : scanT (.node l x lev r) lo hi most out = scanT r lo hi most (scanT l lo hi most out) := by simp only [scanT]; rw [if_neg hm, if_neg (by rw [hq]; simp), if_pos hi1, if_neg hn]
          rw [e]
          exact scan_mid_no l x lev r hl hr B ok lo hi most v vo out w hok hB h hN hsz hm hq hi1 (decide_eq_false hn)
theorem FT.bound {W : World} {ok : Nat → Prop} : ∀ {T : BT} {v : Value}, FT W ok T v → FT W (fun k => ok k ∧ k < W.heap.size) T v
  | .nil, _, h => h
  | .node l x lev r, _, ⟨b, vl, vr, A, c, hv, hb, hh, hc, hf, hl, hr⟩ => ⟨b, vl, vr, A, c, hv, ⟨hb, lt_of_block hh⟩, hh, hc, Kd.F_bound hf, FT.bound hl, FT.bound hr⟩

set_option maxHeartbeats 1000000 in
set_option maxRecDepth 100000 in
theorem scan_calls (w : World) (ok : Nat → Prop) (H : Nat) (T : BT) (n wt : Int) {m : Bool} (lo hi : ByteArray) (most : Int) (h : HasTree w ok H T n wt m) (hS : Small T) (hl : sizeT T ≤ 1000000) :
    Calls Try.prog 25 #[.pointer (some ⟨H, 0, none⟩), .string lo, .string hi, .int .i64 most] w fun e w' => ∃ vo, e = .returned vo ∧ Kd.N k38 38 w' w.heap.size (fun k => w.heap.size ≤ k) vo (scanT T lo hi most []) ∧ Below w.heap.size w w' := by
  obtain ⟨root, h1, h2⟩ := h.ex
  obtain ⟨a0, a1, a2, a3⟩ := cells4 h1
  obtain ⟨p, rfl⟩ := h2.ptr
  have HT := Lib.hid h2.bound
  have HS := Lib.hid (scan_ok T hS)
  clear h1 h2 h hS
  go_enter Try.func25, Try.ntmps25
  go_wp2_with (first | (go_at_call 52; refine (HS.out w.heap.size (fun k => ok k ∧ k < w.heap.size) lo hi most _ _ [] _ (fun k hk => hk.2) (Nat.le_refl _) HT.out (Kd.N_nil _ _ _ _ _) (by simpa using hl)).mono ?_; rintro e w1 ⟨v1, rfl, hN1, hb1⟩; have HN1 := Lib.hid hN1; have HB1 := Lib.hid hb1; clear hN1 hb1))
  go_ret
  exact ⟨_, rfl, HN1.out, HB1.out⟩
set_option maxHeartbeats 1000000 in
set_option maxRecDepth 100000 in
theorem scan_none (w : World) (lo hi : ByteArray) (most : Int) :
    Calls Try.prog 25 #[.pointer none, .string lo, .string hi, .int .i64 most] w fun e w' => e = .returned (.slice none 0 0) ∧ w' = w := by
  go_enter Try.func25, Try.ntmps25
  go_wp2
  go_ret
  exact ⟨rfl, rfl⟩
set_option maxHeartbeats 1000000 in
set_option maxRecDepth 100000 in
theorem len_calls (w : World) (ok : Nat → Prop) (H : Nat) (T : BT) (n wt : Int) {m : Bool} (h : HasTree w ok H T n wt m) : Calls Try.prog 31 #[.pointer (some ⟨H, 0, none⟩)] w fun e w' => e = .returned (.int .i64 n) ∧ w' = w := by
  obtain ⟨root, h1, h2⟩ := h.ex
  obtain ⟨a0, a1, a2, a3⟩ := cells4 h1
  clear h1 h2 h
  go_enter Try.func31, Try.ntmps31
  go_wp2
  go_ret
  exact ⟨rfl, rfl⟩
set_option maxHeartbeats 1000000 in
set_option maxRecDepth 100000 in
theorem len_none (w : World) : Calls Try.prog 31 #[.pointer none] w fun e w' => e = .returned (.int .i64 0) ∧ w' = w := by
  go_enter Try.func31, Try.ntmps31
  go_wp2
  go_ret
  exact ⟨rfl, rfl⟩
set_option maxHeartbeats 1000000 in
set_option maxRecDepth 100000 in
theorem weight_calls (w : World) (ok : Nat → Prop) (H : Nat) (T : BT) (n wt : Int) {m : Bool} (h : HasTree w ok H T n wt m) : Calls Try.prog 32 #[.pointer (some ⟨H, 0, none⟩)] w fun e w' => e = .returned (.int .i64 wt) ∧ w' = w := by
  obtain ⟨root, h1, h2⟩ := h.ex
  obtain ⟨a0, a1, a2, a3⟩ := cells4 h1
  clear h1 h2 h
  go_enter Try.func32, Try.ntmps32
  go_wp2
  go_ret
  exact ⟨rfl, rfl⟩
set_option maxHeartbeats 1000000 in
set_option maxRecDepth 100000 in
theorem weight_none (w : World) : Calls Try.prog 32 #[.pointer none] w fun e w' => e = .returned (.int .i64 0) ∧ w' = w := by
  go_enter Try.func32, Try.ntmps32
  go_wp2
  go_ret
  exact ⟨rfl, rfl⟩
def emptyKey : ByteArray := ⟨#[]⟩
set_option maxHeartbeats 1000000 in
set_option maxRecDepth 100000 in
theorem all_calls (w : World) (ok : Nat → Prop) (H : Nat) (T : BT) (n wt : Int) {m : Bool} (h : HasTree w ok H T n wt m) (hS : Small T) (hl : sizeT T ≤ 1000000) :
    Calls Try.prog 30 #[.pointer (some ⟨H, 0, none⟩)] w fun e w' => ∃ vo, e = .returned vo ∧ Kd.N k38 38 w' w.heap.size (fun k => w.heap.size ≤ k) vo (scanT T ⟨#[]⟩ ⟨#[]⟩ n []) ∧ Below w.heap.size w w' := by
  have HT := Lib.hid h
  have HS := Lib.hid hS
  clear h hS
  go_enter Try.func30, Try.ntmps30
  go_wp2_with (first
    | (go_at_call 31; refine (len_calls _ ok H T n wt HT.out).mono ?_; rintro e w1 ⟨rfl, rfl⟩)
    | (go_at_call 25; refine (scan_calls _ ok H T n wt ⟨#[]⟩ ⟨#[]⟩ n HT.out HS.out hl).mono ?_; rintro e w1 ⟨v1, rfl, hN1, hb1⟩; have HN1 := Lib.hid hN1; have HB1 := Lib.hid hb1; clear hN1 hb1))
  go_ret
  exact ⟨_, rfl, HN1.out, HB1.out⟩
set_option maxHeartbeats 1000000 in
set_option maxRecDepth 100000 in
theorem all_none (w : World) : Calls Try.prog 30 #[.pointer none] w fun e w' => e = .returned (.slice none 0 0) ∧ w' = w := by
  go_enter Try.func30, Try.ntmps30
  go_wp2_with (first
    | (go_at_call 31; refine (len_none _).mono ?_; rintro e w1 ⟨rfl, rfl⟩)
    | (go_at_call 25; refine (scan_none _ ⟨#[]⟩ ⟨#[]⟩ 0).mono ?_; rintro e w1 ⟨rfl, rfl⟩))
  go_ret
  exact ⟨rfl, rfl⟩
set_option maxHeartbeats 1000000 in
set_option maxRecDepth 100000 in
theorem clone_tree (w : World) (ok : Nat → Prop) (H : Nat) (T : BT) (n wt : Int) {m : Bool} (h : HasTree w ok H T n wt m) :
    Calls Try.prog 36 #[.pointer (some ⟨H, 0, none⟩)] w fun e w' => e = .returned (.pointer (some ⟨w.heap.size, 0, none⟩)) ∧ HasTree w' ok w.heap.size T n wt m ∧ Below w.heap.size w w' := by
  obtain ⟨root, h1, h2⟩ := h.ex
  obtain ⟨a0, a1, a2, a3⟩ := cells4 h1
  obtain ⟨p, rfl⟩ := h2.ptr
  have hlt := lt_of_block h1
  have HT := Lib.hid h2
  clear h1 h2 h
  go_enter Try.func36, Try.ntmps36
  go_wp2
  go_ret
  have hb := below_alloc (Below.refl w.heap.size w) (.cells (treeCells (.pointer p) n wt m) 72)
  exact ⟨rfl, ⟨_, heap_alloc_new w _, HT.out.below hb⟩, hb⟩
set_option maxHeartbeats 1000000 in
set_option maxRecDepth 100000 in
theorem clone_none (w : World) : Calls Try.prog 36 #[.pointer none] w fun e w' => e = .returned (.pointer none) ∧ w' = w := by
  go_enter Try.func36, Try.ntmps36
  go_wp2
  go_ret
  exact ⟨rfl, rfl⟩
set_option maxHeartbeats 1000000 in
set_option maxRecDepth 100000 in
theorem get_some (w : World) (ok : Nat → Prop) (H : Nat) (T : BT) (n wt : Int) {m : Bool} (key : ByteArray) (x : S38) (h : HasTree w ok H T n wt m) (hf : findT T key = some x) (hxl : x.f2.f1.length ≤ 1000000) :
    Calls Try.prog 34 #[.pointer (some ⟨H, 0, none⟩), .string key] w fun e w' => ∃ A c, e = .returned (.tuple #[.agg (itemCells x A c), .bool true]) ∧ x.f2.f1.length ≤ c ∧ Kd.F (Kd.int .u8) w' (fun k => w.heap.size ≤ k) A x.f2.f1.length x.f2.f1 ∧ Below w.heap.size w w' := by
  have HT := Lib.hid h
  have HF := Lib.hid hf
  clear h hf
  go_enter Try.func34, Try.ntmps34
  go_wp2_with fail
  refine (find_calls _ ok H T n wt key (HT.out.below (below_alloc (Below.refl _ _) _))).mono ?_
  rintro e w1 ⟨hfe, hb1⟩
  rw [HF.out] at hfe
  obtain ⟨A, c, rfl, hc, hFo⟩ := hfe
  unfold itemCells
  have HC1 := Lib.hid (Kd.F_now hFo)
  clear hFo
  have hs1 := hb1.size
  simp only [World.size_alloc] at hs1
  have HB1 := Lib.hid (below_step (below_alloc (Below.refl w.heap.size w) _) hb1)
  have HX := Lib.hid (one_new w _ hb1)
  clear hb1
  go_wp2_with fail
  refine (own_calls x A c _ (Kd.C_alloc HC1.out _) (by omega)).mono ?_
  rintro e w2 ⟨A', c', rfl, hc', hF', hb2⟩
  have hs2 := hb2.size
  simp only [World.size_alloc] at hs2
  have hX2 := (hb2.block w.heap.size (by simp; omega)).trans (((below_alloc (Below.refl _ _) _).block w.heap.size (by omega)).trans HX.out)
  obtain ⟨d0, d1, d2, d3, d4, d5, d6, d7⟩ := cells8 hX2
  have hfr := frees hX2
  have HF' := Lib.hid hF'
  have HB2 := Lib.hid (below_step (below_alloc HB1.out _) hb2)
  clear hX2 hF' hb2
  unfold itemCells 
  go_wp2
  refine bodyPost_ret (v := .tuple #[.agg (itemCells x A' c'), .bool true]) (by simp [results, itemCells, Try.results34, go_sem, d0, d1, d2, d3, d4, d5, d6, d7]) rfl ⟨A', c', rfl, hc', ?_, ?_⟩
  · refine Kd.F_mono (ok := fun k => w1.heap.size + 1 ≤ k) ?_ (fun k hk => by omega)
    repeat (refine Kd.F_far ?_ (by intro k hk; simp at hk ⊢; omega) _)
    refine Kd.F_mono HF'.out (fun k hk => by simpa using hk)
  · repeat (refine Below.setCell ?_ (by simp) _)
    exact HB2.out
set_option maxHeartbeats 1000000 in
set_option maxRecDepth 100000 in
theorem get_none (w : World) (ok : Nat → Prop) (H : Nat) (T : BT) (n wt : Int) {m : Bool} (key : ByteArray) (h : HasTree w ok H T n wt m) (hf : findT T key = none) :
    Calls Try.prog 34 #[.pointer (some ⟨H, 0, none⟩), .string key] w fun e w' => ∃ A c, e = .returned (.tuple #[.agg (itemCells zeroS A c), .bool false]) ∧ zeroS.f2.f1.length ≤ c ∧ Kd.F (Kd.int .u8) w' (fun k => w.heap.size ≤ k) A zeroS.f2.f1.length zeroS.f2.f1 ∧ Below w.heap.size w w' := by
  have HT := Lib.hid h
  have HF := Lib.hid hf
  clear h hf
  go_enter Try.func34, Try.ntmps34
  go_wp2_with fail
  refine (find_calls _ ok H T n wt key (HT.out.below (below_alloc (Below.refl _ _) _))).mono ?_
  rintro e w1 ⟨hfe, hb1⟩
  rw [HF.out] at hfe
  obtain rfl := hfe
  unfold zeroItem
  have hs1 := hb1.size
  simp only [World.size_alloc] at hs1
  have HB1 := Lib.hid (below_step (below_alloc (Below.refl w.heap.size w) _) hb1)
  have HX := Lib.hid (one_new w _ hb1)
  clear hb1
  go_wp2_with fail
  refine (own_calls zeroS none 0 _ (Kd.C_nil _ _) (by simp [zeroS])).mono ?_
  rintro e w2 ⟨A', c', rfl, hc', hF', hb2⟩
  have hs2 := hb2.size
  simp only [World.size_alloc] at hs2
  have hX2 := (hb2.block w.heap.size (by simp; omega)).trans (((below_alloc (Below.refl _ _) _).block w.heap.size (by omega)).trans HX.out)
  obtain ⟨d0, d1, d2, d3, d4, d5, d6, d7⟩ := cells8 hX2
  have hfr := frees hX2
  have HF' := Lib.hid hF'
  have HB2 := Lib.hid (below_step (below_alloc HB1.out _) hb2)
  clear hX2 hF' hb2
  unfold itemCells zeroS
  go_wp2
  refine bodyPost_ret (v := .tuple #[.agg (itemCells zeroS A' c'), .bool false]) (by simp [results, itemCells, zeroS, Try.results34, go_sem, d0, d1, d2, d3, d4, d5, d6, d7]) rfl ⟨A', c', rfl, hc', ?_, ?_⟩
  · refine Kd.F_mono (ok := fun k => w1.heap.size + 1 ≤ k) ?_ (fun k hk => by omega)
    repeat (refine Kd.F_far ?_ (by intro k hk; simp at hk ⊢; omega) _)
    refine Kd.F_mono HF'.out (fun k hk => by simpa using hk)
  · repeat (refine Below.setCell ?_ (by simp) _)
    exact HB2.out
set_option maxHeartbeats 1000000 in
set_option maxRecDepth 100000 in
theorem get_nobody (w : World) (key : ByteArray) :
    Calls Try.prog 34 #[.pointer none, .string key] w fun e w' => ∃ A c, e = .returned (.tuple #[.agg (itemCells zeroS A c), .bool false]) ∧ zeroS.f2.f1.length ≤ c ∧ Kd.F (Kd.int .u8) w' (fun k => w.heap.size ≤ k) A zeroS.f2.f1.length zeroS.f2.f1 ∧ Below w.heap.size w w' := by
  go_enter Try.func34, Try.ntmps34
  go_wp2_with fail
  refine (find_none _ key).mono ?_
  rintro e w1 ⟨hfe, hb1⟩
  obtain rfl := hfe
  unfold zeroItem
  have hs1 := hb1.size
  simp only [World.size_alloc] at hs1
  have HB1 := Lib.hid (below_step (below_alloc (Below.refl w.heap.size w) _) hb1)
  have HX := Lib.hid (one_new w _ hb1)
  clear hb1
  go_wp2_with fail
  refine (own_calls zeroS none 0 _ (Kd.C_nil _ _) (by simp [zeroS])).mono ?_
  rintro e w2 ⟨A', c', rfl, hc', hF', hb2⟩
  have hs2 := hb2.size
  simp only [World.size_alloc] at hs2
  have hX2 := (hb2.block w.heap.size (by simp; omega)).trans (((below_alloc (Below.refl _ _) _).block w.heap.size (by omega)).trans HX.out)
  obtain ⟨d0, d1, d2, d3, d4, d5, d6, d7⟩ := cells8 hX2
  have hfr := frees hX2
  have HF' := Lib.hid hF'
  have HB2 := Lib.hid (below_step (below_alloc HB1.out _) hb2)
  clear hX2 hF' hb2
  unfold itemCells zeroS
  go_wp2
  refine bodyPost_ret (v := .tuple #[.agg (itemCells zeroS A' c'), .bool false]) (by simp [results, itemCells, zeroS, Try.results34, go_sem, d0, d1, d2, d3, d4, d5, d6, d7]) rfl ⟨A', c', rfl, hc', ?_, ?_⟩
  · refine Kd.F_mono (ok := fun k => w1.heap.size + 1 ≤ k) ?_ (fun k hk => by omega)
    repeat (refine Kd.F_far ?_ (by intro k hk; simp at hk ⊢; omega) _)
    refine Kd.F_mono HF'.out (fun k hk => by simpa using hk)
  · repeat (refine Below.setCell ?_ (by simp) _)
    exact HB2.out
end Go.Proofs.Ytgoidimipchejaa.Tr
