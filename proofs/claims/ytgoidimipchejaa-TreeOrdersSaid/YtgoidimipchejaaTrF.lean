/- Layer 10: the first items of a tree's range, by contract; no condition beyond the bounds that each lemma names. -/
import Derived.Test.YtgoidimipchejaaTrE
import Derived.Test.YtgoidimipchejaaWNEv
import Derived.Deep.RegionWith
namespace Go.Proofs.Ytgoidimipchejaa.Tr
open Go.RowKit Go.Proofs.Ytgoidimipchejaa.PT Go.Proofs.YtgoidimipchejaaW.PrintWords Go.Proofs.YtgoidimipchejaaW.PrintLast Go.Proofs.YtgoidimipchejaaW.PrintMore
set_option linter.unusedVariables false
set_option linter.unusedSimpArgs false
attribute [local go_sem ↓] Go.wp_at_zero Go.wp_at_succ

def scanT : BT → ByteArray → ByteArray → Int → List S38 → List S38
  | .nil, _, _, _, out => out
  | .node l x _ r, lo, hi, most, out =>
    if most ≤ (out.length : Int) then out
    else if Op.bytesLess x.f0.toList lo.toList = true then (if inHi x hi = true then scanT r lo hi most out else out)
    else if inHi x hi = true then scanT r lo hi most (if ((scanT l lo hi most out).length : Int) < most then scanT l lo hi most out ++ [x] else scanT l lo hi most out)
    else scanT l lo hi most out
theorem scanT_len : ∀ (T : BT) (lo hi : ByteArray) (most : Int) (out : List S38), (scanT T lo hi most out).length ≤ out.length + sizeT T
  | .nil, _, _, _, _ => by simp [scanT]
  | .node l x lev r, lo, hi, most, out => by
    have h1 := scanT_len l lo hi most out
    have h2 := fun o => scanT_len r lo hi most o
    simp only [scanT, sizeT]
    repeat' split
    · omega
    · have := h2 out; omega
    · omega
    · have := h2 (scanT l lo hi most out ++ [x]); simp at this ⊢; omega
    · have := h2 (scanT l lo hi most out); omega
    · omega
/-- What scanning is shown to do: B is a bound under which the tree lies, and over which what is told lies. -/
def ScanOk (T : BT) : Prop := ∀ (B : Nat) (ok : Nat → Prop) (lo hi : ByteArray) (most : Int) (v vo : Value) (out : List S38) (w : World), (∀ k, ok k → k < B) → B ≤ w.heap.size → FT w ok T v → Kd.N k38 38 w B (fun k => B ≤ k) vo out → out.length + sizeT T ≤ 1000000 →
    Calls Try.prog 52 #[v, .string lo, .string hi, .int .i64 most, vo] w fun e w' => ∃ vo', e = .returned vo' ∧ Kd.N k38 38 w' B (fun k => B ≤ k) vo' (scanT T lo hi most out) ∧ Below B w w'

set_option maxHeartbeats 4000000 in
set_option maxRecDepth 100000 in
theorem scan_nil : ScanOk .nil := by
  intro B ok lo hi most v vo out w hok hB h hN hl
  obtain rfl : v = .pointer none := h
  obtain ⟨Ao, co, rfl⟩ := Kd.N_slice hN
  have HN := Lib.hid hN
  clear hN
  go_enter Try.func52, Try.ntmps52
  go_wp2
  go_ret
  exact ⟨_, rfl, HN.out, Below.refl _ _⟩
set_option maxHeartbeats 4000000 in
set_option maxRecDepth 100000 in
theorem scan_full (l : BT) (x : S38) (lev : Int) (r : BT) (B : Nat) (ok : Nat → Prop) (lo hi : ByteArray) (most : Int) (v vo : Value) (out : List S38) (w : World) (h : FT w ok (.node l x lev r) v) (hN : Kd.N k38 38 w B (fun k => B ≤ k) vo out) (hm : most ≤ (out.length : Int)) :
    Calls Try.prog 52 #[v, .string lo, .string hi, .int .i64 most, vo] w fun e w' => ∃ vo', e = .returned vo' ∧ Kd.N k38 38 w' B (fun k => B ≤ k) vo' out ∧ Below B w w' := by
  obtain ⟨b, vl, vr, A2, c2, rfl, hb, hh, hc2, hf2, hl, hr⟩ := h
  obtain ⟨Ao, co, rfl⟩ := Kd.N_slice hN
  have HN := Lib.hid hN
  have hd : decide (most ≤ (out.length : Int)) = true := decide_eq_true hm
  clear hN hm hf2 hl hr hh
  go_enter Try.func52, Try.ntmps52
  go_wp2
  go_ret
  exact ⟨_, rfl, HN.out, Below.refl _ _⟩
set_option maxHeartbeats 1000000 in
set_option maxRecDepth 100000 in
theorem scan_low_out (l : BT) (x : S38) (lev : Int) (r : BT) (B : Nat) (ok : Nat → Prop) (lo hi : ByteArray) (most : Int) (v vo : Value) (out : List S38) (w : World) (hok : ∀ k, ok k → k < B) (hB : B ≤ w.heap.size) (h : FT w ok (.node l x lev r) v) (hN : Kd.N k38 38 w B (fun k => B ≤ k) vo out) (hsz : out.length + sizeT (.node l x lev r) ≤ 1000000) (hm : ¬ most ≤ (out.length : Int)) (hq : Op.bytesLess x.f0.toList lo.toList = true) (he : (hi.toList == ([] : List UInt8)) = false) (hk : Op.bytesLess x.f0.toList hi.toList = false) :
    Calls Try.prog 52 #[v, .string lo, .string hi, .int .i64 most, vo] w fun e w' => ∃ vo', e = .returned vo' ∧ Kd.N k38 38 w' B (fun k => B ≤ k) vo' (out) ∧ Below B w w' := by
  obtain ⟨b, vl, vr, A2, c2, rfl, hb, hh, hc2, hf2, hl, hr⟩ := h
  obtain ⟨Ao, co, rfl⟩ := Kd.N_slice hN
  obtain ⟨p1, rfl⟩ := hl.ptr
  obtain ⟨p2, rfl⟩ := hr.ptr
  have hlt := lt_of_block hh
  obtain ⟨a0, a1, a2, a3, a4, a5, a6, a7, a8, a9, a10⟩ := cells11 hh
  have HN := Lib.hid hN
  have HL := Lib.hid hl
  have HR := Lib.hid hr
  have HF := Lib.hid hf2
  have HOK := Lib.hid hok
  have hd : decide (most ≤ (out.length : Int)) = false := decide_eq_false hm
  simp only [sizeT] at hsz
  clear hN hm hf2 hl hr hh hok
  go_enter Try.func52, Try.ntmps52
  go_wp2
  go_ret
  exact ⟨_, rfl, HN.out, Below.refl _ _⟩
set_option maxHeartbeats 1000000 in
set_option maxRecDepth 100000 in
theorem scan_low_in (l : BT) (x : S38) (lev : Int) (r : BT) (ihr : ScanOk r) (B : Nat) (ok : Nat → Prop) (lo hi : ByteArray) (most : Int) (v vo : Value) (out : List S38) (w : World) (hok : ∀ k, ok k → k < B) (hB : B ≤ w.heap.size) (h : FT w ok (.node l x lev r) v) (hN : Kd.N k38 38 w B (fun k => B ≤ k) vo out) (hsz : out.length + sizeT (.node l x lev r) ≤ 1000000) (hm : ¬ most ≤ (out.length : Int)) (hq : Op.bytesLess x.f0.toList lo.toList = true) (hi1 : inHi x hi = true) :
    Calls Try.prog 52 #[v, .string lo, .string hi, .int .i64 most, vo] w fun e w' => ∃ vo', e = .returned vo' ∧ Kd.N k38 38 w' B (fun k => B ≤ k) vo' (scanT r lo hi most out) ∧ Below B w w' := by
  obtain ⟨b, vl, vr, A2, c2, rfl, hb, hh, hc2, hf2, hl, hr⟩ := h
  obtain ⟨Ao, co, rfl⟩ := Kd.N_slice hN
  obtain ⟨p1, rfl⟩ := hl.ptr
  obtain ⟨p2, rfl⟩ := hr.ptr
  have hlt := lt_of_block hh
  obtain ⟨a0, a1, a2, a3, a4, a5, a6, a7, a8, a9, a10⟩ := cells11 hh
  have HN := Lib.hid hN
  have HL := Lib.hid hl
  have HR := Lib.hid hr
  have HF := Lib.hid hf2
  have HOK := Lib.hid hok
  have hd : decide (most ≤ (out.length : Int)) = false := decide_eq_false hm
  simp only [sizeT] at hsz
  have IHR := Lib.hid ihr
  clear hN hm hf2 hl hr hh hok ihr
  cases he : (hi.toList == ([] : List UInt8)) with
  | true =>
    clear hi1
    go_enter Try.func52, Try.ntmps52
    go_wp2_with (first | (go_at_call 52; refine (IHR.out B ok lo hi most _ _ out _ HOK.out (by simpa using hB) HR.out HN.out (by omega)).mono ?_; rintro e w1 ⟨v1, rfl, hN1, hb1⟩; have HN1 := Lib.hid hN1; have HB1 := Lib.hid hb1; clear hN1 hb1))
    go_ret
    exact ⟨_, rfl, HN1.out, HB1.out⟩
  | false =>
    have hk : Op.bytesLess x.f0.toList hi.toList = true := by unfold inHi at hi1; rw [he] at hi1; simpa using hi1
    clear hi1
    go_enter Try.func52, Try.ntmps52
    go_wp2_with (first | (go_at_call 52; refine (IHR.out B ok lo hi most _ _ out _ HOK.out (by simpa using hB) HR.out HN.out (by omega)).mono ?_; rintro e w1 ⟨v1, rfl, hN1, hb1⟩; have HN1 := Lib.hid hN1; have HB1 := Lib.hid hb1; clear hN1 hb1))
    go_ret
    exact ⟨_, rfl, HN1.out, HB1.out⟩
set_option maxHeartbeats 1000000 in
set_option maxRecDepth 100000 in
theorem scan_mid_out (l : BT) (x : S38) (lev : Int) (r : BT) (ihl : ScanOk l) (B : Nat) (ok : Nat → Prop) (lo hi : ByteArray) (most : Int) (v vo : Value) (out : List S38) (w : World) (hok : ∀ k, ok k → k < B) (hB : B ≤ w.heap.size) (h : FT w ok (.node l x lev r) v) (hN : Kd.N k38 38 w B (fun k => B ≤ k) vo out) (hsz : out.length + sizeT (.node l x lev r) ≤ 1000000) (hm : ¬ most ≤ (out.length : Int)) (hq : Op.bytesLess x.f0.toList lo.toList = false) (he : (hi.toList == ([] : List UInt8)) = false) (hk : Op.bytesLess x.f0.toList hi.toList = false) :
    Calls Try.prog 52 #[v, .string lo, .string hi, .int .i64 most, vo] w fun e w' => ∃ vo', e = .returned vo' ∧ Kd.N k38 38 w' B (fun k => B ≤ k) vo' (scanT l lo hi most out) ∧ Below B w w' := by
  obtain ⟨b, vl, vr, A2, c2, rfl, hb, hh, hc2, hf2, hl, hr⟩ := h
  obtain ⟨Ao, co, rfl⟩ := Kd.N_slice hN
  obtain ⟨p1, rfl⟩ := hl.ptr
  obtain ⟨p2, rfl⟩ := hr.ptr
  have hlt := lt_of_block hh
  obtain ⟨a0, a1, a2, a3, a4, a5, a6, a7, a8, a9, a10⟩ := cells11 hh
  have HN := Lib.hid hN
  have HL := Lib.hid hl
  have HR := Lib.hid hr
  have HF := Lib.hid hf2
  have HOK := Lib.hid hok
  have hd : decide (most ≤ (out.length : Int)) = false := decide_eq_false hm
  simp only [sizeT] at hsz
  have IHL := Lib.hid ihl
  have HH := Lib.hid hh
  have hlo := scanT_len l lo hi most out
  clear hN hm hf2 hl hr hh hok ihl
  cases hn : decide (((scanT l lo hi most out).length : Int) < most) with
  | true =>
    go_enter Try.func52, Try.ntmps52
    go_wp2_with (first | (go_at_call_of 52 (Value.pointer p1); refine (IHL.out B ok lo hi most _ _ out _ HOK.out (by simpa using hB) HL.out HN.out (by omega)).mono ?_; rintro e w1 ⟨v1, rfl, hN1, hb1⟩; obtain ⟨A1, k1, rfl⟩ := Kd.N_slice hN1; have hbB := HOK.out b hb; obtain ⟨d0, d1, d2, d3, d4, d5, d6, d7, d8, d9, d10⟩ := cells11 ((hb1.block b hbB).trans HH.out); have HR1 := Lib.hid (HR.out.step fun k hk _ => hb1.block k (HOK.out k hk)); have HC1 := Lib.hid (HF.out w1 fun k hk _ => hb1.block k (HOK.out k hk)); have hs1 := hb1.size; have hB1 : B ≤ w1.heap.size := Nat.le_trans hB hs1; have HN1 := Lib.hid hN1; have HB1 := Lib.hid hb1; clear hN1 hb1))
    go_ret
    exact ⟨_, rfl, HN1.out, HB1.out⟩
  | false =>
    go_enter Try.func52, Try.ntmps52
    go_wp2_with (first | (go_at_call_of 52 (Value.pointer p1); refine (IHL.out B ok lo hi most _ _ out _ HOK.out (by simpa using hB) HL.out HN.out (by omega)).mono ?_; rintro e w1 ⟨v1, rfl, hN1, hb1⟩; obtain ⟨A1, k1, rfl⟩ := Kd.N_slice hN1; have hbB := HOK.out b hb; obtain ⟨d0, d1, d2, d3, d4, d5, d6, d7, d8, d9, d10⟩ := cells11 ((hb1.block b hbB).trans HH.out); have HR1 := Lib.hid (HR.out.step fun k hk _ => hb1.block k (HOK.out k hk)); have HC1 := Lib.hid (HF.out w1 fun k hk _ => hb1.block k (HOK.out k hk)); have hs1 := hb1.size; have hB1 : B ≤ w1.heap.size := Nat.le_trans hB hs1; have HN1 := Lib.hid hN1; have HB1 := Lib.hid hb1; clear hN1 hb1))
    go_ret
    exact ⟨_, rfl, HN1.out, HB1.out⟩
set_option maxHeartbeats 1000000 in
set_option maxRecDepth 100000 in
theorem scan_mid_no (l : BT) (x : S38) (lev : Int) (r : BT) (ihl : ScanOk l) (ihr : ScanOk r) (B : Nat) (ok : Nat → Prop) (lo hi : ByteArray) (most : Int) (v vo : Value) (out : List S38) (w : World) (hok : ∀ k, ok k → k < B) (hB : B ≤ w.heap.size) (h : FT w ok (.node l x lev r) v) (hN : Kd.N k38 38 w B (fun k => B ≤ k) vo out) (hsz : out.length + sizeT (.node l x lev r) ≤ 1000000) (hm : ¬ most ≤ (out.length : Int)) (hq : Op.bytesLess x.f0.toList lo.toList = false) (hi1 : inHi x hi = true) (hn : decide (((scanT l lo hi most out).length : Int) < most) = false) :
    Calls Try.prog 52 #[v, .string lo, .string hi, .int .i64 most, vo] w fun e w' => ∃ vo', e = .returned vo' ∧ Kd.N k38 38 w' B (fun k => B ≤ k) vo' (scanT r lo hi most (scanT l lo hi most out)) ∧ Below B w w' := by
  obtain ⟨b, vl, vr, A2, c2, rfl, hb, hh, hc2, hf2, hl, hr⟩ := h
  obtain ⟨Ao, co, rfl⟩ := Kd.N_slice hN
  obtain ⟨p1, rfl⟩ := hl.ptr
  obtain ⟨p2, rfl⟩ := hr.ptr
  have hlt := lt_of_block hh
  obtain ⟨a0, a1, a2, a3, a4, a5, a6, a7, a8, a9, a10⟩ := cells11 hh
  have HN := Lib.hid hN
  have HL := Lib.hid hl
  have HR := Lib.hid hr
  have HF := Lib.hid hf2
  have HOK := Lib.hid hok
  have hd : decide (most ≤ (out.length : Int)) = false := decide_eq_false hm
  simp only [sizeT] at hsz
  have IHL := Lib.hid ihl
  have HH := Lib.hid hh
  have hlo := scanT_len l lo hi most out
  have IHR := Lib.hid ihr
  clear ihr hN hm hf2 hl hr hh hok ihl
  cases he : (hi.toList == ([] : List UInt8)) with
  | true =>
    clear hi1
    go_enter Try.func52, Try.ntmps52
    go_wp2_with (first
      | (go_at_call_of 52 (Value.pointer p1); refine (IHL.out B ok lo hi most _ _ out _ HOK.out (by simpa using hB) HL.out HN.out (by omega)).mono ?_; rintro e w1 ⟨v1, rfl, hN1, hb1⟩; obtain ⟨A1, k1, rfl⟩ := Kd.N_slice hN1; have hbB := HOK.out b hb; obtain ⟨d0, d1, d2, d3, d4, d5, d6, d7, d8, d9, d10⟩ := cells11 ((hb1.block b hbB).trans HH.out); have HR1 := Lib.hid (HR.out.step fun k hk _ => hb1.block k (HOK.out k hk)); have HC1 := Lib.hid (HF.out w1 fun k hk _ => hb1.block k (HOK.out k hk)); have hs1 := hb1.size; have hB1 : B ≤ w1.heap.size := Nat.le_trans hB hs1; have HN1 := Lib.hid hN1; have HB1 := Lib.hid hb1; clear hN1 hb1)
      | (go_at_call_of 52 (Value.pointer p2); refine (IHR.out B ok lo hi most _ _ _ _ HOK.out (by simpa using hB1) HR1.out HN1.out (by omega)).mono ?_; rintro e w2 ⟨v2, rfl, hN2, hb2⟩; have HN2 := Lib.hid hN2; have HB2 := Lib.hid (HB1.out.trans hb2); clear hN2 hb2))
    go_ret
    exact ⟨_, rfl, HN2.out, HB2.out⟩
  | false =>
    have hk : Op.bytesLess x.f0.toList hi.toList = true := by unfold inHi at hi1; rw [he] at hi1; simpa using hi1
    clear hi1
    go_enter Try.func52, Try.ntmps52
    go_wp2_with (first
      | (go_at_call_of 52 (Value.pointer p1); refine (IHL.out B ok lo hi most _ _ out _ HOK.out (by simpa using hB) HL.out HN.out (by omega)).mono ?_; rintro e w1 ⟨v1, rfl, hN1, hb1⟩; obtain ⟨A1, k1, rfl⟩ := Kd.N_slice hN1; have hbB := HOK.out b hb; obtain ⟨d0, d1, d2, d3, d4, d5, d6, d7, d8, d9, d10⟩ := cells11 ((hb1.block b hbB).trans HH.out); have HR1 := Lib.hid (HR.out.step fun k hk _ => hb1.block k (HOK.out k hk)); have HC1 := Lib.hid (HF.out w1 fun k hk _ => hb1.block k (HOK.out k hk)); have hs1 := hb1.size; have hB1 : B ≤ w1.heap.size := Nat.le_trans hB hs1; have HN1 := Lib.hid hN1; have HB1 := Lib.hid hb1; clear hN1 hb1)
      | (go_at_call_of 52 (Value.pointer p2); refine (IHR.out B ok lo hi most _ _ _ _ HOK.out (by simpa using hB1) HR1.out HN1.out (by omega)).mono ?_; rintro e w2 ⟨v2, rfl, hN2, hb2⟩; have HN2 := Lib.hid hN2; have HB2 := Lib.hid (HB1.out.trans hb2); clear hN2 hb2))
    go_ret
    exact ⟨_, rfl, HN2.out, HB2.out⟩
set_option maxHeartbeats 1000000 in
set_option maxRecDepth 100000 in
theorem scan_mid_yes (l : BT) (x : S38) (lev : Int) (r : BT) (ihl : ScanOk l) (ihr : ScanOk r) (B : Nat) (ok : Nat → Prop) (lo hi : ByteArray) (most : Int) (v vo : Value) (out : List S38) (w : World) (hok : ∀ k, ok k → k < B) (hB : B ≤ w.heap.size) (h : FT w ok (.node l x lev r) v) (hN : Kd.N k38 38 w B (fun k => B ≤ k) vo out) (hsz : out.length + sizeT (.node l x lev r) ≤ 1000000) (hm : ¬ most ≤ (out.length : Int)) (hq : Op.bytesLess x.f0.toList lo.toList = false) (hi1 : inHi x hi = true) (hn : decide (((scanT l lo hi most out).length : Int) < most) = true) (hxl : x.f2.f1.length ≤ 1000000) :
    Calls Try.prog 52 #[v, .string lo, .string hi, .int .i64 most, vo] w fun e w' => ∃ vo', e = .returned vo' ∧ Kd.N k38 38 w' B (fun k => B ≤ k) vo' (scanT r lo hi most (scanT l lo hi most out ++ [x])) ∧ Below B w w' := by
  obtain ⟨b, vl, vr, A2, c2, rfl, hb, hh, hc2, hf2, hl, hr⟩ := h
  obtain ⟨Ao, co, rfl⟩ := Kd.N_slice hN
  obtain ⟨p1, rfl⟩ := hl.ptr
  obtain ⟨p2, rfl⟩ := hr.ptr
  have hlt := lt_of_block hh
  obtain ⟨a0, a1, a2, a3, a4, a5, a6, a7, a8, a9, a10⟩ := cells11 hh
  have HN := Lib.hid hN
  have HL := Lib.hid hl
  have HR := Lib.hid hr
  have HF := Lib.hid hf2
  have HOK := Lib.hid hok
  have hd : decide (most ≤ (out.length : Int)) = false := decide_eq_false hm
  simp only [sizeT] at hsz
  have IHL := Lib.hid ihl
  have HH := Lib.hid hh
  have hlo := scanT_len l lo hi most out
  have IHR := Lib.hid ihr
  clear ihr hN hm hf2 hl hr hh hok ihl
  cases he : (hi.toList == ([] : List UInt8)) with
  | true =>
    clear hi1
    go_enter Try.func52, Try.ntmps52
    go_wp2_with (first
      | (go_at_call_of 52 (Value.pointer p1); refine (IHL.out B ok lo hi most _ _ out _ HOK.out (by simpa using hB) HL.out HN.out (by omega)).mono ?_; rintro e w1 ⟨v1, rfl, hN1, hb1⟩; obtain ⟨A1, k1, rfl⟩ := Kd.N_slice hN1; have hbB := HOK.out b hb; obtain ⟨d0, d1, d2, d3, d4, d5, d6, d7, d8, d9, d10⟩ := cells11 ((hb1.block b hbB).trans HH.out); have HR1 := Lib.hid (HR.out.step fun k hk _ => hb1.block k (HOK.out k hk)); have HC1 := Lib.hid (HF.out w1 fun k hk _ => hb1.block k (HOK.out k hk)); have hs1 := hb1.size; have hB1 : B ≤ w1.heap.size := Nat.le_trans hB hs1; have HN1 := Lib.hid hN1; have HB1 := Lib.hid hb1; clear hN1 hb1)
      | (go_at_call 57; refine (own_calls x A2 c2 _ HC1.out (by omega)).mono ?_; rintro e w3 ⟨A', c', rfl, hc3, hF3, hb3⟩; unfold itemCells; have hs3 := hb3.size; have hB3 : B ≤ w3.heap.size := Nat.le_trans hB1 hs3; have HF3 := Lib.hid hF3; have HN3 := Lib.hid (Kd.N_below HN1.out hb3); have HB3 := Lib.hid (below_then HB1.out hB1 hb3); have hown : Hid (∀ k, w1.heap.size ≤ k → some k ≠ (Value.slice A1 (scanT l lo hi most out).length k1).ownBlock) := Lib.hid (fun k hk he => by obtain ⟨cs, hcs⟩ := Kd.N_typed HN1.out k he.symm; have := lt_of_block hcs; omega); clear hF3 hb3)
      | ((with_reducible refine gate_builtin (b := .append) (xs := #[.tmp 53, .tmp 59]) rfl ?_); (try (refine gate_guard (by rfl) ?_; dsimp only)); at_builtin; refine Kd.N_append k38 (w0 := w) B rfl (.tmp 53) (.tmp 59) 29 38 (.agg #[(.string ⟨#[]⟩), (.bool false), (.bool false), (.slice none 0 0), (.int .i64 0), (.int .i64 0), (.int .i64 0), (.int .u32 0)]) 88 rfl Try.underlying29 info38 rfl (by decide) (by omega) (.slice A1 (scanT l lo hi most out).length k1) (scanT l lo hi most out) x [.string x.f0, .bool x.f1, .bool x.f2.f0, .slice A' x.f2.f1.length c', .int .i64 x.f2.f2.f0, .int .i64 x.f2.f2.f1, .int .i64 x.f2.f2.f2, .int .u32 x.f2.f2.f3] (fun k => B ≤ k) (fun k => w1.heap.size ≤ k) rfl rfl (k38_mkF _ _ x hc3 HF3.out) (fun k hk => ⟨Nat.le_trans hB1 hk, hown.out k hk⟩) (fun k hk => Nat.le_trans hB3 hk) HN3.out HB3.out hB3 (by omega) ?_; intro v4 w4 ho hb4 _ _; have hs4 := hb4.size; have hB4 : B ≤ w4.heap.size := Nat.le_trans hB hs4; have HR4 := Lib.hid (HR.out.step fun k hk _ => hb4.block k (HOK.out k hk)); obtain ⟨A5, k5, e5⟩ := Kd.N_slice ho; subst e5; rw [List.length_append, List.length_singleton] at ho; have HN4 := Lib.hid ho; have HB4 := Lib.hid hb4; have hbB4 := HOK.out b hb; obtain ⟨g0, g1, g2, g3, g4, g5, g6, g7, g8, g9, g10⟩ := cells11 ((hb4.block b hbB4).trans HH.out); clear ho hb4)
      | (go_at_call_of 52 (Value.pointer p2); refine (IHR.out B ok lo hi most _ _ _ _ HOK.out (by simpa using hB4) HR4.out HN4.out (by simp; omega)).mono ?_; rintro e w2 ⟨v2, rfl, hN2, hb2⟩; have HN2 := Lib.hid hN2; have HB2 := Lib.hid (HB4.out.trans hb2); clear hN2 hb2))
    go_ret
    exact ⟨_, rfl, HN2.out, HB2.out⟩
  | false =>
    have hk : Op.bytesLess x.f0.toList hi.toList = true := by unfold inHi at hi1; rw [he] at hi1; simpa using hi1
    clear hi1
    go_enter Try.func52, Try.ntmps52
    go_wp2_with (first
      | (go_at_call_of 52 (Value.pointer p1); refine (IHL.out B ok lo hi most _ _ out _ HOK.out (by simpa using hB) HL.out HN.out (by omega)).mono ?_; rintro e w1 ⟨v1, rfl, hN1, hb1⟩; obtain ⟨A1, k1, rfl⟩ := Kd.N_slice hN1; have hbB := HOK.out b hb; obtain ⟨d0, d1, d2, d3, d4, d5, d6, d7, d8, d9, d10⟩ := cells11 ((hb1.block b hbB).trans HH.out); have HR1 := Lib.hid (HR.out.step fun k hk _ => hb1.block k (HOK.out k hk)); have HC1 := Lib.hid (HF.out w1 fun k hk _ => hb1.block k (HOK.out k hk)); have hs1 := hb1.size; have hB1 : B ≤ w1.heap.size := Nat.le_trans hB hs1; have HN1 := Lib.hid hN1; have HB1 := Lib.hid hb1; clear hN1 hb1)
      | (go_at_call 57; refine (own_calls x A2 c2 _ HC1.out (by omega)).mono ?_; rintro e w3 ⟨A', c', rfl, hc3, hF3, hb3⟩; unfold itemCells; have hs3 := hb3.size; have hB3 : B ≤ w3.heap.size := Nat.le_trans hB1 hs3; have HF3 := Lib.hid hF3; have HN3 := Lib.hid (Kd.N_below HN1.out hb3); have HB3 := Lib.hid (below_then HB1.out hB1 hb3); have hown : Hid (∀ k, w1.heap.size ≤ k → some k ≠ (Value.slice A1 (scanT l lo hi most out).length k1).ownBlock) := Lib.hid (fun k hk he => by obtain ⟨cs, hcs⟩ := Kd.N_typed HN1.out k he.symm; have := lt_of_block hcs; omega); clear hF3 hb3)
      | ((with_reducible refine gate_builtin (b := .append) (xs := #[.tmp 53, .tmp 59]) rfl ?_); (try (refine gate_guard (by rfl) ?_; dsimp only)); at_builtin; refine Kd.N_append k38 (w0 := w) B rfl (.tmp 53) (.tmp 59) 29 38 (.agg #[(.string ⟨#[]⟩), (.bool false), (.bool false), (.slice none 0 0), (.int .i64 0), (.int .i64 0), (.int .i64 0), (.int .u32 0)]) 88 rfl Try.underlying29 info38 rfl (by decide) (by omega) (.slice A1 (scanT l lo hi most out).length k1) (scanT l lo hi most out) x [.string x.f0, .bool x.f1, .bool x.f2.f0, .slice A' x.f2.f1.length c', .int .i64 x.f2.f2.f0, .int .i64 x.f2.f2.f1, .int .i64 x.f2.f2.f2, .int .u32 x.f2.f2.f3] (fun k => B ≤ k) (fun k => w1.heap.size ≤ k) rfl rfl (k38_mkF _ _ x hc3 HF3.out) (fun k hk => ⟨Nat.le_trans hB1 hk, hown.out k hk⟩) (fun k hk => Nat.le_trans hB3 hk) HN3.out HB3.out hB3 (by omega) ?_; intro v4 w4 ho hb4 _ _; have hs4 := hb4.size; have hB4 : B ≤ w4.heap.size := Nat.le_trans hB hs4; have HR4 := Lib.hid (HR.out.step fun k hk _ => hb4.block k (HOK.out k hk)); obtain ⟨A5, k5, e5⟩ := Kd.N_slice ho; subst e5; rw [List.length_append, List.length_singleton] at ho; have HN4 := Lib.hid ho; have HB4 := Lib.hid hb4; have hbB4 := HOK.out b hb; obtain ⟨g0, g1, g2, g3, g4, g5, g6, g7, g8, g9, g10⟩ := cells11 ((hb4.block b hbB4).trans HH.out); clear ho hb4)
      | (go_at_call_of 52 (Value.pointer p2); refine (IHR.out B ok lo hi most _ _ _ _ HOK.out (by simpa using hB4) HR4.out HN4.out (by simp; omega)).mono ?_; rintro e w2 ⟨v2, rfl, hN2, hb2⟩; have HN2 := Lib.hid hN2; have HB2 := Lib.hid (HB4.out.trans hb2); clear hN2 hb2))
    go_ret
    exact ⟨_, rfl, HN2.out, HB2.out⟩
end Go.Proofs.Ytgoidimipchejaa.Tr
