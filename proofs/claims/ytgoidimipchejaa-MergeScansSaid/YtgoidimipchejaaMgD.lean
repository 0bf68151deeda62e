/- Layer 14: the heap repaired from one place on, by contract; no condition beyond the bounds that each lemma names. -/
import Derived.Test.YtgoidimipchejaaMgC
import Derived.BigQuiet
import Derived.BigRegion
import Derived.Deep.QuietTactic
namespace Go.Proofs.Ytgoidimipchejaa.Mg
open Go.RowKit Go.Proofs.Ytgoidimipchejaa.PT Go.Proofs.Ytgoidimipchejaa.Tr Go.Proofs.YtgoidimipchejaaW.PrintWords Go.Proofs.YtgoidimipchejaaW.PrintLast Go.Proofs.YtgoidimipchejaaW.PrintMore
set_option linter.unusedVariables false
set_option linter.unusedSimpArgs false
attribute [local go_sem ↓] Go.wp_at_zero Go.wp_at_succ

theorem quiet_add {P : Program} {f : FuncId} {args : Array Value} {w : World} {a n : Nat} {v : Value}
    (h : Calls P f args (w.drewN (a + n)) fun e w' => e = .returned v ∧ ∃ m, w' = (w.drewN (a + n)).drewN m) :
    Calls P f args (w.drewN (a + n)) fun e w'' => e = .returned v ∧ ∃ m, w'' = w.drewN (a + m) :=
  h.mono fun _ _ ⟨he, m, hm⟩ => ⟨he, n + m, by rw [hm, World.drewN_drewN, Nat.add_assoc]⟩
theorem HasWalk.drewN {W : World} {base : Nat} {Q : Nat → Prop} {H : Nat} {lv : Value} {A : Option Addr} {c : Nat} {ls : List (List S38)} {hp : List Int} (h : HasWalk W base Q H lv A c ls hp) (n : Nat) : HasWalk (W.drewN n) base Q H lv A c ls hp := h.below (pw_below_drewN (Below.refl _ _) n)
theorem HasWalk.ne {W : World} {base : Nat} {Q : Nat → Prop} {H g : Nat} {lv : Value} {c : Nat} {ls : List (List S38)} {hp : List Int} (h : HasWalk W base Q H lv (some ⟨g, 0, none⟩) c ls hp) : g ≠ H := h.heap.1 g (by simp [Value.ownBlock])
/-- One place of the heap. -/
theorem HasWalk.at {W : World} {base : Nat} {Q : Nat → Prop} {H g : Nat} {lv : Value} {c : Nat} {ls : List (List S38)} {hp : List Int} (h : HasWalk W base Q H lv (some ⟨g, 0, none⟩) c ls hp) (z : Int) (h0 : 0 ≤ z) (h1 : z < hp.length) :
    W.cell? ⟨g, z.toNat, none⟩ = some (.int .i64 (hat hp z.toNat)) ∧ W.frozen? ⟨g, z.toNat, none⟩ = false := by
  obtain ⟨cs, hl, hM, hc, hf⟩ := Kd.R_elem h.heap 0 z h0 h1
  have hM' : cs = [.int .i64 (hp.getD z.toNat 0)] := hM
  subst hM'
  have h2 := hc 0 _ rfl
  have h3 := hf 0
  rw [show z.toNat * (Kd.int .i64).sz + 0 = z.toNat by show z.toNat * 1 + 0 = _; omega] at h2 h3
  exact ⟨h2, h3⟩
theorem HasWalk.set {W : World} {base : Nat} {Q : Nat → Prop} {H g : Nat} {lv : Value} {c : Nat} {ls : List (List S38)} {hp : List Int} (h : HasWalk W base Q H lv (some ⟨g, 0, none⟩) c ls hp) (z : Int) (v : Int) :
    HasWalk (W.setCell ⟨g, z.toNat, none⟩ (.int .i64 v)) base Q H lv (some ⟨g, 0, none⟩) c ls (hp.set z.toNat v) ∧ W.grownBy (W.setCell ⟨g, z.toNat, none⟩ (.int .i64 v)) (some g) := by
  have hne := h.ne
  have hp2 := Kd.R_put (e := 3) (enc := Value.int .i64) (h1 := fun _ => rfl) h.heap z v
  have hl : (hp.set z.toNat v).length = hp.length := by simp
  refine ⟨⟨?_, ?_, ?_⟩, hp2.2⟩
  · rw [hl]; exact (Below.heap_setCell W ⟨g, z.toNat, none⟩ _ H (fun e => hne e.symm)).trans h.obj
  · rw [hl]
    exact Kd.N_far (p := ⟨g, z.toNat, none⟩) h.lists (fun k hk e => hk.1.2 (by rw [e]; simp [Value.ownBlock])) _
  · rw [hl]; exact hp2.1
theorem HasWalk.swap {W : World} {base : Nat} {Q : Nat → Prop} {H g : Nat} {lv : Value} {c : Nat} {ls : List (List S38)} {hp : List Int} (h : HasWalk W base Q H lv (some ⟨g, 0, none⟩) c ls hp) (z u : Int) :
    HasWalk ((W.setCell ⟨g, z.toNat, none⟩ (.int .i64 (hat hp u.toNat))).setCell ⟨g, u.toNat, none⟩ (.int .i64 (hat hp z.toNat))) base Q H lv (some ⟨g, 0, none⟩) c ls (swap hp z.toNat u.toNat) ∧
    W.grownBy ((W.setCell ⟨g, z.toNat, none⟩ (.int .i64 (hat hp u.toNat))).setCell ⟨g, u.toNat, none⟩ (.int .i64 (hat hp z.toNat))) (some g) := by
  have h1 := h.set z (hat hp u.toNat)
  have h2 := h1.1.set u (hat hp z.toNat)
  exact ⟨h2.1, ⟨h2.2.os.trans h1.2.os, h2.2.tape.trans h1.2.tape, h2.2.output.trans h1.2.output, Nat.le_trans h1.2.size h2.2.size, fun k hk hr => (h2.2.block k (Nat.lt_of_lt_of_le hk h1.2.size) hr).trans (h1.2.block k hk hr)⟩⟩
theorem grown_below9 {w W W1 : World} {r : Option Nat} (hb : Below w.heap.size w W) (hg : W.grownBy W1 r) : w.grownBy W1 r :=
  ⟨hg.os.trans hb.os, hg.tape.trans hb.tape, hg.output.trans hb.output, Nat.le_trans hb.size hg.size, fun k hk hr => (hg.block k (Nat.lt_of_lt_of_le hk hb.size) hr).trans (hb.block k hk)⟩
theorem grown_step9 {w W W1 : World} {r : Option Nat} (h : w.grownBy W r) (hg : W.grownBy W1 r) : w.grownBy W1 r :=
  ⟨hg.os.trans h.os, hg.tape.trans h.tape, hg.output.trans h.output, Nat.le_trans h.size hg.size, fun k hk hr => (hg.block k (Nat.lt_of_lt_of_le hk h.size) hr).trans (h.block k hk hr)⟩
theorem grown_refl9 (w : World) (r : Option Nat) : w.grownBy w r := ⟨rfl, rfl, rfl, Nat.le_refl _, fun _ _ _ => rfl⟩
theorem grown_drew9 {w W : World} {r : Option Nat} (h : w.grownBy W r) (n : Nat) : w.grownBy (W.drewN n) r := ⟨h.os, h.tape, h.output, h.size, h.block⟩

/-- What down has done so far. -/
structure DownAt (w wr : World) (base : Nat) (Q : Nat → Prop) (H g : Nat) (lv : Value) (c : Nat) (ls : List (List S38)) (hp : List Int) (i : Nat) (hq : List Int) (j f : Nat) : Prop where
  walk : HasWalk wr base Q H lv (some ⟨g, 0, none⟩) c ls hq
  same : downL ls f hq j = downL ls hp.length hp i
  len : hq.length = hp.length
  perm : hq.Perm hp
  fuel : hq.length ≤ j + f
  small : j ≤ 1000
  grown : w.grownBy wr (some g)

theorem DownAt.drewN {w wr : World} {base : Nat} {Q : Nat → Prop} {H g : Nat} {lv : Value} {c : Nat} {ls : List (List S38)} {hp : List Int} {i : Nat} {hq : List Int} {j f : Nat} (h : DownAt w wr base Q H g lv c ls hp i hq j f) (n : Nat) : DownAt w (wr.drewN n) base Q H g lv c ls hp i hq j f :=
  ⟨h.walk.drewN n, h.same, h.len, h.perm, h.fuel, h.small, grown_drew9 h.grown n⟩
set_option maxHeartbeats 4000000 in
set_option maxRecDepth 100000 in
theorem down_calls (w : World) (base : Nat) (Q : Nat → Prop) (H g : Nat) (lv : Value) (c : Nat) (ls : List (List S38)) (hp : List Int) (i : Nat) (h : HasWalk w base Q H lv (some ⟨g, 0, none⟩) c ls hp)
    (hv : ∀ z ∈ hp, 0 ≤ z ∧ z < ls.length ∧ lst ls z ≠ []) (hi : i ≤ 1000) (hl : hp.length ≤ 1000) :
    Calls Try.prog 47 #[.pointer (some ⟨H, 0, none⟩), .int .i64 (i : Int)] w fun e w' => e = .returned (.tuple #[]) ∧ HasWalk w' base Q H lv (some ⟨g, 0, none⟩) c ls (downL ls hp.length hp i) ∧ w.grownBy w' (some g) := by
  have HV := Lib.hid hv
  have HS : Hid (DownAt w w base Q H g lv c ls hp i hp i hp.length) := Lib.hid ⟨h, rfl, rfl, List.Perm.refl _, by omega, hi, grown_refl9 _ _⟩
  clear h hv
  go_enter Try.func47, Try.ntmps47
  go_wp2_with fail
  go_loopg [1] hp.length (fun kq v wr => ∃ (j : Nat) (z : Int) (hq : List Int), v = .int .i64 z ∧ Aside0 (z = (j : Int)) ∧ Aside0 (DownAt w wr base Q H g lv c ls hp i hq j kq))
  case atStart => exact ⟨i, (i : Int), hp, rfl, ⟨rfl⟩, ⟨HS.out⟩⟩
  case round =>
    obtain ⟨j, z, hq, rfl, hz, hD⟩ := hrel
    have HD := Lib.hid hD.out
    have HZ := Lib.hid hz.out
    have z0 : 0 ≤ z := by have := hz.out; omega
    have z1 : z ≤ 1000 := by have := hz.out; have := hD.out.small; omega
    obtain ⟨m0, m1⟩ := cells2 HD.out.walk.obj
    rw [HD.out.len] at m1
    clear hD hz
    go_upto_region 0 with (fail)
    go_cut [4] (fun s4 wx => ∃ zc : Int, s4 = .int .i64 zc ∧ Aside0 (zc = 2 * z + 1) ∧ wx = wr)
    case first =>
      go_wp2_with fail
      go_meet
      exact ⟨_, rfl, ⟨by omega⟩, rfl⟩
    case rest =>
      obtain ⟨zc, rfl, hc, rfl⟩ := hcut
      have hc1 := hc.out
      clear hc
      by_cases hend : (hp.length : Int) ≤ zc
      · have d1 : decide ((hp.length : Int) ≤ zc) = true := decide_eq_true hend
        have HC1 := Lib.hid hc1
        clear hc1
        go_wp2
        have hdn : downL ls gk hq j = hq := by
          have e1 := HC1.out
          have e2 := HD.out.len
          have e3 := HZ.out
          cases gk with
          | zero => rfl
          | succ f => simp only [downL]; rw [if_pos (by omega)]
        refine bodyPost_ret (results_none (by kernel_rfl) _ _ _) rfl ⟨rfl, ?_, HD.out.grown⟩
        rw [← HD.out.same, hdn]
        exact HD.out.walk
      · have hk0 : 0 < gk := by have := HD.out.fuel; have := HD.out.len; have := HZ.out; omega
        obtain ⟨f, rfl⟩ : ∃ f, gk = f + 1 := ⟨gk - 1, by omega⟩
        have hlt1 : zc < (hp.length : Int) := by omega
        have d1 : decide ((hp.length : Int) ≤ zc) = false := decide_eq_false hend
        have hv1 : 0 ≤ hat hq zc.toNat ∧ hat hq zc.toNat < ls.length ∧ lst ls (hat hq zc.toNat) ≠ [] := HV.out _ (HD.out.perm.mem_iff.1 (hat_mem hq _ (by have := HD.out.len; omega)))
        have hv2 : 0 ≤ hat hq z.toNat ∧ hat hq z.toNat < ls.length ∧ lst ls (hat hq z.toNat) ≠ [] := HV.out _ (HD.out.perm.mem_iff.1 (hat_mem hq _ (by have := HD.out.len; omega)))
        have HV1 := Lib.hid hv1
        have HV2 := Lib.hid hv2
        obtain ⟨w1a, w1b⟩ := (HD.out.walk.at zc (by omega) (by have := HD.out.len; omega))
        obtain ⟨w2a, w2b⟩ := (HD.out.walk.at z z0 (by have := HD.out.len; omega))
        have HC1 := Lib.hid hc1
        have HLT1 := Lib.hid hlt1
        have hc0 : 0 ≤ zc := by omega
        have hzl : z < (hp.length : Int) := by omega
        clear hc1 hend hk0
        go_upto_region 2 with (fail)
        go_cut [41] (fun s41 wx => ∃ b : Bool, s41 = .bool b ∧ Aside0 (b = true ↔ (zc + 1 < (hp.length : Int) ∧ lessW ls (hat hq (zc + 1).toNat) (hat hq zc.toNat) = true)) ∧ Aside0 (DownAt w wx base Q H g lv c ls hp i hq j (f + 1)))
        case first =>
          by_cases h2 : zc + 1 < (hp.length : Int)
          · have d2 : decide (zc + 1 < (hp.length : Int)) = true := decide_eq_true h2
            obtain ⟨w3a, w3b⟩ := (HD.out.walk.at (zc + 1) (by omega) (by have := HD.out.len; omega))
            have hv3 : 0 ≤ hat hq (zc + 1).toNat ∧ hat hq (zc + 1).toNat < ls.length ∧ lst ls (hat hq (zc + 1).toNat) ≠ [] := HV.out _ (HD.out.perm.mem_iff.1 (hat_mem hq _ (by have := HD.out.len; omega)))
            have HV3 := Lib.hid hv3
            have hs1 : (0 : Int) ≤ zc + 1 := by omega
            clear hv1 hv2 hv3
            go_quiet ((go_at_call 64; exact Calls.quiet_of (less_calls _ base Q H lv (some ⟨g, 0, none⟩) c ls hq _ _ (HD.out.walk.drewN _) HV3.out HV1.out)))
            go_wp2_with fail
            go_meet
            refine ⟨_, rfl, ⟨?_⟩, ⟨HD.out.drewN _⟩⟩
            simp [h2]
          · have d2 : decide (zc + 1 < (hp.length : Int)) = false := decide_eq_false h2
            clear hv1 hv2
            go_quiet (fail)
            go_wp2_with fail
            go_meet
            exact ⟨false, rfl, ⟨⟨(fun e => by cases e), (fun e => absurd e.1 (by omega))⟩⟩, ⟨HD.out.drewN _⟩⟩
        case rest =>
          obtain ⟨b, rfl, hb, hD2⟩ := hcut
          have HB := Lib.hid hb.out
          have HD2 := Lib.hid hD2.out
          clear hb hD2 m0 m1 w1a w1b w2a w2b hv1 hv2 HV1 HV2 HD
          go_upto_if 41 with (fail)
          go_cut [4] (fun s4 wx => ∃ zp : Int, s4 = .int .i64 zp ∧ Aside0 (zp = if b = true then zc + 1 else zc) ∧ wx = wc)
          case first =>
            cases b
            all_goals (
              go_wp2_with fail
              go_meet
              exact ⟨_, rfl, ⟨by first | rfl | simp⟩, rfl⟩)
          case rest =>
            obtain ⟨zp, rfl, hzp, rfl⟩ := hcut
            have hpk : zp.toNat = pick ls hq j ∧ 0 ≤ zp ∧ zp < (hp.length : Int) ∧ z < zp := by
              have e1 := HC1.out
              have e2 := HD2.out.len
              have e3 := HZ.out
              have e4 := hzp.out
              have e5 := HB.out
              have e6 : zc.toNat = 2 * j + 1 := by omega
              have e7 : (zc + 1).toNat = 2 * j + 2 := by omega
              rw [e6, e7] at e5
              unfold pick
              cases hb2 : b with
              | true =>
                rw [hb2, if_pos rfl] at e4
                obtain ⟨f1, f2⟩ := e5.1 hb2
                rw [if_pos ⟨by omega, f2⟩]
                omega
              | false =>
                rw [hb2, if_neg (by simp)] at e4
                rw [if_neg (fun k => by rw [e5.2 ⟨by omega, k.2⟩] at hb2; cases hb2)]
                omega
            obtain ⟨hpk, zp0, zp1, zp2⟩ := hpk
            have HPK := Lib.hid hpk
            have hv1 : 0 ≤ hat hq zp.toNat ∧ hat hq zp.toNat < ls.length ∧ lst ls (hat hq zp.toNat) ≠ [] := HV.out _ (HD2.out.perm.mem_iff.1 (hat_mem hq _ (by have := HD2.out.len; omega)))
            have hv2 : 0 ≤ hat hq z.toNat ∧ hat hq z.toNat < ls.length ∧ lst ls (hat hq z.toNat) ≠ [] := HV.out _ (HD2.out.perm.mem_iff.1 (hat_mem hq _ (by have := HD2.out.len; omega)))
            have HV1 := Lib.hid hv1
            have HV2 := Lib.hid hv2
            obtain ⟨m0, m1⟩ := cells2 HD2.out.walk.obj
            rw [HD2.out.len] at m1
            obtain ⟨w1a, w1b⟩ := (HD2.out.walk.at zp zp0 (by have := HD2.out.len; omega))
            obtain ⟨w2a, w2b⟩ := (HD2.out.walk.at z z0 (by have := HD2.out.len; omega))
            clear hzp hpk hv1 hv2
            cases hL : lessW ls (hat hq zp.toNat) (hat hq z.toNat) with
            | false =>
              have HLL := Lib.hid hL
              have HQ := Lib.hid (fun (W : World) (hW : HasWalk W base Q H lv (some ⟨g, 0, none⟩) c ls hq) => by have h := less_calls W base Q H lv (some ⟨g, 0, none⟩) c ls hq _ _ hW HV1.out HV2.out; rw [hL] at h; exact h)
              clear hL
              go_upto_region 4 with (fail)
              go_quiet ((go_at_call 64; exact Calls.quiet_of (HQ.out _ (HD2.out.walk.drewN _))))
              go_wp2
              have hdn : downL ls (f + 1) hq j = hq := by
                have e1 := HC1.out
                have e2 := HD2.out.len
                have e3 := HZ.out
                have e4 := HLL.out
                have e5 := HLT1.out
                have e6 : z.toNat = j := by omega
                rw [HPK.out, e6] at e4
                simp only [downL]
                rw [if_neg (by omega), if_neg (by rw [e4]; simp)]
              refine bodyPost_ret (results_none (by kernel_rfl) _ _ _) rfl ⟨rfl, ?_, grown_drew9 HD2.out.grown _⟩
              rw [← HD2.out.same, hdn]
              exact HD2.out.walk.drewN _
            | true =>
              have HLL := Lib.hid hL
              have HQ := Lib.hid (fun (W : World) (hW : HasWalk W base Q H lv (some ⟨g, 0, none⟩) c ls hq) => by have h := less_calls W base Q H lv (some ⟨g, 0, none⟩) c ls hq _ _ hW HV1.out HV2.out; rw [hL] at h; exact h)
              clear hL
              go_upto_region 4 with (fail)
              go_quiet ((go_at_call 64; exact Calls.quiet_of (HQ.out _ (HD2.out.walk.drewN _))))
              go_wp2_with fail
              have HD3 := Lib.hid (HD2.out.drewN nq)
              generalize wc.drewN nq = w7 at HD3 ⊢
              clear HD2 m0 m1 w1a w1b w2a w2b
              obtain ⟨m0, m1⟩ := cells2 HD3.out.walk.obj
              rw [HD3.out.len] at m1
              obtain ⟨w1a, w1b⟩ := (HD3.out.walk.at zp zp0 (by have := HD3.out.len; omega))
              obtain ⟨w2a, w2b⟩ := (HD3.out.walk.at z z0 (by have := HD3.out.len; omega))
              have hgH := HD3.out.walk.ne
              have hzz : ¬ z.toNat = zp.toNat := by omega
              have hzz2 : ¬ zp.toNat = z.toNat := by omega
              go_region
              have HW4 := (HD3.out.walk.below (below_drew (Below.refl _ _))).swap z zp
              have hG4 : w.grownBy w7.drew (some g) := ⟨HD3.out.grown.os, HD3.out.grown.tape, HD3.out.grown.output, HD3.out.grown.size, HD3.out.grown.block⟩
              have e1 := HC1.out
              have e2 := HD3.out.len
              have e3 := HZ.out
              have e4 := HLL.out
              have e5 := HLT1.out
              have e6 : z.toNat = j := by omega
              have e7 := HPK.out
              have hdn : downL ls (f + 1) hq j = downL ls f (swap hq j (pick ls hq j)) (pick ls hq j) := by
                rw [HPK.out, e6] at e4
                simp only [downL]
                rw [if_neg (by omega), if_pos e4]
              have HN : Hid (DownAt w ((w7.drew.setCell ⟨g, z.toNat, none⟩ (.int .i64 (hat hq zp.toNat))).setCell ⟨g, zp.toNat, none⟩ (.int .i64 (hat hq z.toNat))) base Q H g lv c ls hp i (swap hq z.toNat zp.toNat) zp.toNat f) := Lib.hid
                ⟨HW4.1, by rw [e6, e7, ← hdn]; exact HD3.out.same, by rw [swap_len]; exact e2, (swap_perm hq _ _ (by omega) (by omega)).trans HD3.out.perm, by rw [swap_len]; have := HD3.out.fuel; omega, by omega, grown_step9 hG4 HW4.2⟩
              have HZP : Hid (zp = (zp.toNat : Int)) := Lib.hid (by omega)
              clear e1 e2 e3 e4 e5 e6 e7 hdn HW4 hG4
              go_wp2
              go_roundg f
              case measure => omega
              case rel => exact ⟨zp.toNat, zp, swap hq z.toNat zp.toNat, rfl, ⟨HZP.out⟩, ⟨HN.out⟩⟩
end Go.Proofs.Ytgoidimipchejaa.Mg
