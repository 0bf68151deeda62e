/- Layer 14: going on in the first list, by contract; no condition beyond the bounds that each lemma names. -/
import Derived.Test.YtgoidimipchejaaMgD
namespace Go.Proofs.Ytgoidimipchejaa.Mg
open Go.RowKit Go.Proofs.Ytgoidimipchejaa.PT Go.Proofs.Ytgoidimipchejaa.Tr Go.Proofs.YtgoidimipchejaaW.PrintWords Go.Proofs.YtgoidimipchejaaW.PrintLast Go.Proofs.YtgoidimipchejaaW.PrintMore
set_option linter.unusedVariables false
set_option linter.unusedSimpArgs false
attribute [local go_sem ↓] Go.wp_at_zero Go.wp_at_succ

/-- One list of a row of lists is written. -/
theorem N_putS {W : World} {base g n cap : Nat} {ls : List (List S38)} {ok : Nat → Prop} (h : Kd.N (Kd.slice 38 k38) 29 W base ok (.slice (some ⟨g, 0, none⟩) n cap) ls) (i : Int) (h0 : 0 ≤ i) (h1 : i < n) (A' : Option Addr) (c' : Nat) (t : List S38) (ht : t.length ≤ c')
    (hF : Kd.F k38 W (fun k => ok k ∧ k ≠ g) A' t.length t) :
    Kd.N (Kd.slice 38 k38) 29 (W.setCell ⟨g, i.toNat, none⟩ (.slice A' t.length c')) base ok (.slice (some ⟨g, 0, none⟩) n cap) (ls.set i.toNat t) ∧ W.grownBy (W.setCell ⟨g, i.toNat, none⟩ (.slice A' t.length c')) (some g) := by
  obtain ⟨hown, rows, hl, hR, hf⟩ := h
  obtain ⟨c, hcl, _, hcc, _⟩ := Kd.R_elem hR [] i h0 h1
  have hM : Kd.FK (Kd.slice 38 k38) W (fun k => ok k ∧ k ≠ g) t [.slice A' t.length c'] := Kd.FK_slice_mk ht hF
  have hcl1 : c.length = 1 := hcl
  have hseg := Kd.R_seg (j := 0) (seg := [.slice A' t.length c']) (x' := [.slice A' t.length c']) (okp := fun _ => False) (Kd.raw_any hR) i h0 h1 hcl hcc (by show 0 + 1 ≤ 1; omega) (by
    have e : c.take 0 ++ [Value.slice A' t.length c'] ++ c.drop (0 + [Value.slice A' t.length c'].length) = [Value.slice A' t.length c'] := by
      rw [List.drop_eq_nil_of_le (by simp; omega)]; simp
    rw [e]
    exact Kd.FK_raw hM) (fun _ hk => hk.elim)
  have eC : W.setCells g (i.toNat * (Kd.slice 38 k38).sz + 0) [.slice A' t.length c'] = W.setCell ⟨g, i.toNat, none⟩ (.slice A' t.length c') := by
    show W.setCells g (i.toNat * 1 + 0) [.slice A' t.length c'] = _
    rw [Nat.mul_one, Nat.add_zero]
    rfl
  have hs2 : (Kd.raw (Kd.slice 38 k38).sz).R 29 (W.setCells g (i.toNat * (Kd.slice 38 k38).sz + 0) [.slice A' t.length c']) base (fun _ => True) (.slice (some ⟨g, 0, none⟩) n cap) (rows.set i.toNat [.slice A' t.length c']) ∧ W.grownBy (W.setCells g (i.toNat * (Kd.slice 38 k38).sz + 0) [.slice A' t.length c']) (some g) := hseg
  rw [eC] at hs2
  exact ⟨Kd.N_written hown hl hf hs2.1 hs2.2 hM (fun k hk => hk), hs2.2⟩
/-- One list of the walk is written. -/
theorem HasWalk.setL {W : World} {base : Nat} {Q : Nat → Prop} {H BL n cap : Nat} {A : Option Addr} {c : Nat} {ls : List (List S38)} {hp : List Int} (h : HasWalk W base Q H (.slice (some ⟨BL, 0, none⟩) n cap) A c ls hp) (i : Int) (h0 : 0 ≤ i) (h1 : i < n) (A' : Option Addr) (c' : Nat) (t : List S38) (ht : t.length ≤ c')
    (hF : Kd.F k38 W (fun k => ((k ≠ H ∧ some k ≠ (Value.slice A hp.length c).ownBlock) ∧ Q k) ∧ k ≠ BL) A' t.length t) :
    HasWalk (W.setCell ⟨BL, i.toNat, none⟩ (.slice A' t.length c')) base Q H (.slice (some ⟨BL, 0, none⟩) n cap) A c (ls.set i.toNat t) hp ∧ W.grownBy (W.setCell ⟨BL, i.toNat, none⟩ (.slice A' t.length c')) (some BL) := by
  have hn := N_putS h.lists i h0 h1 A' c' t ht hF
  have hb := (h.lists.1 BL (by simp [Value.ownBlock])).1
  refine ⟨⟨(Below.heap_setCell W ⟨BL, i.toNat, none⟩ _ H (fun e => hb.1 e.symm)).trans h.obj, hn.1, ?_⟩, hn.2⟩
  exact Kd.R_mono (Kd.R_far (p := ⟨BL, i.toNat, none⟩) (Kd.R_mono (Kd.R_tight rfl h.heap) (ok' := fun k => k ≠ BL ∧ k ≠ H) (fun k hk => ⟨fun e => hb.2 (by rw [← e]; exact hk), h.heap.1 k hk.symm⟩)) (fun k hk => hk.1) _) (fun k hk => hk.2)
/-- The heap loses its last place. -/
theorem HasWalk.cut {W : World} {base : Nat} {Q : Nat → Prop} {H : Nat} {lv : Value} {A : Option Addr} {c : Nat} {ls : List (List S38)} {hp : List Int} (h : HasWalk W base Q H lv A c ls hp) (m : Nat) (hm : m ≤ hp.length) :
    HasWalk (W.setCell ⟨H, 1, none⟩ (.slice A m c)) base Q H lv A c ls (hp.take m) ∧ W.grownBy (W.setCell ⟨H, 1, none⟩ (.slice A m c)) (some H) := by
  have hlen : (hp.take m).length = m := by rw [List.length_take]; omega
  refine ⟨⟨?_, ?_, ?_⟩, ⟨rfl, rfl, rfl, by simp [World.setCell], fun k hk hr => Below.heap_setCell W ⟨H, 1, none⟩ _ k (fun e => hr (by rw [e]))⟩⟩
  · rw [hlen]
    have := Go.Joins.block_setCell h.obj (i := 1) (.slice A m c)
    simpa using this
  · rw [hlen, ownBlock_len A m hp.length c c]
    exact Kd.N_far (p := ⟨H, 1, none⟩) h.lists (fun k hk => hk.1.1) _
  · rw [hlen]
    exact Kd.R_far (p := ⟨H, 1, none⟩) (Kd.R_take h.heap hm) (fun k hk => hk) _
/-- A store elsewhere. -/
theorem HasWalk.far {W : World} {base : Nat} {Q : Nat → Prop} {H : Nat} {lv : Value} {A : Option Addr} {c : Nat} {ls : List (List S38)} {hp : List Int} (h : HasWalk W base Q H lv A c ls hp) (p : Addr) (u : Value) (hH : H ≠ p.block) (hA : some p.block ≠ (Value.slice A hp.length c).ownBlock) (hQ : ∀ k, Q k → k ≠ p.block) : HasWalk (W.setCell p u) base Q H lv A c ls hp :=
  ⟨(Below.heap_setCell W p u H hH).trans h.obj, Kd.N_far h.lists (fun k hk => hQ k hk.2) u,
    Kd.R_mono (Kd.R_far (Kd.R_mono (Kd.R_tight rfl h.heap) (ok' := fun k => k ≠ p.block ∧ k ≠ H) (fun k hk => ⟨fun e => hA (by rw [← e]; exact hk), h.heap.1 k hk.symm⟩)) (fun k hk => hk.1) u) (fun k hk => hk.2)⟩
theorem HasWalk.narrow {W : World} {base : Nat} {Q : Nat → Prop} {H : Nat} {lv : Value} {A : Option Addr} {c : Nat} {ls : List (List S38)} {hp : List Int} (h : HasWalk W base Q H lv A c ls hp) : HasWalk W base (fun k => Q k ∧ k < W.heap.size) H lv A c ls hp :=
  ⟨h.obj, Kd.N_mono (Kd.N_bound h.lists) (fun k hk => ⟨hk.1.1, hk.1.2, hk.2⟩), h.heap⟩
theorem HasWalk.widen {W : World} {base : Nat} {Q Q' : Nat → Prop} {H : Nat} {lv : Value} {A : Option Addr} {c : Nat} {ls : List (List S38)} {hp : List Int} (h : HasWalk W base Q H lv A c ls hp) (hQ : ∀ k, Q k → Q' k) : HasWalk W base Q' H lv A c ls hp :=
  ⟨h.obj, Kd.N_mono h.lists (fun k hk => ⟨hk.1, hQ k hk.2⟩), h.heap⟩
/-- What a walk's call turns: its own three blocks. -/
structure Turns (w w' : World) (S : Nat → Prop) : Prop where
  os : w'.os = w.os
  tape : w'.tape = w.tape
  output : w'.output = w.output
  size : w.heap.size ≤ w'.heap.size
  block : ∀ k, k < w.heap.size → ¬ S k → w'.heap[k]? = w.heap[k]?
theorem Turns.refl (w : World) (S : Nat → Prop) : Turns w w S := ⟨rfl, rfl, rfl, Nat.le_refl _, fun _ _ _ => rfl⟩
theorem Turns.grown {w W W1 : World} {S : Nat → Prop} {b : Nat} (h : Turns w W S) (hg : W.grownBy W1 (some b)) (hb : S b) : Turns w W1 S :=
  ⟨hg.os.trans h.os, hg.tape.trans h.tape, hg.output.trans h.output, Nat.le_trans h.size hg.size, fun k hk hs => (hg.block k (Nat.lt_of_lt_of_le hk h.size) (fun e => by injection e with e; exact hs (e ▸ hb))).trans (h.block k hk hs)⟩
theorem Turns.below {w W W1 : World} {S : Nat → Prop} (h : Turns w W S) (hb : Below W.heap.size W W1) : Turns w W1 S :=
  ⟨hb.os.trans h.os, hb.tape.trans h.tape, hb.output.trans h.output, Nat.le_trans h.size hb.size, fun k hk hs => (hb.block k (Nat.lt_of_lt_of_le hk h.size)).trans (h.block k hk hs)⟩
theorem Turns.drew {w W : World} {S : Nat → Prop} (h : Turns w W S) : Turns w W.drew S := h.below (below_drew (Below.refl _ _))
theorem Turns.trans {w W W1 : World} {S : Nat → Prop} (h : Turns w W S) (k : Turns W W1 S) : Turns w W1 S :=
  ⟨k.os.trans h.os, k.tape.trans h.tape, k.output.trans h.output, Nat.le_trans h.size k.size, fun j hj hs => (k.block j (Nat.lt_of_lt_of_le hj h.size) hs).trans (h.block j hj hs)⟩
theorem Turns.from {w W : World} {S : Nat → Prop} {B : Nat} (h : Turns w W S) (hB : B ≤ w.heap.size) (hS : ∀ k, S k → B ≤ k) : Below B w W :=
  ⟨h.os, h.tape, h.output, h.size, fun k hk => h.block k (by omega) (fun hs => by have := hS k hs; omega)⟩
/-- A walk's own blocks. -/
def Mine (H BL g : Nat) (k : Nat) : Prop := k = H ∨ k = BL ∨ k = g
theorem pop_valid {ls : List (List S38)} {hp : List Int} (h : Inv ls hp) (hne : hp ≠ []) : ∀ z ∈ popHp ls hp, 0 ≤ z ∧ z < (popLs ls hp).length ∧ lst (popLs ls hp) z ≠ [] := fun z hz =>
  ((pop_inv h hne _ (Nat.le_refl _)).mem z).1 ((down_perm _ _ _ 0).mem_iff.2 hz)
theorem popHp_len (ls : List (List S38)) (hp : List Int) : (popHp ls hp).length ≤ hp.length := by
  unfold popHp
  split
  · simp
  · exact Nat.le_refl _

set_option maxHeartbeats 4000000 in
set_option maxRecDepth 100000 in
theorem pop_calls (w : World) (base : Nat) (Q : Nat → Prop) (H BL g cL c : Nat) (ls : List (List S38)) (hp : List Int) (hW : HasWalk w base Q H (.slice (some ⟨BL, 0, none⟩) ls.length cL) (some ⟨g, 0, none⟩) c ls hp) (hI : Inv ls hp) (hne : hp ≠ []) (hl : hp.length ≤ 1000) :
    Calls Try.prog 49 #[.pointer (some ⟨H, 0, none⟩)] w fun e w' => e = .returned (.tuple #[]) ∧
      HasWalk w' base Q H (.slice (some ⟨BL, 0, none⟩) ls.length cL) (some ⟨g, 0, none⟩) c (popLs ls hp) (downL (popLs ls hp) (popHp ls hp).length (popHp ls hp) 0) ∧ Turns w w' (Mine H BL g) := by
  have hlen : 0 < hp.length := List.length_pos_iff.2 hne
  have hgH := hW.ne
  obtain ⟨⟨hBH, hBg⟩, _⟩ := hW.lists.1 BL (by simp [Value.ownBlock])
  have hBg2 : BL ≠ g := fun e => hBg (by simp [Value.ownBlock, e])
  obtain ⟨i0, i1, i2⟩ := (hI.mem _).1 (hat_mem hp 0 hlen)
  have HV := Lib.hid (pop_valid hI hne)
  have HPL := popHp_len ls hp
  obtain ⟨m0, m1⟩ := cells2 hW.obj
  obtain ⟨w0a, w0b⟩ := hW.at 0 (by omega) (by omega)
  simp only [Int.toNat_zero] at w0a w0b
  obtain ⟨cs, hcl, hFK, hcc, hfr⟩ := Kd.N_elem hW.lists [] (hat hp 0) i0 i1
  obtain ⟨A1, c1, rfl, hl1, hF1⟩ := Kd.FK_slice_open hFK
  have x0 := hcc 0 _ rfl
  have x1 := hfr 0
  rw [show (hat hp 0).toNat * (Kd.slice 38 k38).sz + 0 = (hat hp 0).toNat by show (hat hp 0).toNat * 1 + 0 = _; omega] at x0 x1
  have elst : ls.getD (hat hp 0).toNat [] = lst ls (hat hp 0) := rfl
  rw [elst] at x0 hl1 hF1
  obtain ⟨xh, t, ht⟩ : ∃ xh t, lst ls (hat hp 0) = xh :: t := by
    cases hq : lst ls (hat hp 0) with
    | nil => exact absurd hq i2
    | cons a b => exact ⟨a, b, rfl⟩
  have HT := Lib.hid ht
  rw [ht] at x0 hl1 hF1
  obtain ⟨ad1, eA⟩ : ∃ ad1, A1 = some ad1 := by
    obtain ⟨ad, _, h, _⟩ := Kd.C_get (Kd.F_now hF1) z38 0 (by omega) (by simp)
    exact ⟨ad, h⟩
  subst eA
  have HFT : Hid (Kd.F k38 w (fun k => ((k ≠ H ∧ some k ≠ (Value.slice (some ⟨g, 0, none⟩) hp.length c).ownBlock) ∧ Q k) ∧ k ≠ BL) (if c1 = 1 then some ad1 else some ⟨ad1.block, ad1.off + 8, none⟩) t.length t) := Lib.hid (by
    have h := Kd.F_cut (m := 1) (c := c1) hF1 (by simp) hl1
    exact h)
  have HW := Lib.hid hW
  have HI0 : Hid (∃ z, hat hp 0 = z) := Lib.hid ⟨_, rfl⟩
  obtain ⟨z, hz⟩ := HI0.out
  have HZ := Lib.hid hz
  rw [hz] at i0 i1 i2 x0 x1 w0a
  simp only [List.length_cons] at x0 hl1
  have t1 := eq_true i0
  have t2 := eq_true i1
  have hnz : (0 : Int) < (hp.length : Int) := by omega
  clear hW hI hne hcc hfr hF1 hFK ht i2 HI0 hz hcl elst
  go_enter Try.func49, Try.ntmps49
  go_wp2_with fail
  go_region
  generalize (if c1 = 1 then some ad1 else some (⟨ad1.block, ad1.off + 8, none⟩ : Addr)) = AA at HFT ⊢
  have HS1 := HW.out.setL z i0 i1 AA (c1 - 1) t (by omega) HFT.out
  have HP2 : Hid (popLs ls hp = ls.set z.toNat t) := Lib.hid (by unfold popLs; rw [HZ.out, show lst ls z = xh :: t by rw [← HZ.out]; exact HT.out]; rfl)
  have HW1 := Lib.hid (HS1.1.below (below_drew (Below.refl _ _)))
  have HT1 := Lib.hid ((((Turns.refl w (Mine H BL g)).grown HS1.2 (.inr (.inl rfl))).drew))
  rw [← HP2.out] at HW1
  generalize (w.setCell ⟨BL, z.toNat, none⟩ (Value.slice AA t.length (c1 - 1))).drew = w1 at HW1 HT1 ⊢
  clear HS1 HFT x0 x1 m0 m1 w0a w0b hl1
  obtain ⟨m0, m1⟩ := cells2 HW1.out.obj
  obtain ⟨cs, hcl, hFK, hcc, hfr⟩ := Kd.N_elem HW1.out.lists [] z i0 i1
  have elst : (popLs ls hp).getD z.toNat [] = t := by
    rw [HP2.out]
    have h := lst_set ls z t z i0 i1 i0
    rw [if_pos rfl] at h
    exact h
  obtain ⟨A5, c5, rfl, _, _⟩ := Kd.FK_slice_open hFK
  have x0 := hcc 0 _ rfl
  rw [elst, show z.toNat * (Kd.slice 38 k38).sz + 0 = z.toNat by show z.toNat * 1 + 0 = _; omega] at x0
  clear hFK hcc hfr hcl elst
  have HTL : Hid ((lst ls (hat hp 0)).tail = t) := Lib.hid (by rw [HT.out]; rfl)
  by_cases ht0 : t = []
  · have HPH : Hid (popHp ls hp = (hp.set 0 (hat hp (hp.length - 1))).take (hp.length - 1)) := Lib.hid (by unfold popHp; rw [HTL.out, if_pos ht0])
    rw [ht0] at x0
    have d0 : ((([] : List S38).length : Int) == 0) = true := rfl
    simp only [List.length_nil] at x0
    clear ht0
    have hl9 : hp.length ≤ c := (Kd.R_reads' HW1.out.heap).2.1
    go_upto_region 3 with (fail)
    go_cut [3] (fun s3 wx => ∃ lz : Int, s3 = .int .i64 lz ∧ Aside0 (lz = (hp.length : Int) - 1) ∧ wx = w1)
    case first =>
      go_wp2_with fail
      go_meet
      exact ⟨_, rfl, ⟨by first | rfl | omega | (simp only [IntKind.wrap_i64]; omega)⟩, rfl⟩
    case rest =>
      obtain ⟨lz, rfl, hlz, rfl⟩ := hcut
      have hlz1 := hlz.out
      have l0 : 0 ≤ lz := by omega
      have l1 : lz < (hp.length : Int) := by omega
      have l2 : lz ≤ (c : Int) := by omega
      obtain ⟨w1a, w1b⟩ := HW1.out.at lz l0 l1
      obtain ⟨w0a, w0b⟩ := HW1.out.at 0 (by omega) (by omega)
      simp only [Int.toNat_zero] at w0a w0b
      have HLZ := Lib.hid hlz1
      have HHL := Lib.hid hl
      clear hlz hlz1 hl
      go_upto_region 4 with (fail)
      go_region
      have HS2 := HW1.out.set 0 (hat hp lz.toNat)
      simp only [Int.toNat_zero] at HS2
      have HW2 := Lib.hid (HS2.1.below (below_drew (Below.refl _ _)))
      have HT2 := Lib.hid ((HT1.out.grown HS2.2 (.inr (.inr rfl))).drew)
      generalize (wc.setCell ⟨g, 0, none⟩ (.int .i64 (hat hp lz.toNat))).drew = w4 at HW2 HT2 ⊢
      clear HS2 w1a w1b w0a w0b m0 m1 x0 HW1 HT1
      obtain ⟨m0, m1⟩ := cells2 HW2.out.obj
      rw [List.length_set] at m1
      have m2 := frees HW2.out.obj 1
      have HS3 := HW2.out.cut lz.toNat (by simp; omega)
      have HPE : Hid ((hp.set 0 (hat hp lz.toNat)).take lz.toNat = popHp ls hp) := Lib.hid (by
        have e1 := HLZ.out
        have e2 : lz.toNat = hp.length - 1 := by omega
        rw [HPH.out, e2])
      have HW3 := Lib.hid HS3.1
      rw [HPE.out] at HW3
      have HT3 := Lib.hid (HT2.out.grown HS3.2 (.inl rfl))
      have HPL2 := Lib.hid HPL
      clear HS3 HPL
      have HDN := Lib.hid (down_calls _ base Q H g _ c (popLs ls hp) (popHp ls hp) 0 HW3.out HV.out (by omega) (by have := HPL2.out; have := HHL.out; omega))
      go_wp2_with (first
        | (go_at_call 47; refine HDN.out.mono ?_; rintro e w2 ⟨rfl, hW2, hg2⟩; have HW5 := Lib.hid hW2; have HT5 := Lib.hid (HT3.out.grown hg2 (.inr (.inr rfl))); clear hW2 hg2))
      go_end0
      exact ⟨rfl, HW5.out, HT5.out⟩
  · have HPH : Hid (popHp ls hp = hp) := Lib.hid (by unfold popHp; rw [HTL.out, if_neg ht0])
    have hpos : 0 < t.length := List.length_pos_iff.2 ht0
    have d1 : ((t.length : Int) == 0) = false := by simp; omega
    generalize t.length = tl at *
    have HDN := Lib.hid (down_calls w1 base Q H g _ c (popLs ls hp) hp 0 HW1.out (by have h := HV.out; rwa [HPH.out] at h) (by omega) hl)
    clear ht0
    go_wp2_with (first
      | (go_at_call 47; refine HDN.out.mono ?_; rintro e w2 ⟨rfl, hW2, hg2⟩; have HW2 := Lib.hid hW2; have HT2 := Lib.hid (HT1.out.grown hg2 (.inr (.inr rfl))); clear hW2 hg2))
    go_end0
    refine ⟨rfl, ?_, HT2.out⟩
    rw [HPH.out]
    exact HW2.out
end Go.Proofs.Ytgoidimipchejaa.Mg
