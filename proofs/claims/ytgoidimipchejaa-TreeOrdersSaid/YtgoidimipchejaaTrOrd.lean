/- Layer 10: the statement TreeOrders, walked; no condition beyond what a value's form says. -/
import Derived.Test.YtgoidimipchejaaTrH
import Derived.Test.YtgoidimipchejaaTrI
import Derived.Test.YtgoidimipchejaaTrS
import Derived.Test.YtgoidimipchejaaWNEv
import Derived.Deep.DeepCutAuto
import Derived.Deep.RegionLaw
import Derived.IntWalk
namespace Go.Proofs.Ytgoidimipchejaa.Tr
open Go.RowKit Go.Proofs.Ytgoidimipchejaa.PT Go.Proofs.YtgoidimipchejaaW.PrintWords Go.Proofs.YtgoidimipchejaaW.PrintLast Go.Proofs.YtgoidimipchejaaW.PrintMore
set_option linter.unusedVariables false
set_option linter.unusedSimpArgs false
attribute [local go_sem ↓] Go.wp_at_zero Go.wp_at_succ

/-- Two lists in order of the same items are one. -/
theorem ord_ext : ∀ (a b : List S38), Ord a → Ord b → (∀ x, x ∈ a ↔ x ∈ b) → a = b
  | [], [], _, _, _ => rfl
  | [], y :: b, _, _, h => by have := (h y).2 (by simp); simp at this
  | x :: a, [], _, _, h => by have := (h x).1 (by simp); simp at this
  | x :: a, y :: b, ha, hb, h => by
    obtain ⟨a1, a2⟩ := List.pairwise_cons.1 ha
    obtain ⟨b1, b2⟩ := List.pairwise_cons.1 hb
    have hxy : x = y := by
      rcases List.mem_cons.1 ((h x).1 (by simp)) with e | hx
      · exact e
      · rcases List.mem_cons.1 ((h y).2 (by simp)) with e | hy
        · exact e.symm
        · exact absurd (a1 y hy) (k_asymm (b1 x hx))
    subst hxy
    rw [ord_ext a b a2 b2 (fun z => ⟨fun hz => ?_, fun hz => ?_⟩)]
    · rcases List.mem_cons.1 ((h z).1 (by simp [hz])) with e | hz'
      · rw [e] at hz; exact absurd (a1 x hz) (k_irr _)
      · exact hz'
    · rcases List.mem_cons.1 ((h z).2 (by simp [hz])) with e | hz'
      · rw [e] at hz; exact absurd (b1 x hz) (k_irr _)
      · exact hz'
theorem ord_key {l : List S38} (h : Ord l) {x y : S38} (hx : x ∈ l) (hy : y ∈ l) (e : kOf x = kOf y) : x = y := by
  induction l with
  | nil => simp at hx
  | cons z l ih =>
    obtain ⟨h1, h2⟩ := List.pairwise_cons.1 h
    rcases List.mem_cons.1 hx with ex | mx
    · rcases List.mem_cons.1 hy with ey | my
      · rw [ex, ey]
      · exact absurd (h1 y my) (by rw [← ex, e]; exact k_irr _)
    · rcases List.mem_cons.1 hy with ey | my
      · exact absurd (h1 x mx) (by rw [← ey, e]; exact k_irr _)
      · exact ih h2 mx my
theorem insL_has : ∀ (l : List S38) (x : S38), x ∈ insL l x
  | [], x => by simp [insL]
  | y :: l, x => by
    simp only [insL]
    repeat' split
    · simp
    · simp
    · simp [insL_has l x]
theorem insL_keeps : ∀ (l : List S38) (x z : S38), z ∈ l → z ∈ insL l x ∨ kOf x = kOf z
  | [], x, z, h => by simp at h
  | y :: l, x, z, h => by
    simp only [insL]
    rcases List.mem_cons.1 h with rfl | h
    · split
      · exact .inr ‹_›
      · split <;> simp
    · split
      · exact .inl (by simp [h])
      · split
        · exact .inl (by simp [h])
        · rcases insL_keeps l x z h with h2 | h2
          · exact .inl (by simp [h2])
          · exact .inr h2
/-- What is in the tree, and what is left, are the items. -/
structure Parted (L T left : List S38) : Prop where
  ord : Ord L
  ordT : Ord T
  mem : ∀ x, x ∈ L ↔ x ∈ T ∨ x ∈ left
theorem Parted.step {L T left : List S38} (h : Parted L T left) (k : Nat) (hk : k < left.length) : Parted L (insL T left[k]) (left.take k ++ left.drop (k + 1)) := by
  have hx : left[k] ∈ L := (h.mem _).2 (.inr (List.getElem_mem hk))
  have hl : ∀ z, z ∈ left ↔ z = left[k] ∨ z ∈ left.take k ++ left.drop (k + 1) := fun z => by
    constructor
    · intro hz
      rw [← List.take_append_drop k left, List.drop_eq_getElem_cons hk] at hz
      simp only [List.mem_append, List.mem_cons] at hz ⊢
      rcases hz with hz | hz | hz
      · exact .inr (.inl hz)
      · exact .inl hz
      · exact .inr (.inr hz)
    · rintro (rfl | hz)
      · exact List.getElem_mem hk
      · rcases List.mem_append.1 hz with hz | hz
        · exact List.mem_of_mem_take hz
        · exact List.mem_of_mem_drop hz
  refine ⟨h.ord, insL_ord T _ h.ordT, fun z => ⟨fun hz => ?_, fun hz => ?_⟩⟩
  · rcases (h.mem z).1 hz with hz' | hz'
    · rcases insL_keeps T left[k] z hz' with h2 | h2
      · exact .inl h2
      · rw [← ord_key h.ord hx hz h2]; exact .inl (insL_has T _)
    · rcases (hl z).1 hz' with rfl | h2
      · exact .inl (insL_has T _)
      · exact .inr h2
  · rcases hz with hz | hz
    · rcases insL_mem _ _ _ hz with rfl | hz
      · exact hx
      · exact (h.mem z).2 (.inl hz)
    · exact (h.mem z).2 (.inr ((hl z).2 (.inr hz)))
theorem Parted.last {L T : List S38} (h : Parted L T []) : T = L := ord_ext T L h.ordT h.ord fun z => by rw [h.mem z]; simp
theorem Parted.all {L : List S38} (h : Ord L) : Parted L [] L := ⟨h, by simp [Ord], by simp⟩
theorem allL_may9 : ∀ (l acc : List S38), (∀ x ∈ acc, mayB x = true) → ∀ x ∈ allFrom acc l, mayB x = true
  | [], acc, h, x, hx => h x hx
  | y :: l, acc, h, x, hx => by
    rw [allFrom_cons] at hx
    refine allL_may9 l _ (fun z hz => ?_) x hx
    split at hz
    · rename_i hy
      rcases insL_mem _ _ _ hz with rfl | hz
      · exact hy
      · exact h z hz
    · exact h z hz

set_option maxHeartbeats 2000000 in
set_option maxRecDepth 100000 in
theorem orders_not (A0 : Option Addr) (c0 : Nat) (l : List S38) (A1 : Option Addr) (c1 : Nat) (t : List Int) (w : World) (hC : Kd.C k38 w A0 l.length l) (hc : l.length ≤ c0) (b : Bool) (hb : garnerlaw10_Light.f 300 l = some b) (hn : b = false ∨ 200 < (t.length : Int)) :
    Calls Try.prog 6 #[.slice A0 l.length c0, .slice A1 t.length c1] w fun e w' => e = .returned (.bool true) ∧ Below w.heap.size w w' := by
  have HC := Lib.hid hC
  have HL := Lib.hid hb
  clear hC hb
  have gone : b = false ∨ (b = true ∧ decide (200 < (t.length : Int)) = true) := by
    cases b
    · exact .inl rfl
    · exact .inr ⟨rfl, decide_eq_true (by simpa using hn)⟩
  clear hn
  rcases gone with rfl | ⟨rfl, h1⟩
  all_goals (
    go_enter Try.func6, Try.ntmps6
    go_wp2_with (first
      | (go_at_call 22; refine (light_calls 300 A0 c0 l _ _ HC.out hc HL.out).mono ?_; rintro e w1 ⟨rfl, hb1⟩; have HB1 := Lib.hid hb1; clear hb1)
      | (go_at_call 23; refine (awake_calls _).mono ?_; rintro e w9 ⟨rfl, hb9⟩; have HB9 := Lib.hid (below_step HB1.out hb9); clear hb9))
    go_ret
    exact ⟨rfl, HB9.out⟩)
theorem by_range9 {z : Int} (h : (Lit.int .u8 z).wf = true) : 0 ≤ z ∧ z ≤ 255 := by
  simp only [Lit.wf, Bool.and_eq_true, decide_eq_true_eq, IntKind.min, IntKind.max, IntKind.signed, IntKind.bits, Bool.false_eq_true, if_false] at h
  omega
theorem R_lit_nil9 {α : Type} (d : Kd α) (e : Nat) (W : World) : d.R e (W.alloc (.cells #[] e)) W.heap.size (fun k => W.heap.size ≤ k) (.slice (some ⟨W.heap.size, 0, none⟩) 0 0) [] := R_lit_nil d e W trivial

set_option maxHeartbeats 4000000 in
set_option maxRecDepth 100000 in
theorem orders_yes (A0 : Option Addr) (c0 : Nat) (l : List S38) (A1 : Option Addr) (c1 : Nat) (t : List Int) (w : World) (hC : Kd.C k38 w A0 l.length l) (hc : l.length ≤ c0) (hCt : (Kd.int .u8).C w A1 t.length t) (hct : t.length ≤ c1) (hb : garnerlaw10_Light.f 300 l = some true) (hl : l.length ≤ 100) (hx : ∀ x ∈ l, x.f0.size ≤ 200 ∧ x.f2.f1.length ≤ 200) (h1 : decide (200 < (t.length : Int)) = false) (hy : ∀ z ∈ t, (Lit.int .u8 z).wf = true) :
    Calls Try.prog 6 #[.slice A0 l.length c0, .slice A1 t.length c1] w fun e w' => e = .returned (.bool true) ∧ Below w.heap.size w w' := by
  have HC := Lib.hid hC
  have HL := Lib.hid hb
  have HX := Lib.hid hx
  have HCT := Lib.hid hCt
  have HY := Lib.hid hy
  have hlite := allL_lite l 100 hl (by omega) hx
  have HLT := Lib.hid hlite
  have hlen : (allL l).length ≤ 100 := by
    have := allFrom_len l []
    unfold allL
    simp at this
    omega
  have HAF := Lib.hid (all_f l 5000 (by omega) (by omega))
  have HMF : Hid (garnerref10_Same.f 5000 (allL l) (allL l) = some true) := Lib.hid (Same_f 5000 _ (by omega) (by omega) (fun x hx => by have := (hlite.2 x hx).2; omega))
  have HOR : Hid (Ord (allL l)) := Lib.hid (allFrom_ord l [] (by simp [Ord]))
  have HMY : Hid (∀ x ∈ allL l, mayB x = true) := Lib.hid (allL_may9 l [] (by simp))
  generalize hg : allL l = L at *
  clear hC hb hx hCt hy hlite hg
  go_enter Try.func6, Try.ntmps6
  go_wp2_with (first
    | (go_at_call 22; refine (light_calls 300 A0 c0 l _ _ HC.out hc HL.out).mono ?_; rintro e w1 ⟨rfl, hb1⟩; have HB1 := Lib.hid hb1; clear hb1)
    | (go_at_call 27; refine (garnerref10_All.calls 5000 (fun _ => True) A0 c0 l L _ (V_all (Kd.C_below HC.out HB1.out) hc _) HAF.out).mono ?_; rintro e w2 ⟨v2, rfl, hN2, hb2⟩; obtain ⟨A2, c2, rfl⟩ := Kd.N_slice hN2; have HN2 := Lib.hid (Kd.N_bound hN2); have hs12 := hb2.size; have HB2 := Lib.hid (below_step HB1.out hb2); clear hN2 hb2)
    | (at_builtin; (refine Kd.N_append_rows (w0 := w2) k38 w2.heap.size rfl (.tmp 21) (.tmp 22) 29 38 _ _ rfl (by kernel_rfl) info38 rfl (by decide) (by decide) (.slice (some ⟨w2.heap.size, 0, none⟩) 0 0) [] L A2 L.length c2 (fun _ => True) (fun k => k < w2.heap.size) rfl rfl (Kd.N_mono (Kd.R_N (R_lit_nil9 k38 38 w2)) (fun _ _ => trivial)) (Kd.F_mono (Kd.F_alloc (Kd.N_F HN2.out) _) (fun k hk => hk.2)) (fun k hk => ⟨trivial, by simp [Value.ownBlock]; omega⟩) (fun _ _ => trivial) (below_alloc (Below.refl _ _) _) (by simp) (by simp; omega) ?_; intro v3 w3 hN3 hb3 _ _; rw [List.nil_append] at hN3; obtain ⟨A3, c3, rfl⟩ := Kd.N_slice hN3; have HN3 := Lib.hid (Kd.N_bound hN3); have HM3 := Lib.hid (Kd.N_below HN2.out hb3); have HB3 := Lib.hid (below_step HB2.out hb3); have hs3 := hb3.size; clear hN3 hb3))
    | (go_at_call 28; refine (new_holds _ (fun k => w3.heap.size < k)).mono ?_; rintro e w4 ⟨rfl, hH4, hb4, hs4⟩; have HH4 := Lib.hid hH4; have HB4 := Lib.hid (below_step HB3.out hb4); have HN4 := Lib.hid (Kd.N_mono (ok' := fun k => k ≠ w3.heap.size) (Kd.N_below HN3.out hb4) (fun k hk => by omega)); have HM4 := Lib.hid (Kd.N_mono (ok' := fun k => k ≠ w3.heap.size) (Kd.N_below HM3.out hb4) (fun k hk => by omega)); clear hH4 hb4))
  go_loopg [6, 8] L.length (fun kq v6 v8 wr => ∃ (Lf T : List S38) (A : Option Addr) (c : Nat) (z : Int), v6 = .slice A Lf.length c ∧ v8 = .int .i64 z ∧ Aside0 (0 ≤ z ∧ z + kq ≤ 1000 ∧ T.length + kq ≤ 100) ∧ Aside0 (Lf.length = kq) ∧ Aside0 (Parted L T Lf) ∧ Aside0 (Holds wr (fun k => w3.heap.size < k) w3.heap.size T) ∧ Aside0 (Kd.N k38 38 wr w1.heap.size (fun k => k ≠ w3.heap.size) (.slice A Lf.length c) Lf) ∧ Aside0 (Kd.N k38 38 wr w1.heap.size (fun k => k ≠ w3.heap.size) (.slice A2 L.length c2) L) ∧ Aside0 (Below w.heap.size w wr) ∧ Aside0 (w3.heap.size + 1 ≤ wr.heap.size))
  case atStart => exact ⟨L, [], A3, c3, 0, rfl, rfl, ⟨by omega, by omega, by simpa using hlen⟩, ⟨rfl⟩, ⟨Parted.all HOR.out⟩, ⟨HH4.out⟩, ⟨Kd.N_lower HN4.out hs12⟩, ⟨HM4.out⟩, ⟨HB4.out⟩, ⟨hs4⟩⟩
  case round =>
    obtain ⟨Lf, T, A, c, z, rfl, rfl, hz, hi, hP, hH, hN, hM, hb, hs⟩ := hrel
    have hi1 := hi.out
    obtain ⟨z0, z1, z2⟩ := hz.out
    have HBw := Lib.hid hb.out
    have HHw := Lib.hid hH.out
    have HNw := Lib.hid hN.out
    have HMw := Lib.hid hM.out
    have HPw := Lib.hid hP.out
    have hsw := hs.out
    have hsw0 : w.heap.size ≤ w3.heap.size := HB3.out.size
    clear hb hH hs hz hi hP hN hM
    by_cases hlt : 0 < Lf.length
    · have d1 : decide (0 < Lf.length) = true := decide_eq_true hlt
      have d2 : decide ((0 : Int) < (Lf.length : Int)) = true := decide_eq_true (by omega)
      have HI1 := Lib.hid hi1
      clear hi1
      go_upto_if 33 with (fail)
      go_cut [9] (fun s9 wx => ∃ kz : Int, s9 = .int .i64 kz ∧ Aside0 (0 ≤ kz ∧ kz < (Lf.length : Int)) ∧ wx = wr)
      case first =>
        by_cases hzt : z < (t.length : Int)
        · have e1 : decide (z < (t.length : Int)) = true := decide_eq_true hzt
          obtain ⟨ad, eA, x0⟩ := Kd.at_int (Kd.C_below HCT.out HBw.out) z z0 hzt
          cases eA
          have hby := by_range9 (HY.out (rd t z) (by unfold rd; rw [List.getD_eq_getElem?_getD, List.getElem?_eq_getElem (show z.toNat < t.length by omega)]; simp))
          have hkm : (rd t z) % (Lf.length : Int) = (((rd t z).toNat % Lf.length : Nat) : Int) := by rw [Int.natCast_emod, Int.toNat_of_nonneg hby.1]
          have hkl : (rd t z).toNat % Lf.length < Lf.length := Nat.mod_lt _ hlt
          generalize hq : rd t z = q at *
          obtain ⟨q0, q1⟩ := hby
          have hne : ¬ (Lf.length : Int) = 0 := by omega
          have hpos : (0 : Int) < (Lf.length : Int) := by omega
          have HKM := Lib.hid hkm
          clear hq hkm
          go_wp2_with fail
          go_meet
          exact ⟨_, rfl, ⟨by rw [HKM.out]; omega, by rw [HKM.out]; omega⟩, rfl⟩
        · have e1 : decide (z < (t.length : Int)) = false := decide_eq_false hzt
          go_wp2_with fail
          go_meet
          exact ⟨0, rfl, ⟨by omega, by omega⟩, rfl⟩
      case rest =>
        obtain ⟨kz, rfl, hk, rfl⟩ := hcut
        obtain ⟨p1, q1⟩ := hk.out
        have hk1 : kz.toNat < Lf.length := by omega
        have hrd : rd_T38 Lf kz = Lf[kz.toNat] := by unfold rd_T38; rw [List.getD_eq_getElem?_getD, List.getElem?_eq_getElem hk1]; rfl
        clear hk
        obtain ⟨ad, A4, c4, eA, x0, x1, x2, x3, x4, x5, x6, x7, hl4, hi4⟩ := at_T38 (Kd.N_reads' HNw.out).2.2 kz p1 q1
        cases eA
        have HC4 := Lib.hid hi4
        have hmq : rd_T38 Lf kz ∈ L := by rw [hrd]; exact (HPw.out.mem _).2 (.inr (List.getElem_mem hk1))
        have HS : Hid (Parted L (insL T (rd_T38 Lf kz)) (Lf.take kz.toNat ++ Lf.drop (kz.toNat + 1))) := Lib.hid (by rw [hrd]; exact HPw.out.step kz.toNat hk1)
        clear hrd
        generalize hq : rd_T38 Lf kz = q at *
        have HQM := Lib.hid (HMY.out q hmq)
        have HLQ : Hid (q.f0.size ≤ 200 ∧ q.f2.f1.length ≤ 200) := Lib.hid (HLT.out.2 q hmq)
        have HTL : Hid (Lite T) := Lib.hid ⟨by omega, fun x hx => HLT.out.2 x ((HPw.out.mem x).2 (.inl hx))⟩
        have HOK : Hid (okCode q = 0) := Lib.hid (by unfold okCode; rw [if_pos HQM.out])
        have HIM : Hid (insM T q = insL T q) := Lib.hid (by unfold insM; rw [if_pos HQM.out])
        have p2 := eq_true p1
        have q2 := eq_true q1
        have HP1 := Lib.hid p1
        have HQ1 := Lib.hid q1
        clear hq hi4 hmq p1 q1 hk1
        go_upto_region 14 with (first
          | (go_at_call 29; refine (put_all (fun k => w3.heap.size < k) w3.heap.size T q A4 c4 _ (fun k hk => by omega) HHw.out HC4.out hl4 HTL.out HLQ.out).mono ?_; rintro e w5 ⟨rfl, hH5, hg5⟩; rw [HOK.out]; rw [HIM.out] at hH5; have hs5 : w3.heap.size + 1 ≤ w5.heap.size := Nat.le_trans hsw hg5.size; have HB5 : Hid (Below w.heap.size w w5) := Lib.hid (pw_below_grown HBw.out _ (by omega) hg5 (fun k hk => by injection hk with hk; omega)); have HN5 := Lib.hid (Kd.N_grown HNw.out hg5 (fun k hk e => hk (by injection e))); have HM5 := Lib.hid (Kd.N_grown HMw.out hg5 (fun k hk e => hk (by injection e))); have HH5 : Hid (Holds w5 (fun k => w3.heap.size < k) w3.heap.size (insL T q)) := Lib.hid (hH5.mono (fun k hk => hk.elim id (fun h => by omega))); clear hH5 hg5))
        have hp1 := HP1.out
        have hq1 := HQ1.out
        have hcl : Lf.length ≤ c := (Kd.N_reads' HN5.out).2.1
        have hcx : Lf.length ≤ 1000 := by have := HI1.out; omega
        have e1 : kz ≤ (c : Int) := by omega
        have e2 : kz + 1 ≤ (Lf.length : Int) := by omega
        have e3 : (0 : Int) ≤ kz + 1 := by omega
        have e4 : IntKind.i64.wrap (kz + 1) = kz + 1 := IntWalk.i64_in _ ⟨by omega, by omega⟩
        have e5 : (kz + 1).toNat = kz.toNat + 1 := by omega
        have hkx : kz.toNat ≤ 1000 := by omega
        have hV5 : Kd.F k38 w5 (fun k => k ≠ w3.heap.size ∧ k < w5.heap.size) (some ad) Lf.length Lf := Kd.F_bound (Kd.N_F HN5.out)
        have HF1 : Hid (Kd.F k38 w5 (fun k => k ≠ w3.heap.size ∧ k < w5.heap.size) (some ad) kz.toNat (Lf.take kz.toNat)) := Lib.hid (by have h := Kd.F_take (m := kz.toNat) hV5 (by omega); rwa [List.length_take, Nat.min_eq_left (by omega)] at h)
        have HF2 : Hid (Kd.F k38 w5 (fun k => k ≠ w3.heap.size ∧ k < w5.heap.size) (if c = kz.toNat + 1 then some ad else some (ad.add ((kz.toNat + 1) * 8))) (Lf.length - (kz.toNat + 1)) (Lf.drop (kz.toNat + 1))) := Lib.hid (by have h := Kd.F_cut (m := kz.toNat + 1) (c := c) hV5 (by omega) hcl; rw [List.length_drop] at h; exact h)
        have HXL : Hid ((Lf.take kz.toNat).length + (Lf.drop (kz.toNat + 1)).length + 1 = gk ∧ (Lf.take kz.toNat).length ≤ 1000) := Lib.hid (by have := HI1.out; simp only [List.length_take, List.length_drop]; omega)
        generalize hX : Lf.take kz.toNat = X at *
        generalize hY : Lf.drop (kz.toNat + 1) = Y at *
        clear hq1 hcl hV5 hX hY
        go_region_law (first
          | (refine Kd.N_append_rows_step (w0 := w5) k38 w5.heap.size rfl (.tmp 53) (.tmp 57) 29 38 _ _ rfl (by kernel_rfl) info38 rfl (by decide) (by decide) (.slice A6 X.length c6) X Y (if c = kz.toNat + 1 then some ad else some (ad.add ((kz.toNat + 1) * 8))) (Lf.length - (kz.toNat + 1)) (c - (kz.toNat + 1)) (fun k => k ≠ w3.heap.size) (fun k => k ≠ w3.heap.size ∧ k < w5.heap.size) rfl rfl HN6.out (Kd.F_below HF2.out HB6.out) (fun k hk => ⟨hk.1, fun he => by have := HB0.out k he.symm; omega⟩) (fun k hk => by omega) HB6.out (by omega) (by have := HXL.out; omega) ?_; intro v7 w7 hN7 hb7 _ _; generalize hZ : X ++ Y = Z at hN7; have HZ := Lib.hid hZ; clear hZ; obtain ⟨A7, c7, rfl⟩ := Kd.N_slice hN7; have hs7 := hb7.size; have HN7 := Lib.hid hN7; have HB7 := Lib.hid hb7; clear hN7 hb7)
          | (refine Kd.N_append_rows_step (w0 := w5) k38 w5.heap.size rfl (.tmp 49) (.tmp 52) 29 38 _ _ rfl (by kernel_rfl) info38 rfl (by decide) (by decide) (.slice (some ⟨w5.heap.size, 0, none⟩) 0 0) [] X (some ad) kz.toNat c (fun k => k ≠ w3.heap.size) (fun k => k ≠ w3.heap.size ∧ k < w5.heap.size) rfl rfl (Kd.N_drew (Kd.N_mono (Kd.R_N (R_lit_nil9 k38 38 w5)) (fun k hk => by omega))) (Kd.F_drew (Kd.F_alloc HF1.out _)) (fun k hk => ⟨hk.1, by simp [Value.ownBlock]; omega⟩) (fun k hk => by have hk' : w5.heap.size + 1 ≤ k := (by simpa using hk); omega) (below_drew (below_alloc (Below.refl _ _) _)) (by simp) (by simp; omega) ?_; intro v6 w6 hN6 hb6 _ _; rw [List.nil_append] at hN6; obtain ⟨A6, c6, rfl⟩ := Kd.N_slice hN6; have HB0 := Lib.hid (Kd.N_base hN6); have HN6 := Lib.hid hN6; have HB6 := Lib.hid hb6; have hs6 := hb6.size; clear hN6 hb6))
        have hs5w : w.heap.size ≤ w5.heap.size := by omega
        have HH7 := Lib.hid (HH5.out.below HB7.out)
        have HM7 := Lib.hid (Kd.N_below HM5.out HB7.out)
        have HBW := Lib.hid (below_then HB5.out hs5w HB7.out)
        clear e1 e2 e3 e4 e5
        go_wp2
        all_goals (
          have hi9 := HI1.out
          have hx9 := HXL.out
          have hl9 : Z.length = X.length + Y.length := by rw [← HZ.out, List.length_append]
          go_roundg (gk - 1)
          case measure => omega
          case rel => exact ⟨Z, insL T q, A7, c7, _, rfl, rfl, ⟨by first | omega | (simp only [IntKind.wrap_i64]; omega), by first | omega | (simp only [IntKind.wrap_i64]; omega), by have := insL_len T q; omega⟩, ⟨by omega⟩, ⟨by rw [← HZ.out]; exact HS.out⟩, ⟨HH7.out⟩, ⟨Kd.N_lower HN7.out (by omega)⟩, ⟨HM7.out⟩, ⟨HBW.out⟩, ⟨by omega⟩⟩)
    · have d1 : decide (0 < Lf.length) = false := decide_eq_false hlt
      have d2 : decide ((0 : Int) < (Lf.length : Int)) = false := decide_eq_false (by omega)
      have hnil : Lf = [] := List.eq_nil_of_length_eq_zero (by omega)
      have hTL : T = L := by have h := HPw.out; rw [hnil] at h; exact h.last
      have HHL : Hid (Holds wr (fun k => w3.heap.size < k) w3.heap.size L) := Lib.hid (by have h := HHw.out; rwa [hTL] at h)
      clear hnil hTL hi1
      go_wp2_with (first
        | (go_at_call 30; refine (hold_all _ _ w3.heap.size L HHL.out HLT.out).mono ?_; rintro e w6 ⟨v6, rfl, hN6, hb6⟩; obtain ⟨A6, c6, rfl⟩ := Kd.N_slice hN6; have HN6 := Lib.hid hN6; have HM6 := Lib.hid (Kd.N_below HMw.out hb6); have HB6 := Lib.hid (below_step HBw.out hb6); clear hN6 hb6)
        | (go_at_call 21; refine (garnerref10_Same.calls 5000 A6 c6 _ A2 c2 _ true _ (Kd.N_reads' HN6.out).2.2 (Kd.N_reads' HN6.out).2.1 (Kd.N_reads' HM6.out).2.2 (Kd.N_reads' HM6.out).2.1 HMF.out).mono ?_; rintro e w7 ⟨rfl, hb7⟩; have HB7 := Lib.hid (below_step HB6.out hb7); clear hb7)
        | (go_at_call 23; refine (awake_calls _).mono ?_; rintro e w8 ⟨rfl, hb8⟩; have HB8 := Lib.hid (below_step HB7.out hb8); clear hb8))
      go_ret
      exact ⟨rfl, HB8.out⟩
theorem orders_any {w0 : World} (A0 : Option Addr) (c0 : Nat) (l : List S38) (hC : Kd.C k38 w0 A0 l.length l) (hc : l.length ≤ c0) (hm : l.length ≤ maxLen) (hw : ∀ x ∈ l, ∀ z ∈ x.f2.f1, (Lit.int .u8 z).wf = true)
    (A1 : Option Addr) (c1 : Nat) (t : List Int) (hC1 : (Kd.int .u8).C w0 A1 t.length t) (hc1 : t.length ≤ c1) (hw1 : ∀ z ∈ t, (Lit.int .u8 z).wf = true) (w : World) (he : w = w0 := by rfl) :
    Calls Try.prog 6 #[.slice A0 l.length c0, .slice A1 t.length c1] w fun e w' => e = .returned (.bool true) ∧ Below w.heap.size w w' := by
  subst he
  obtain ⟨b, hb, hbt⟩ := light_f l 300 (by omega) (by unfold maxLen at hm; omega)
  by_cases hn : b = false ∨ 200 < (t.length : Int)
  · exact orders_not A0 c0 l A1 c1 t w hC hc b hb hn
  · have hbt1 : b = true := by cases b <;> simp_all
    subst hbt1
    obtain ⟨h1, h2⟩ := hbt rfl
    exact orders_yes A0 c0 l A1 c1 t w hC hc hC1 hc1 hb h1 h2 (decide_eq_false (fun k => hn (.inr k))) hw1
end Go.Proofs.Ytgoidimipchejaa.Tr
