/- Layer 14: lists merged, by contract; no condition beyond the bounds that each lemma names. -/
import Derived.Test.YtgoidimipchejaaMgI
namespace Go.Proofs.Ytgoidimipchejaa.Mg
open Go.RowKit Go.Proofs.Ytgoidimipchejaa.PT Go.Proofs.Ytgoidimipchejaa.Tr Go.Proofs.YtgoidimipchejaaW.PrintWords Go.Proofs.YtgoidimipchejaaW.PrintLast Go.Proofs.YtgoidimipchejaaW.PrintMore
set_option linter.unusedVariables false
set_option linter.unusedSimpArgs false
attribute [local go_sem ↓] Go.wp_at_zero Go.wp_at_succ

/-- What Next tells, in one form. -/
def NextQ (w : World) (base Bd H : Nat) (ls : List (List S38)) (e : Ending) (w' : World) : Prop :=
  ∃ (cur : Option S38) (ls' : List (List S38)) (A' : Option Addr) (c' : Nat) (fr : Int), e = .returned (.tuple #[.agg (itemCells (cur.getD zeroS) A' c'), .int .i64 fr, .bool cur.isSome]) ∧
    ((cur.getD zeroS).f2.f1.length ≤ c' ∧ Kd.F (Kd.int .u8) w' (fun k => w.heap.size ≤ k) A' (cur.getD zeroS).f2.f1.length (cur.getD zeroS).f2.f1) ∧ St w' base Bd H ls' ∧ mergeL ls = cur.toList ++ mergeL ls' ∧ (cur = none → mergeL ls' = [] ∧ fr = 0 ∧ ls' = ls) ∧
    (∀ x, cur = some x → fr = fromI ls (kOf x) ∧ ls' = ls.map (dropHead (kOf x))) ∧ SmallLs ls' ∧ Turns w w' (Its base Bd)
theorem next_q (w : World) (base Bd H : Nat) (ls : List (List S38)) (h : St w base Bd H ls) (hb : SmallLs ls) :
    Calls Try.prog 17 #[.pointer (some ⟨H, 0, none⟩)] w (NextQ w base Bd H ls) := by
  refine (next_st w base Bd H ls h hb).mono ?_
  intro e w' hP
  unfold NextP at hP
  cases hm : mergeL ls with
  | nil =>
    rw [hm] at hP
    obtain ⟨⟨A', c', he, h1, h2⟩, h3, h4⟩ := hP
    exact ⟨none, ls, A', c', 0, he, ⟨h1, h2⟩, h3, by rw [hm]; rfl, fun _ => ⟨hm, rfl, rfl⟩, fun x hx => (by cases hx), hb, h4⟩
  | cons x M =>
    rw [hm] at hP
    obtain ⟨⟨A', c', he, h1, h2⟩, h3, h4, h5⟩ := hP
    exact ⟨some x, _, A', c', _, he, ⟨h1, h2⟩, h3, by rw [hm, h4]; rfl, fun h => (by cases h), fun y hy => (by cases hy; exact ⟨rfl, rfl⟩), hb.drop _, h5⟩
/-- The items that are told. -/
def selL (drop : Bool) (l : List S38) : List S38 := l.filter fun x => !drop || !x.f1
structure AllAt (w wr : World) (Bd H : Nat) (ls : List (List S38)) (drop : Bool) (ls' : List (List S38)) (out : List S38) (A : Option Addr) (c : Nat) (cur : Option S38) (B B0 : Nat) (A' : Option Addr) (c' kq : Nat) : Prop where
  st : St wr w.heap.size Bd H ls'
  row : Kd.N k38 38 wr w.heap.size (fun k => Bd ≤ k ∧ k < B0 ∧ k ≠ B) (.slice A out.length c) out
  item : wr.heap[B]? = some (.cells (itemCells (cur.getD zeroS) A' c') 38 (0, 0))
  cap : (cur.getD zeroS).f2.f1.length ≤ c'
  bytes : Kd.F (Kd.int .u8) wr (fun k => B0 ≤ k ∧ k ≠ B) A' (cur.getD zeroS).f2.f1.length (cur.getD zeroS).f2.f1
  sum : out ++ selL drop (cur.toList ++ mergeL ls') = selL drop (mergeL ls)
  left : (cur.toList ++ mergeL ls').length ≤ kq
  done : cur = none → mergeL ls' = []
  small : SmallLs ls'
  at1 : Bd ≤ B ∧ B < wr.heap.size
  at0 : Bd ≤ B0 ∧ B0 ≤ wr.heap.size
  below : Below w.heap.size w wr
theorem sel_le (drop : Bool) (l : List S38) : (selL drop l).length ≤ l.length := List.length_filter_le _ _
/-- A struct of eight cells is written whole. -/
theorem store8 (W : World) (B : Nat) {v0 v1 v2 v3 v4 v5 v6 v7 : Value} {t : TypeId} {fr : Nat × Nat} (h : W.heap[B]? = some (.cells #[v0, v1, v2, v3, v4, v5, v6, v7] t fr)) (u0 u1 u2 u3 u4 u5 u6 u7 : Value) :
    ((((((((W.setCell ⟨B, 0, none⟩ u0).setCell ⟨B, 1, none⟩ u1).setCell ⟨B, 2, none⟩ u2).setCell ⟨B, 3, none⟩ u3).setCell ⟨B, 4, none⟩ u4).setCell ⟨B, 5, none⟩ u5).setCell ⟨B, 6, none⟩ u6).setCell ⟨B, 7, none⟩ u7).heap[B]? = some (.cells #[u0, u1, u2, u3, u4, u5, u6, u7] t fr) ∧
    ∀ lo, lo ≤ B → Below lo W ((((((((W.setCell ⟨B, 0, none⟩ u0).setCell ⟨B, 1, none⟩ u1).setCell ⟨B, 2, none⟩ u2).setCell ⟨B, 3, none⟩ u3).setCell ⟨B, 4, none⟩ u4).setCell ⟨B, 5, none⟩ u5).setCell ⟨B, 6, none⟩ u6).setCell ⟨B, 7, none⟩ u7) := by
  constructor
  · have h0 : (W.setCell ⟨B, 0, none⟩ u0).heap[B]? = some (.cells #[u0, v1, v2, v3, v4, v5, v6, v7] t fr) := by rw [Go.Joins.block_setCell h]; rfl
    have h1 : ((W.setCell ⟨B, 0, none⟩ u0).setCell ⟨B, 1, none⟩ u1).heap[B]? = some (.cells #[u0, u1, v2, v3, v4, v5, v6, v7] t fr) := by rw [Go.Joins.block_setCell h0]; rfl
    have h2 : (((W.setCell ⟨B, 0, none⟩ u0).setCell ⟨B, 1, none⟩ u1).setCell ⟨B, 2, none⟩ u2).heap[B]? = some (.cells #[u0, u1, u2, v3, v4, v5, v6, v7] t fr) := by rw [Go.Joins.block_setCell h1]; rfl
    have h3 : ((((W.setCell ⟨B, 0, none⟩ u0).setCell ⟨B, 1, none⟩ u1).setCell ⟨B, 2, none⟩ u2).setCell ⟨B, 3, none⟩ u3).heap[B]? = some (.cells #[u0, u1, u2, u3, v4, v5, v6, v7] t fr) := by rw [Go.Joins.block_setCell h2]; rfl
    have h4 : (((((W.setCell ⟨B, 0, none⟩ u0).setCell ⟨B, 1, none⟩ u1).setCell ⟨B, 2, none⟩ u2).setCell ⟨B, 3, none⟩ u3).setCell ⟨B, 4, none⟩ u4).heap[B]? = some (.cells #[u0, u1, u2, u3, u4, v5, v6, v7] t fr) := by rw [Go.Joins.block_setCell h3]; rfl
    have h5 : ((((((W.setCell ⟨B, 0, none⟩ u0).setCell ⟨B, 1, none⟩ u1).setCell ⟨B, 2, none⟩ u2).setCell ⟨B, 3, none⟩ u3).setCell ⟨B, 4, none⟩ u4).setCell ⟨B, 5, none⟩ u5).heap[B]? = some (.cells #[u0, u1, u2, u3, u4, u5, v6, v7] t fr) := by rw [Go.Joins.block_setCell h4]; rfl
    have h6 : (((((((W.setCell ⟨B, 0, none⟩ u0).setCell ⟨B, 1, none⟩ u1).setCell ⟨B, 2, none⟩ u2).setCell ⟨B, 3, none⟩ u3).setCell ⟨B, 4, none⟩ u4).setCell ⟨B, 5, none⟩ u5).setCell ⟨B, 6, none⟩ u6).heap[B]? = some (.cells #[u0, u1, u2, u3, u4, u5, u6, v7] t fr) := by rw [Go.Joins.block_setCell h5]; rfl
    have h7 : ((((((((W.setCell ⟨B, 0, none⟩ u0).setCell ⟨B, 1, none⟩ u1).setCell ⟨B, 2, none⟩ u2).setCell ⟨B, 3, none⟩ u3).setCell ⟨B, 4, none⟩ u4).setCell ⟨B, 5, none⟩ u5).setCell ⟨B, 6, none⟩ u6).setCell ⟨B, 7, none⟩ u7).heap[B]? = some (.cells #[u0, u1, u2, u3, u4, u5, u6, u7] t fr) := by rw [Go.Joins.block_setCell h6]; rfl
    exact h7
  · intro lo hlo
    repeat (refine Below.setCell ?_ hlo _)
    exact Below.refl _ _
theorem store8_far (W : World) (B : Nat) (u0 u1 u2 u3 u4 u5 u6 u7 : Value) (k : Nat) (hk : k ≠ B) :
    ((((((((W.setCell ⟨B, 0, none⟩ u0).setCell ⟨B, 1, none⟩ u1).setCell ⟨B, 2, none⟩ u2).setCell ⟨B, 3, none⟩ u3).setCell ⟨B, 4, none⟩ u4).setCell ⟨B, 5, none⟩ u5).setCell ⟨B, 6, none⟩ u6).setCell ⟨B, 7, none⟩ u7).heap[k]? = W.heap[k]? := by
  repeat (refine Eq.trans (Below.heap_setCell _ _ _ _ hk) ?_)
  rfl
theorem sel_append (drop : Bool) (a b : List S38) : selL drop (a ++ b) = selL drop a ++ selL drop b := List.filter_append ..
set_option maxHeartbeats 1000000 in
set_option maxRecDepth 100000 in
theorem all_no (A0 : Option Addr) (c0 : Nat) (ls : List (List S38)) (drop : Bool) (w : World) (hC : Kd.C kL w A0 ls.length ls) (hc : ls.length ≤ c0) (hl : LiteLs ls) (hn : 100 < (ls.length : Int) ∨ allSorted ls = false) :
    Calls Try.prog 20 #[.slice A0 ls.length c0, .bool drop] w fun e w' => e = .returned (.tuple #[.slice none 0 0, .int .i64 1]) ∧ Below w.heap.size w w' := by
  have H := Lib.hid (begin_no A0 c0 ls w hC hc hl hn)
  clear hC hn
  go_enter Try.func20, Try.ntmps20
  go_wp2_with (first
    | (go_at_call 15; refine H.out.mono ?_; rintro e w1 ⟨rfl, hb1⟩; have HB1 := Lib.hid hb1; clear hb1))
  go_ret2
  exact ⟨rfl, HB1.out⟩
set_option maxHeartbeats 4000000 in
set_option maxRecDepth 100000 in
theorem all_yes (A0 : Option Addr) (c0 : Nat) (ls : List (List S38)) (drop : Bool) (w : World) (hC : Kd.C kL w A0 ls.length ls) (hc : ls.length ≤ c0) (hl : LiteLs ls) (h1 : decide (100 < (ls.length : Int)) = false) (hs : allSorted ls = true) (hsm : SmallLs ls) (hM : (mergeL ls).length ≤ 100000000) :
    Calls Try.prog 20 #[.slice A0 ls.length c0, .bool drop] w fun e w' => ∃ vo, e = .returned (.tuple #[vo, .int .i64 0]) ∧ Kd.N k38 38 w' w.heap.size (fun k => w.heap.size ≤ k) vo (selL drop (mergeL ls)) ∧ Below w.heap.size w w' := by
  have H := Lib.hid (begin_st A0 c0 ls w hC hc hl h1 hs)
  have HSM := Lib.hid hsm
  have HM := Lib.hid hM
  clear hC hl hs hsm hM
  go_enter Try.func20, Try.ntmps20
  go_wp2_with (first
    | (go_at_call 15; refine H.out.mono ?_; rintro e w1 ⟨HH, rfl, hS1, hb1⟩; have HS1 := Lib.hid hS1; have HB1 := Lib.hid hb1; have hsz1 := hb1.size; generalize hBd : w1.heap.size = Bd at HS1; have HBD := Lib.hid hBd; clear hS1 hb1 hBd)
    | (go_at_call 17; refine (next_q _ w.heap.size Bd HH ls HS1.out HSM.out).mono ?_; rintro e w2 ⟨cur, ls', A', c', fr, rfl, ⟨hc2, hF2⟩, hS2, hm2, hn2, _, hsm2, hT2⟩; have HF2 := Lib.hid hF2; have HS2 := Lib.hid hS2; have HM2 := Lib.hid hm2; have HN2 := Lib.hid hn2; have HSM2 := Lib.hid hsm2; have HB2 := Lib.hid (HB1.out.trans (hT2.since (Nat.le_refl _) hsz1)); have hsz2 := hT2.size; unfold itemCells; generalize hy : cur.getD zeroS = y at hc2 HF2 ⊢; have HY := Lib.hid hy; clear hF2 hS2 hm2 hn2 hsm2 hT2 hy))
  have hBd2 : Bd ≤ w2.heap.size := by rw [← HBD.out]; exact hsz2
  have HA : Hid (AllAt w (w2.alloc (.cells (itemCells y A' c') 38)) Bd HH ls drop ls' [] none 0 cur w2.heap.size Bd A' c' (mergeL ls).length) := Lib.hid
    ⟨HS2.out.alloc _, Kd.N_nil _ _ _ _ _, by rw [HY.out]; exact heap_alloc_new w2 _, by rw [HY.out]; exact hc2, by rw [HY.out]; exact Kd.F_alloc (Kd.F_mono (Kd.F_bound HF2.out) (fun k hk => ⟨by rw [← HBD.out]; exact hk.1, by have := hk.2; omega⟩)) _, by rw [HM2.out]; rfl, by rw [HM2.out]; exact Nat.le_refl _, fun h => (HN2.out h).1, HSM2.out, ⟨hBd2, by simp⟩, ⟨Nat.le_refl _, by simp; omega⟩, below_alloc HB2.out _⟩
  clear hc2 HF2 HS2 HM2 HN2 HSM2 HB2
  unfold itemCells at HA
  generalize (w2.alloc (.cells #[.string y.f0, .bool y.f1, .bool y.f2.f0, .slice A' y.f2.f1.length c', .int .i64 y.f2.f2.f0, .int .i64 y.f2.f2.f1, .int .i64 y.f2.f2.f2, .int .u32 y.f2.f2.f3] 38)) = w3 at HA ⊢
  generalize hB0 : w2.heap.size = B at HA ⊢
  go_loopg [8, 9, 11] (mergeL ls).length (fun kq v8 v9 v11 wr => ∃ (ls' : List (List S38)) (out : List S38) (A : Option Addr) (c : Nat) (cur : Option S38) (B B0 : Nat) (A' : Option Addr) (c' : Nat) (b : Bool), v8 = .slice A out.length c ∧ v9 = .pointer (some ⟨B, 0, none⟩) ∧ v11 = .bool b ∧ Aside0 (cur.isSome = b) ∧ Aside0 (AllAt w wr Bd HH ls drop ls' out A c cur B B0 A' c' kq))
  case atStart => exact ⟨ls', [], none, 0, cur, B, Bd, A', c', _, rfl, rfl, rfl, ⟨rfl⟩, ⟨HA.out⟩⟩
  case round =>
    clear HA HY hB0
    obtain ⟨ls', out, A, c, cur, B, B0, A', c', b, rfl, rfl, rfl, hb, hA⟩ := hrel
    have HA := Lib.hid hA.out
    have HCB := Lib.hid hb.out
    clear hb hA
    cases b with
    | false =>
      have hcn : cur = none := by have := HCB.out; cases cur <;> simp_all
      have HR : Hid (Kd.N k38 38 _ w.heap.size (fun k => w.heap.size ≤ k) (.slice A out.length c) (selL drop (mergeL ls))) := Lib.hid (by
        have h1 := HA.out.sum
        have h2 := HA.out.done hcn
        rw [hcn, h2] at h1
        have h3 : out = selL drop (mergeL ls) := by simpa [selL] using h1
        rw [← h3]
        refine Kd.N_mono HA.out.row (fun k hk => ?_)
        have := hsz1
        rw [HBD.out] at this
        exact Nat.le_trans this hk.1)
      clear hcn
      go_wp2
      go_ret2
      exact ⟨_, rfl, HR.out, HA.out.below⟩
    | true =>
      obtain ⟨x, hx⟩ : ∃ x, cur = some x := by have := HCB.out; cases cur <;> simp_all
      subst hx
      have HIT := Lib.hid HA.out.item
      simp only [Option.getD_some] at HIT
      obtain ⟨d0, d1, d2, d3, d4, d5, d6, d7⟩ := cells8 HIT.out
      have hout : out.length ≤ 100000000 := by
        have e1 := congrArg List.length HA.out.sum
        rw [List.length_append] at e1
        have := sel_le drop (mergeL ls)
        have := HM.out
        omega
      have hwB : w.heap.size ≤ Bd := by rw [← HBD.out]; exact hsz1
      have HLT := Lib.hid (lt_of_block HIT.out)
      go_upto_block 1 with (fail)
      go_cut [8] (fun s8 wx => ∃ (out2 : List S38) (A2 : Option Addr) (c2 : Nat), s8 = .slice A2 out2.length c2 ∧ Aside0 (out2 = out ++ selL drop [x]) ∧ Aside0 (Kd.N k38 38 wx w.heap.size (fun k => Bd ≤ k ∧ k ≠ B) (.slice A2 out2.length c2) out2) ∧ Aside0 (∀ k, k < wr.heap.size → k < Bd ∨ k = B → wx.heap[k]? = wr.heap[k]?) ∧ Aside0 (Below w.heap.size w wx) ∧ Aside0 (wr.heap.size ≤ wx.heap.size))
      case first =>
        cases hsel : (!drop || !x.f1) with
        | false =>
          have hd : drop = true := by cases drop <;> simp_all
          have hf : x.f1 = true := by cases hx : x.f1 <;> simp_all
          have HSE : Hid (out = out ++ selL drop [x]) := Lib.hid (by simp [selL, hd, hf])
          have HRW : Hid (Kd.N k38 38 wr w.heap.size (fun k => Bd ≤ k ∧ k ≠ B) (.slice A out.length c) out) := Lib.hid (Kd.N_mono HA.out.row (fun k hk => ⟨hk.1, hk.2.2⟩))
          rw [hf] at d1
          subst hd
          clear hf hsel
          go_wp2_with fail
          go_meet
          exact ⟨out, A, c, rfl, ⟨HSE.out⟩, ⟨HRW.out⟩, ⟨fun _ _ _ => rfl⟩, ⟨HA.out.below⟩, ⟨Nat.le_refl _⟩⟩
        | true =>
          have HSE : Hid (out ++ [x] = out ++ selL drop [x]) := Lib.hid (by simp only [selL, List.filter_cons, hsel, if_true, List.filter_nil])
          have HFK : Hid (Kd.FK k38 wr (fun k => B0 ≤ k ∧ k ≠ B) x [.string x.f0, .bool x.f1, .bool x.f2.f0, .slice A' x.f2.f1.length c', .int .i64 x.f2.f2.f0, .int .i64 x.f2.f2.f1, .int .i64 x.f2.f2.f2, .int .u32 x.f2.f2.f3]) := Lib.hid (k38_mkF _ _ x HA.out.cap HA.out.bytes)
          have hcs : drop = false ∨ (drop = true ∧ x.f1 = false) := by cases drop <;> cases hx : x.f1 <;> simp_all
          have hB1 := HA.out.at1
          have hB0 := HA.out.at0
          clear hsel
          have HR0 := Lib.hid HA.out.row.1
          have HRO : Hid (Kd.N k38 38 wr w.heap.size (fun k => Bd ≤ k ∧ k ≠ B) (.slice A out.length c) out) := Lib.hid (Kd.N_mono HA.out.row (fun k hk => ⟨hk.1, hk.2.2⟩))
          rcases hcs with rfl | ⟨rfl, hf⟩
          all_goals (
            try rw [hf] at d1 HFK
            try clear hf
            go_wp2_with (first
              | (at_builtin; refine Kd.N_append (w0 := w) k38 w.heap.size rfl (.tmp 40) (.tmp 42) 29 38 _ _ rfl (by kernel_rfl) info38 rfl (by decide) (by decide) (.slice A out.length c) out x _ (fun k => Bd ≤ k ∧ k ≠ B) (fun k => B0 ≤ k ∧ k ≠ B) rfl rfl HFK.out (fun k hk => ⟨⟨by omega, hk.2⟩, fun e => by have := HR0.out k e.symm; omega⟩) (fun k hk => by omega) HRO.out HA.out.below HA.out.below.size (by omega) ?_; intro v5 w5 hN5 hb5 hg5 _; generalize hZZ : out ++ [x] = ZZ at hN5; have HZZ := Lib.hid hZZ; clear hZZ; obtain ⟨A5, c5, rfl⟩ := Kd.N_slice hN5; have HN5 := Lib.hid hN5; have HB5 := Lib.hid hb5; have HG5 := Lib.hid hg5; clear hN5 hb5 hg5))
            go_meet
            exact ⟨ZZ, A5, c5, rfl, ⟨by rw [← HZZ.out]; exact HSE.out⟩, ⟨HN5.out⟩, ⟨fun k hk h => HG5.out.block k hk (fun e => by have := HR0.out k e.symm; omega)⟩, ⟨HB5.out⟩, ⟨HG5.out.size⟩⟩)
      case rest =>
        obtain ⟨out2, A2, c2, rfl, ho2, hN2, hk2, hb2, hs2⟩ := hcut
        have HO2 := Lib.hid ho2.out
        have HN2 := Lib.hid hN2.out
        have HB2 := Lib.hid hb2.out
        have hsz3 := hs2.out
        have hB1 := HA.out.at1
        have HST : Hid (St wc w.heap.size Bd HH ls') := Lib.hid (HA.out.st.step hs2.out (fun k hk => hk2.out k (Nat.lt_of_lt_of_le hk HA.out.st.size) (.inl hk)))
        have HIT2 := Lib.hid ((hk2.out B HLT.out (.inr rfl)).trans HIT.out)
        have HSUM := Lib.hid HA.out.sum
        have HLEFT := Lib.hid HA.out.left
        have HSML := Lib.hid HA.out.small
        clear ho2 hN2 hb2 hk2 hs2 d0 d1 d2 d3 d4 d5 d6 d7 HA HIT
        obtain ⟨d0, d1, d2, d3, d4, d5, d6, d7⟩ := cells8 HIT2.out
        go_wp2_with (first
          | (go_at_call 17; refine (next_q _ w.heap.size Bd HH ls' (HST.out.alloc _) HSML.out).mono ?_; rintro e w6 ⟨cur2, ls2, A6, c6, fr6, rfl, ⟨hc6, hF6⟩, hS6, hm6, hn6, _, hsm6, hT6⟩; have h8 := (hT6.block wc.heap.size (by simp) (fun h => by have := h.2; omega)).trans (heap_alloc_new wc _); obtain ⟨g0, g1, g2, g3, g4, g5, g6, g7⟩ := cells8 h8; have gf := frees h8; have hsz6 : wc.heap.size + 1 ≤ w6.heap.size := (by have := hT6.size; simpa using this); have HN6 : Hid (Kd.N k38 38 w6 w.heap.size (fun k => Bd ≤ k ∧ k < wc.heap.size) (.slice A2 out2.length c2) out2) := Lib.hid (Kd.N_step (Kd.N_alloc (Kd.N_mono (Kd.N_bound HN2.out) (ok' := fun k => Bd ≤ k ∧ k < wc.heap.size) (fun k hk => ⟨hk.1.1, hk.2⟩)) _) (fun k hk hlt => hT6.block k hlt (fun h => by have := h.2; omega))); have HB6 : Hid (Below w.heap.size w w6) := Lib.hid ((below_alloc HB2.out _).trans (hT6.since (Nat.le_refl _) (by simp; omega))); have H8 := Lib.hid h8; have HF6 : Hid (Kd.F (Kd.int .u8) w6 (fun k => wc.heap.size + 1 ≤ k) A6 (cur2.getD zeroS).f2.f1.length (cur2.getD zeroS).f2.f1) := Lib.hid (Kd.F_mono hF6 (fun k hk => by simpa using hk)); have HS6 := Lib.hid hS6; have HM6 := Lib.hid hm6; have HNN6 := Lib.hid hn6; have HSM6 := Lib.hid hsm6; unfold itemCells; generalize hy6 : cur2.getD zeroS = y6 at hc6 HF6 ⊢; have HY6 := Lib.hid hy6; clear hF6 hS6 hm6 hn6 hsm6 hT6 hy6 h8))
        have hst := store8 w6 wc.heap.size H8.out (.string y6.f0) (.bool y6.f1) (.bool y6.f2.f0) (.slice A6 y6.f2.f1.length c6) (.int .i64 y6.f2.f2.f0) (.int .i64 y6.f2.f2.f1) (.int .i64 y6.f2.f2.f2) (.int .u32 y6.f2.f2.f3)
        have hfar := store8_far w6 wc.heap.size (.string y6.f0) (.bool y6.f1) (.bool y6.f2.f0) (.slice A6 y6.f2.f1.length c6) (.int .i64 y6.f2.f2.f0) (.int .i64 y6.f2.f2.f1) (.int .i64 y6.f2.f2.f2) (.int .u32 y6.f2.f2.f3)
        have hleft := HLEFT.out
        rw [HM6.out] at hleft
        have hsum : out2 ++ selL drop (cur2.toList ++ mergeL ls2) = selL drop (mergeL ls) := by
          rw [← HSUM.out, HO2.out, ← HM6.out, List.append_assoc, ← sel_append]
          rfl
        go_roundg (gk - 1)
        case measure => simp only [Option.toList, List.length_append, List.length_cons, List.length_nil] at hleft; omega
        case rel => exact ⟨ls2, out2, A2, c2, cur2, wc.heap.size, wc.heap.size + 1, A6, c6, _, rfl, rfl, rfl, ⟨rfl⟩, ⟨
          ⟨HS6.out.step (hst.2 0 (Nat.zero_le _)).size (fun k hk => hfar k (by omega)),
           Kd.N_mono (Kd.N_step HN6.out (fun k hk _ => hfar k (by omega))) (fun k hk => ⟨hk.1, by omega, by omega⟩),
           by rw [HY6.out]; exact hst.1, by rw [HY6.out]; exact hc6,
           by rw [HY6.out]; exact Kd.F_mono (Kd.F_step HF6.out (fun k hk _ => hfar k (by omega))) (fun k hk => ⟨hk, by omega⟩),
           hsum, by simp only [Option.toList, List.length_append, List.length_cons, List.length_nil] at hleft ⊢; omega, fun h => (HNN6.out h).1, HSM6.out,
           ⟨by omega, Nat.lt_of_lt_of_le (by omega) (hst.2 0 (Nat.zero_le _)).size⟩, ⟨by omega, Nat.le_trans hsz6 (hst.2 0 (Nat.zero_le _)).size⟩,
           HB6.out.trans (hst.2 w.heap.size (by omega))⟩⟩⟩
end Go.Proofs.Ytgoidimipchejaa.Mg
