/- Layer 14: a walk as the merged list that is left; no condition beyond the bounds that each lemma names. -/
import Derived.Test.YtgoidimipchejaaMgF
import Derived.Test.YtgoidimipchejaaMgH
namespace Go.Proofs.Ytgoidimipchejaa.Mg
open Go.RowKit Go.Proofs.Ytgoidimipchejaa.PT Go.Proofs.Ytgoidimipchejaa.Tr Go.Proofs.YtgoidimipchejaaW.PrintWords Go.Proofs.YtgoidimipchejaaW.PrintLast Go.Proofs.YtgoidimipchejaaW.PrintMore
set_option linter.unusedVariables false
set_option linter.unusedSimpArgs false

/-- A walk's blocks: those made from base on, up to Bd. -/
def Its (base Bd : Nat) (k : Nat) : Prop := base ≤ k ∧ k < Bd
/-- A walk at handle H, of blocks of its own from base to Bd; what is left are the lists ls. -/
structure St (W : World) (base Bd H : Nat) (ls : List (List S38)) : Prop where
  ex : ∃ lv A c hp, HasWalk W base (fun k => k < Bd) H lv A c ls hp ∧ Inv ls hp ∧ hp.length ≤ 1000 ∧ ∀ k, (k = H ∨ some k = lv.ownBlock ∨ some k = (Value.slice A hp.length c).ownBlock) → Its base Bd k
  size : Bd ≤ W.heap.size
theorem St.step {W W1 : World} {base Bd H : Nat} {ls : List (List S38)} (h : St W base Bd H ls) (hs : W.heap.size ≤ W1.heap.size) (hm : ∀ k, k < Bd → W1.heap[k]? = W.heap[k]?) : St W1 base Bd H ls := by
  obtain ⟨⟨lv, A, c, hp, h1, h2, h3, h4⟩, h5⟩ := h
  refine ⟨⟨lv, A, c, hp, ⟨(hm H (h4 H (.inl rfl)).2).trans h1.obj, Kd.N_step h1.lists fun k hk _ => hm k hk.2, ?_⟩, h2, h3, h4⟩, Nat.le_trans h5 hs⟩
  exact Kd.R_mono (Kd.R_step (Kd.R_mono (Kd.R_tight rfl h1.heap) (ok' := fun k => k < Bd ∧ k ≠ H) (fun k hk => ⟨(h4 k (.inr (.inr hk))).2, h1.heap.1 k hk.symm⟩)) fun k hk _ => hm k hk.1) (fun k hk => hk.2)
theorem St.below {W W1 : World} {base Bd H : Nat} {ls : List (List S38)} (h : St W base Bd H ls) (hb : Below W.heap.size W W1) : St W1 base Bd H ls := h.step hb.size fun k hk => hb.block k (Nat.lt_of_lt_of_le hk h.size)
theorem St.alloc {W : World} {base Bd H : Nat} {ls : List (List S38)} (h : St W base Bd H ls) (o : Obj) : St (W.alloc o) base Bd H ls := h.below (below_alloc (Below.refl _ _) o)
theorem Turns.mono {w w' : World} {S S' : Nat → Prop} (h : Turns w w' S) (hS : ∀ k, S k → S' k) : Turns w w' S' := ⟨h.os, h.tape, h.output, h.size, fun k hk hs => h.block k hk fun hs' => hs (hS k hs')⟩
theorem Turns.since {w w' : World} {base Bd B : Nat} (h : Turns w w' (Its base Bd)) (hB : B ≤ base) (hW : B ≤ w.heap.size) : Below B w w' := h.from hW fun k hk => Nat.le_trans hB hk.1
/-- What Next tells. -/
def NextP (w : World) (base Bd H : Nat) (ls : List (List S38)) (e : Ending) (w' : World) : Prop :=
  match mergeL ls with
  | [] => (∃ A' c', e = .returned (.tuple #[.agg (itemCells zeroS A' c'), .int .i64 0, .bool false]) ∧ zeroS.f2.f1.length ≤ c' ∧ Kd.F (Kd.int .u8) w' (fun k => w.heap.size ≤ k) A' zeroS.f2.f1.length zeroS.f2.f1) ∧ St w' base Bd H ls ∧ Turns w w' (Its base Bd)
  | x :: M => (∃ A' c', e = .returned (.tuple #[.agg (itemCells x A' c'), .int .i64 (fromI ls (kOf x)), .bool true]) ∧ x.f2.f1.length ≤ c' ∧ Kd.F (Kd.int .u8) w' (fun k => w.heap.size ≤ k) A' x.f2.f1.length x.f2.f1) ∧ St w' base Bd H (ls.map (dropHead (kOf x))) ∧ mergeL (ls.map (dropHead (kOf x))) = M ∧ Turns w w' (Its base Bd)
/-- The lists' bytes are bounded. -/
def SmallLs (ls : List (List S38)) : Prop := ∀ l ∈ ls, ∀ x ∈ l, x.f2.f1.length ≤ 1000000
theorem SmallLs.drop {ls : List (List S38)} (h : SmallLs ls) (key : List UInt8) : SmallLs (ls.map (dropHead key)) := fun l hl x hx => by
  obtain ⟨l', hl', rfl⟩ := List.mem_map.1 hl
  exact h l' hl' x ((dropHead_sub key l').subset hx)
theorem next_st (w : World) (base Bd H : Nat) (ls : List (List S38)) (h : St w base Bd H ls) (hb : SmallLs ls) :
    Calls Try.prog 17 #[.pointer (some ⟨H, 0, none⟩)] w (NextP w base Bd H ls) := by
  obtain ⟨⟨lv, A, c, hp, hW, hI, hl, hS⟩, hN⟩ := h
  by_cases hne : hp = []
  · have hm := merge_nil hI hne
    have ho := hW.obj
    rw [hne] at ho
    refine (next_empty w H lv A c ho).mono ?_
    rintro e w' ⟨A', c', he, hF, hB⟩
    unfold NextP
    rw [hm]
    exact ⟨⟨A', c', he, hF⟩, ⟨⟨lv, A, c, hp, hW.below hB, hI, hl, hS⟩, Nat.le_trans hN hB.size⟩, (Turns.refl w _).below hB⟩
  · have hlen : 0 < hp.length := List.length_pos_iff.2 hne
    obtain ⟨g, rfl⟩ : ∃ g, A = some ⟨g, 0, none⟩ := by
      cases A with
      | none =>
        obtain ⟨ad, e, _⟩ := (Kd.R_reads' hW.heap).2.2.2.2 (by omega)
        cases e
      | some ad =>
        obtain ⟨g, rfl⟩ := Kd.R_head hW.heap
        exact ⟨g, rfl⟩
    obtain ⟨i0, i1, i2⟩ := (hI.mem _).1 (hat_mem hp 0 hlen)
    obtain ⟨AL, cL, rfl⟩ := Kd.N_slice hW.lists
    obtain ⟨BL, rfl⟩ : ∃ BL, AL = some ⟨BL, 0, none⟩ := by
      cases AL with
      | none =>
        obtain ⟨ad, _, _, e, _⟩ := at_L9 (Kd.N_reads' hW.lists).2.2 (hat hp 0) i0 i1
        cases e
      | some ad =>
        obtain ⟨_, rows, _, hR, _⟩ := hW.lists
        obtain ⟨g, rfl⟩ := Kd.R_head hR
        exact ⟨g, rfl⟩
    have hd := inv_head hI hne
    generalize hx : rd_T38 (lst ls (hat hp 0)) 0 = x at hd
    have hm := head_step hd hI.ord
    have hf := (head_first hd hI.ord).2
    have hxb : x.f2.f1.length ≤ 1000000 := by
      obtain ⟨t, ht⟩ := hd.is
      obtain ⟨hl2, e⟩ := lst_nat i1 i0
      exact hb _ (List.getElem_mem hl2) x (by rw [← e, ht]; simp)
    have hMine : ∀ k, Mine H BL g k → Its base Bd k := fun k hk => hS k (by
      rcases hk with h | h | h
      · exact .inl h
      · exact .inr (.inl (by simp [Value.ownBlock, h]))
      · exact .inr (.inr (by simp [Value.ownBlock, h])))
    refine (next_yes w base (fun k => k < Bd) H BL g cL c ls hp x hx hW hI hne hl hxb).mono ?_
    rintro e w' ⟨A', c', hp', he, hF, hW', hI', hl', hT⟩
    unfold NextP
    rw [hm]
    simp only
    refine ⟨⟨A', c', by rw [hf]; exact he, hF⟩, ⟨⟨_, _, c, hp', hW', hI', by omega, fun k hk => hS k ?_⟩, Nat.le_trans hN hT.size⟩, trivial, hT.mono hMine⟩
    rcases hk with h | h | h
    · exact .inl h
    · exact .inr (.inl h)
    · exact .inr (.inr (by rw [ownBlock_len _ hp.length hp'.length c c]; exact h))
/-- Begin's walk. -/
def BeginS (w : World) (ls : List (List S38)) (e : Ending) (w' : World) : Prop := ∃ H, e = .returned (.tuple #[.pointer (some ⟨H, 0, none⟩), .int .i64 0]) ∧ St w' w.heap.size w'.heap.size H ls ∧ Below w.heap.size w w'
theorem begin_st (A0 : Option Addr) (c0 : Nat) (ls : List (List S38)) (w : World) (hC : Kd.C kL w A0 ls.length ls) (hc : ls.length ≤ c0) (hl : LiteLs ls) (h1 : decide (100 < (ls.length : Int)) = false) (hs : allSorted ls = true) :
    Calls Try.prog 15 #[.slice A0 ls.length c0] w (BeginS w ls) := by
  refine (begin_yes A0 c0 ls w hC hc hl h1 hs).mono ?_
  rintro e w' ⟨H, lv, A, c, hp, he, hB⟩
  refine ⟨H, he, ⟨⟨lv, A, c, hp, hB.walk.narrow.widen (fun k hk => hk.2), hB.inv, hB.len, fun k hk => ?_⟩, Nat.le_refl _⟩, hB.below⟩
  rcases hk with rfl | h | h
  · exact ⟨hB.new, lt_of_block hB.walk.obj⟩
  · exact ⟨Kd.N_base hB.walk.lists k h.symm, Kd.N_lt hB.walk.lists k h.symm⟩
  · exact ⟨Kd.R_base hB.walk.heap k h.symm, ((Kd.R_bound hB.walk.heap).1 k h.symm).2.2.1⟩
end Go.Proofs.Ytgoidimipchejaa.Mg
