/- Layer 10: items that come in as a row's argument: where they lie. -/
import Derived.Test.YtgoidimipchejaaTrA
import Derived.Deep.Slices
import Derived.ChangeSame
import Derived.Lib.SmallJoins
import Derived.ProofKit
import Derived.ChangeOld
import Derived.OpenShut
namespace Go.Proofs.Ytgoidimipchejaa.Tr
open Go.ChangeShapes Go.WideShapes Go.ChangeAt Go.RowKit Go.Deep Go.Proofs.Ytgoidimipchejaa.PT Go.Proofs.YtgoidimipchejaaW.PrintWords Go.Proofs.YtgoidimipchejaaW.PrintLast Go.Proofs.YtgoidimipchejaaW.PrintMore
set_option linter.unusedVariables false
set_option linter.unusedSimpArgs false

section
variable {H : Type} {enc : TypeId × Value → H} {w : World} {base : Nat} {held : Bool}
theorem bytes_open {fuel : Nat} {v : Value} {y : DataW H × List MemPlace} (h : DataW.trod enc Try.prog w base (fun _ => true) held fuel 31 [v] = some y) :
    ∃ A c l, v = .slice A (List.length l) c ∧ l.length ≤ c ∧ (Kd.int .u8).C w A l.length l ∧ ∀ z ∈ l, (Lit.int .u8 z).wf = true := by
  have key : ∃ a len cap zs, v = .slice a len cap ∧ ((a = none ∧ len = 0 ∧ cap = 0 ∧ zs = []) ∨ ∃ x, a = some x ∧ len ≤ cap ∧ cap ≤ maxLen ∧ zs.length = cap ∧ (∀ i, i < zs.length → w.cell? (x.add i) = some (.int .u8 (zs.getD i 0))) ∧ ∀ n ∈ zs, (Lit.int .u8 n).wf = true) := by
    rcases open_ints Try.underlying31 Try.underlying5 (by kernel_rfl) h with ⟨hcs, _⟩ | ⟨x, l, c, zs, hcs, _, hl, hm, hz, _, hcell, hwz⟩
    · simp at hcs
      subst hcs
      exact ⟨none, 0, 0, [], rfl, .inl ⟨rfl, rfl, rfl, rfl⟩⟩
    · simp at hcs
      subst hcs
      exact ⟨some x, l, c, zs, rfl, .inr ⟨_, rfl, hl, hm, by simpa using hz, hcell, hwz⟩⟩
  obtain ⟨a, len, cap, zs, rfl, hk⟩ := key
  obtain ⟨l, rfl, hr, hm, hw, hc⟩ := ReadsInt.ofRowC hk
  exact ⟨a, cap, l, rfl, hc, Kd.C_of_reads (d := (0 : Int)) (h1 := fun _ => rfl) hr, hw⟩
theorem eight {cs : List Value} (h : cs.length = 8) : ∃ c0 c1 c2 c3 c4 c5 c6 c7, cs = [c0, c1, c2, c3, c4, c5, c6, c7] := by
  match cs, h with
  | [c0, c1, c2, c3, c4, c5, c6, c7], _ => exact ⟨c0, c1, c2, c3, c4, c5, c6, c7, rfl⟩
theorem item_open {fuel : Nat} {cs : List Value} {y : DataW H × List MemPlace} (h : DataW.trod enc Try.prog w base (fun _ => true) held fuel 38 cs = some y) :
    ∃ x : S38, k38.K w x cs ∧ ∀ z ∈ x.f2.f1, (Lit.int .u8 z).wf = true := by
  obtain ⟨xs, n, rfl, _, hcl, hxl, hf⟩ := DataW.trod_struct Try.underlying38 h
  obtain ⟨c0, c1, c2, c3, c4, c5, c6, c7, rfl⟩ := eight (hcl.trans (by kernel_rfl))
  have e9 : Try.prog.cellsOf 9 = 1 := by kernel_rfl
  have e4 : Try.prog.cellsOf 4 = 1 := by kernel_rfl
  have e36 : Try.prog.cellsOf 36 = 6 := by kernel_rfl
  have e34 : Try.prog.cellsOf 34 = 4 := by kernel_rfl
  have e31 : Try.prog.cellsOf 31 = 1 := by kernel_rfl
  have e3 : Try.prog.cellsOf 3 = 1 := by kernel_rfl
  have e32 : Try.prog.cellsOf 32 = 1 := by kernel_rfl
  match xs, hxl with
  | [y0, y1, y2], _ =>
    have f0 : DataW.trod enc Try.prog w base (fun _ => true) held n 9 (List.take (Try.prog.cellsOf 9) (List.drop 0 [c0, c1, c2, c3, c4, c5, c6, c7])) = some y0 := hf 0 _ rfl
    have f1 : DataW.trod enc Try.prog w base (fun _ => true) held n 4 (List.take (Try.prog.cellsOf 4) (List.drop 1 [c0, c1, c2, c3, c4, c5, c6, c7])) = some y1 := hf 1 _ rfl
    have f2 : DataW.trod enc Try.prog w base (fun _ => true) held n 36 (List.take (Try.prog.cellsOf 36) (List.drop 2 [c0, c1, c2, c3, c4, c5, c6, c7])) = some y2 := hf 2 _ rfl
    rw [e9] at f0
    rw [e4] at f1
    rw [e36] at f2
    obtain ⟨s0, hs0, _, _⟩ := DataW.trod_string Try.underlying9 (show DataW.trod enc Try.prog w base (fun _ => true) held n 9 [c0] = some y0 from f0)
    obtain ⟨b1, hb1, _⟩ := DataW.trod_bool Try.underlying4 (show DataW.trod enc Try.prog w base (fun _ => true) held n 4 [c1] = some y1 from f1)
    obtain ⟨xs2, n2, rfl, _, _, hxl2, hf2⟩ := DataW.trod_struct Try.underlying36 (show DataW.trod enc Try.prog w base (fun _ => true) held n 36 [c2, c3, c4, c5, c6, c7] = some y2 from f2)
    match xs2, hxl2 with
    | [z0, z1, z2], _ =>
      have g0 : DataW.trod enc Try.prog w base (fun _ => true) held n2 4 (List.take (Try.prog.cellsOf 4) (List.drop 0 [c2, c3, c4, c5, c6, c7])) = some z0 := hf2 0 _ rfl
      have g1 : DataW.trod enc Try.prog w base (fun _ => true) held n2 31 (List.take (Try.prog.cellsOf 31) (List.drop 1 [c2, c3, c4, c5, c6, c7])) = some z1 := hf2 1 _ rfl
      have g2 : DataW.trod enc Try.prog w base (fun _ => true) held n2 34 (List.take (Try.prog.cellsOf 34) (List.drop 2 [c2, c3, c4, c5, c6, c7])) = some z2 := hf2 2 _ rfl
      rw [e4] at g0
      rw [e31] at g1
      rw [e34] at g2
      obtain ⟨b2, hb2, _⟩ := DataW.trod_bool Try.underlying4 (show DataW.trod enc Try.prog w base (fun _ => true) held n2 4 [c2] = some z0 from g0)
      obtain ⟨A3, k3, l3, rfl, hl3, hC3, hw3⟩ := bytes_open (show DataW.trod enc Try.prog w base (fun _ => true) held n2 31 [c3] = some z1 from g1)
      obtain ⟨xs3, n3, rfl, _, _, hxl3, hf3⟩ := DataW.trod_struct Try.underlying34 (show DataW.trod enc Try.prog w base (fun _ => true) held n2 34 [c4, c5, c6, c7] = some z2 from g2)
      match xs3, hxl3 with
      | [u0, u1, u2, u3], _ =>
        have q0 : DataW.trod enc Try.prog w base (fun _ => true) held n3 3 (List.take (Try.prog.cellsOf 3) (List.drop 0 [c4, c5, c6, c7])) = some u0 := hf3 0 _ rfl
        have q1 : DataW.trod enc Try.prog w base (fun _ => true) held n3 3 (List.take (Try.prog.cellsOf 3) (List.drop 1 [c4, c5, c6, c7])) = some u1 := hf3 1 _ rfl
        have q2 : DataW.trod enc Try.prog w base (fun _ => true) held n3 3 (List.take (Try.prog.cellsOf 3) (List.drop 2 [c4, c5, c6, c7])) = some u2 := hf3 2 _ rfl
        have q3 : DataW.trod enc Try.prog w base (fun _ => true) held n3 32 (List.take (Try.prog.cellsOf 32) (List.drop 3 [c4, c5, c6, c7])) = some u3 := hf3 3 _ rfl
        rw [e3] at q0 q1 q2
        rw [e32] at q3
        obtain ⟨i4, h4, _, _⟩ := DataW.trod_int Try.underlying3 (show DataW.trod enc Try.prog w base (fun _ => true) held n3 3 [c4] = some u0 from q0)
        obtain ⟨i5, h5, _, _⟩ := DataW.trod_int Try.underlying3 (show DataW.trod enc Try.prog w base (fun _ => true) held n3 3 [c5] = some u1 from q1)
        obtain ⟨i6, h6, _, _⟩ := DataW.trod_int Try.underlying3 (show DataW.trod enc Try.prog w base (fun _ => true) held n3 3 [c6] = some u2 from q2)
        obtain ⟨i7, h7, _, _⟩ := DataW.trod_int Try.underlying32 (show DataW.trod enc Try.prog w base (fun _ => true) held n3 32 [c7] = some u3 from q3)
        simp only [List.cons.injEq, and_true] at hs0 hb1 hb2 h4 h5 h6 h7
        subst hs0 hb1 hb2 h4 h5 h6 h7
        exact ⟨⟨s0, b1, ⟨b2, l3, ⟨i4, i5, i6, i7⟩⟩⟩, k38_mk w ⟨s0, b1, ⟨b2, l3, ⟨i4, i5, i6, i7⟩⟩⟩ hl3 hC3, hw3⟩
theorem items_open {fuel : Nat} {v : Value} {y : DataW H × List MemPlace} (h : DataW.trod enc Try.prog w base (fun _ => true) held fuel 29 [v] = some y) :
    ∃ A c l, v = .slice A (List.length l) c ∧ l.length ≤ c ∧ c ≤ maxLen ∧ Kd.C k38 w A l.length l ∧ ∀ x ∈ l, ∀ z ∈ x.f2.f1, (Lit.int .u8 z).wf = true := by
  rcases open_slice Try.underlying29 h with ⟨hcs, _⟩ | ⟨a, len, cap, m, n, D, Pl, hcs, _, hl, hm, hmm, _, hi⟩
  · simp at hcs
    subst hcs
    exact ⟨none, 0, [], rfl, Nat.le_refl _, by decide, Kd.C_nil _ _, by simp⟩
  · simp at hcs
    subst hcs
    have hi' : ∀ i, i < len → ∃ x cs, w.cells? base (a.add (i * 8)) 8 = some cs ∧ k38.K w x cs ∧ ∀ z ∈ x.f2.f1, (Lit.int .u8 z).wf = true := fun i hil => by
      obtain ⟨cs, h1, h2⟩ := hi i (by rw [hmm]; simp; omega)
      obtain ⟨x, hx1, hx2⟩ := item_open h2
      rw [show Try.prog.cellsOf 38 = 8 by kernel_rfl] at h1
      exact ⟨x, cs, h1, hx1, hx2⟩
    have hall : ∀ k, k ≤ len → ∃ l : List S38, l.length = k ∧ ∀ i x, l[i]? = some x → (∃ cs, w.cells? base (a.add (i * 8)) 8 = some cs ∧ k38.K w x cs) ∧ ∀ z ∈ x.f2.f1, (Lit.int .u8 z).wf = true := by
      intro k
      induction k with
      | zero => exact fun _ => ⟨[], rfl, by simp⟩
      | succ k ih =>
        intro hk
        obtain ⟨l, h1, h2⟩ := ih (by omega)
        obtain ⟨x, cs, h3, h4, h5⟩ := hi' k (by omega)
        refine ⟨l ++ [x], by simp [h1], fun i z hz => ?_⟩
        by_cases hik : i < l.length
        · rw [List.getElem?_append_left hik] at hz
          exact h2 i z hz
        · rw [List.getElem?_append_right (by omega)] at hz
          have : i - l.length = 0 := by
            rcases hd : i - l.length with _ | j
            · rfl
            · rw [hd] at hz; simp at hz
          rw [this] at hz
          simp at hz
          subst hz
          have hik2 : i = k := by omega
          subst hik2
          exact ⟨⟨cs, h3, h4⟩, h5⟩
    obtain ⟨l, hlen, hel⟩ := hall len (Nat.le_refl _)
    subst hlen
    refine ⟨some a, cap, l, rfl, hl, hm, ⟨rfl, by unfold maxLen at hm; omega, fun _ => ⟨a, rfl, fun j p hp => ?_⟩⟩, fun x hx => ?_⟩
    · obtain ⟨⟨cs, h1, h2⟩, _⟩ := hel j p hp
      obtain ⟨_, hcl, hat⟩ := World.cells?_some h1
      refine ⟨cs, hcl, h2, fun i u hu => ?_⟩
      have hil : i < 8 := by
        have := (List.getElem?_eq_some_iff.1 hu).1
        omega
      have := hat i hil
      rw [hu, Go.Deep.add_add] at this
      exact this
    · obtain ⟨i, hil, rfl⟩ := List.getElem_of_mem hx
      exact (hel i _ (List.getElem?_eq_getElem hil)).2
end
end Go.Proofs.Ytgoidimipchejaa.Tr
