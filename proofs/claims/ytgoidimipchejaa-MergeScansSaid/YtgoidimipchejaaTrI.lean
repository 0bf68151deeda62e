/- An item at a place in memory; no condition beyond what each lemma names. -/
import Derived.Test.YtgoidimipchejaaTrA
import Derived.Lib.SmallJoins
namespace Go.Proofs.Ytgoidimipchejaa.Tr
open Go.RowKit Go.Proofs.Ytgoidimipchejaa.PT Go.Proofs.YtgoidimipchejaaW.PrintWords Go.Proofs.YtgoidimipchejaaW.PrintLast Go.Proofs.YtgoidimipchejaaW.PrintMore
set_option linter.unusedVariables false
set_option linter.unusedSimpArgs false

/-- An item lies at a place. -/
def ItemAt (W : World) (p : Addr) (x : S38) (A : Option Addr) (c : Nat) : Prop :=
  W.cell? p = some (.string x.f0) ∧ W.cell? ⟨p.block, p.off + 1, none⟩ = some (.bool x.f1) ∧ W.cell? ⟨p.block, p.off + 2, none⟩ = some (.bool x.f2.f0) ∧ W.cell? ⟨p.block, p.off + 3, none⟩ = some (.slice A x.f2.f1.length c) ∧ W.cell? ⟨p.block, p.off + 4, none⟩ = some (.int .i64 x.f2.f2.f0) ∧ W.cell? ⟨p.block, p.off + 5, none⟩ = some (.int .i64 x.f2.f2.f1) ∧ W.cell? ⟨p.block, p.off + 6, none⟩ = some (.int .i64 x.f2.f2.f2) ∧ W.cell? ⟨p.block, p.off + 7, none⟩ = some (.int .u32 x.f2.f2.f3)
theorem ItemAt.below {w W : World} {p : Addr} {x : S38} {A : Option Addr} {c : Nat} (h : ItemAt w p x A c) (hb : Below w.heap.size w W) : ItemAt W p x A c := by
  obtain ⟨h0, h1, h2, h3, h4, h5, h6, h7⟩ := h
  have hlt := World.block_lt_of_cell? w _ h0
  exact ⟨(hb.cell hlt).trans h0, (hb.cell (p := ⟨p.block, p.off + 1, none⟩) hlt).trans h1, (hb.cell (p := ⟨p.block, p.off + 2, none⟩) hlt).trans h2, (hb.cell (p := ⟨p.block, p.off + 3, none⟩) hlt).trans h3, (hb.cell (p := ⟨p.block, p.off + 4, none⟩) hlt).trans h4, (hb.cell (p := ⟨p.block, p.off + 5, none⟩) hlt).trans h5, (hb.cell (p := ⟨p.block, p.off + 6, none⟩) hlt).trans h6, (hb.cell (p := ⟨p.block, p.off + 7, none⟩) hlt).trans h7⟩
theorem ItemAt.alloc {w : World} {p : Addr} {x : S38} {A : Option Addr} {c : Nat} (h : ItemAt w p x A c) (o : Obj) : ItemAt (w.alloc o) p x A c := h.below (below_alloc (Below.refl _ _) o)
end Go.Proofs.Ytgoidimipchejaa.Tr
