/- Layer 10: small lemmas that the walks of the statements share; no condition beyond what each names. -/
import Derived.Test.YtgoidimipchejaaTrT
import Derived.Deep.RegionHeld3
import Derived.Lib.SmallJoins
namespace Go.Proofs.Ytgoidimipchejaa.Tr
open Go.RowKit Go.Proofs.Ytgoidimipchejaa.PT Go.Proofs.YtgoidimipchejaaW.PrintWords Go.Proofs.YtgoidimipchejaaW.PrintLast Go.Proofs.YtgoidimipchejaaW.PrintMore
set_option linter.unusedVariables false
set_option linter.unusedSimpArgs false
attribute [local go_sem ↓] Go.wp_at_zero Go.wp_at_succ

theorem V_all {W : World} {A : Option Addr} {c : Nat} {l : List S38} (h : Kd.C k38 W A l.length l) (hc : l.length ≤ c) (base : Nat) : Kd.V k38 38 W base (fun _ => True) (.slice A l.length c) l :=
  Kd.V_mk hc (fun W' hW => k38_heap.C (fun k hk => hW k trivial hk) h)
theorem cells3 {w : World} {b : Nat} {v0 v1 v2 : Value} {t : TypeId} {fr : Nat × Nat} (h : w.heap[b]? = some (.cells #[v0, v1, v2] t fr)) :
    w.cell? ⟨b, 0, none⟩ = some v0 ∧ w.cell? ⟨b, 1, none⟩ = some v1 ∧ w.cell? ⟨b, 2, none⟩ = some v2 := by
  simp [World.cell?, h]

theorem light_calls (k : Nat) (A0 : Option Addr) (c0 : Nat) (l : List S38) (r : Bool) (w : World) (hC : Kd.C k38 w A0 l.length l) (hc : l.length ≤ c0) (h : garnerlaw10_Light.f k l = some r) :
    Calls Try.prog 22 #[.slice A0 l.length c0] w fun e w' => e = .returned (.bool r) ∧ Below w.heap.size w w' :=
  (garnerlaw10_Light.calls k A0 c0 l r w hC hc h).mono fun e w' h => ⟨h.1, h.2.below⟩
end Go.Proofs.Ytgoidimipchejaa.Tr
