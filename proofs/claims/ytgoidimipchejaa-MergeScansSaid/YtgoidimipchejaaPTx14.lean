/- Of the laws that this set serves: the Go functions come to the printed Lean functions, and the law's row out of its plain statement; no condition beyond those that each theorem names. Written by a program of this session (a turned copy of the print). -/
import Derived.Test.YtgoidimipchejaaPTx0
import Derived.Test.YtgoidimipchejaaPTx3
import Derived.Test.YtgoidimipchejaaPTx8
namespace Go.Proofs.Ytgoidimipchejaa.PT
open Go.RowKit Go.Proofs.YtgoidimipchejaaW.PrintWords Go.Proofs.YtgoidimipchejaaW.PrintLast Go.Proofs.YtgoidimipchejaaW.PrintMore
attribute [local go_sem] max2_int min2_int max_two min_two max_three min_three max_four min_four   -- for this text's walks alone
set_option linter.unusedVariables false
set_option linter.unusedSimpArgs false

-- NOT PRINTED: function 61 (api_Item_61)

-- NOT PRINTED: function 43 (tree_Same)

-- NOT PRINTED: function 11 (garnerlaw10_TreeChecks)

/-! ### garnerlaw14_light: function 12 -/
mutual
def garnerlaw14_light.l0 : Nat → List (List (S38)) → Int → Option (Bool)
 | 0, _, _ => none
 | k + 1, x0, x3 => if x3 < (x0.length : Int) then (garnerlaw14_light.j1 k x0 x3 (decide (x3 ≤ 110))) else (garnerlaw14_light.j1 k x0 x3 false)
def garnerlaw14_light.j1 : Nat → List (List (S38)) → Int → Bool → Option (Bool)
 | 0, _, _, _ => none
 | k + 1, x0, x3, x11 => if x11 = true then (if 0 ≤ x3 then (if x3 < (x0.length : Int) then ((garnerlaw10_Light.f k (rd_L9 x0 x3)).bind fun t199 => (if t199 = true then (if ((rd_L9 x0 x3).length : Int) > 30 then (some false) else (garnerlaw14_light.l0 k x0 (wrap64 (x3 + 1)))) else (some false))) else (none)) else (none)) else (some (decide ((x0.length : Int) ≤ 110)))
end
def garnerlaw14_light.f (k : Nat) (l0 : List (List (S38))) : Option (Bool) := garnerlaw14_light.l0 k l0 0
theorem garnerlaw14_light.mono_l : ∀ k, (∀ y0 y1, LeO (garnerlaw14_light.l0 k y0 y1) (garnerlaw14_light.l0 (k + 1) y0 y1)) ∧ (∀ y0 y1 y2, LeO (garnerlaw14_light.j1 k y0 y1 y2) (garnerlaw14_light.j1 (k + 1) y0 y1 y2))
 | 0 => ⟨fun _ _ r h => by simp [garnerlaw14_light.l0] at h, fun _ _ _ r h => by simp [garnerlaw14_light.j1] at h⟩
 | k + 1 => by
  obtain ⟨ih0, ih1⟩ := garnerlaw14_light.mono_l k
  refine ⟨?_, ?_⟩
  ·intro y0 y1
   unfold garnerlaw14_light.l0
   repeat' first
   | (with_reducible exact ih0 _ _)
   | (with_reducible exact ih1 _ _ _)
   | (with_reducible exact garnerlaw10_Light.mono _ _)
   | (with_reducible exact LeO.refl _)
   | (with_reducible exact LeO.none _)
   | (with_reducible refine LeO.ite ?_ ?_)
   | (with_reducible refine LeO.bind ?_ (fun _ => ?_))
   | exact ih0 _ _
   | exact ih1 _ _ _
   | exact garnerlaw10_Light.mono _ _
   | exact LeO.none _
   | refine LeO.ite ?_ ?_
   | refine LeO.bind ?_ (fun _ => ?_)
  ·intro y0 y1 y2
   unfold garnerlaw14_light.j1
   repeat' first
   | (with_reducible exact ih0 _ _)
   | (with_reducible exact ih1 _ _ _)
   | (with_reducible exact garnerlaw10_Light.mono _ _)
   | (with_reducible exact LeO.refl _)
   | (with_reducible exact LeO.none _)
   | (with_reducible refine LeO.ite ?_ ?_)
   | (with_reducible refine LeO.bind ?_ (fun _ => ?_))
   | exact ih0 _ _
   | exact ih1 _ _ _
   | exact garnerlaw10_Light.mono _ _
   | exact LeO.none _
   | refine LeO.ite ?_ ?_
   | refine LeO.bind ?_ (fun _ => ?_)
theorem garnerlaw14_light.mono : ∀ a0 k, LeO (garnerlaw14_light.f k a0) (garnerlaw14_light.f (k + 1) a0) := by
 intro a0 k
 obtain ⟨ih0, ih1⟩ := garnerlaw14_light.mono_l k
 unfold garnerlaw14_light.f
 repeat' first
   | (with_reducible exact ih0 _ _)
   | (with_reducible exact ih1 _ _ _)
   | (with_reducible exact garnerlaw10_Light.mono _ _)
   | (with_reducible exact LeO.refl _)
   | (with_reducible exact LeO.none _)
   | (with_reducible refine LeO.ite ?_ ?_)
   | (with_reducible refine LeO.bind ?_ (fun _ => ?_))
   | exact ih0 _ _
   | exact ih1 _ _ _
   | exact garnerlaw10_Light.mono _ _
   | exact LeO.none _
   | refine LeO.ite ?_ ?_
   | refine LeO.bind ?_ (fun _ => ?_)
set_option maxHeartbeats 8000000 in
set_option maxRecDepth 100000 in
theorem garnerlaw14_light.calls (k : Nat) (A0 : Option Addr) (c0 : Nat) (l0 : List (List (S38))) (r : Bool) (w : World) (hr0 : Kd.C (Kd.slice 38 k38) w A0 l0.length l0) (hc0 : l0.length ≤ c0) (h : garnerlaw14_light.f k l0 = some r) :
  Calls Try.prog 12 #[.slice A0 l0.length c0] w fun e w' => e = .returned (.bool r) ∧ Drawn0 w w' := by
 have HR0 := Aside0.mk hr0
 have HC0 := Aside0.mk hc0
 clear hr0 hc0
 have H : (garnerlaw14_light.l0 k l0 0) = some r := h
 clear h
 have H' := Aside0.mk H
 clear H
 go_enter Try.func12, Try.ntmps12
 go_wp2
 go_loopg [3] k (fun kq v3 w' => ∃ (x3_1 : Int), v3 = .int .i64 x3_1 ∧ Aside0 (garnerlaw14_light.l0 kq l0 x3_1 = some r) ∧ Aside0 (kq ≤ k) ∧ Drawn0 w w')
 case atStart => exact ⟨(0), (by first | rfl | (simp; done) | (simp [*]; done)), H', ⟨Nat.le_refl _⟩, by repeat (exact Drawn0.refl _)⟩
 case round =>
  clear H'
  try clear c1
  obtain ⟨x3_1, rfl, HA, HK1, ⟨m1, rfl⟩⟩ := hrel
  cases gk with
  | zero => exact absurd HA.out (by simp [garnerlaw14_light.l0])
  | succ k1 =>
   have H := HA.out
   clear HA
   simp only [garnerlaw14_light.l0] at H
   have HC2 := Aside0.mk H
   clear H
   go_upto_region 2 with (fail)
   go_cut [11] (fun v11 wc => ∃ (kq : Nat) (x11_1 : Bool), v11 = .bool x11_1 ∧ Aside0 (garnerlaw14_light.j1 kq l0 x3_1 x11_1 = some r) ∧ Aside0 (kq ≤ k1) ∧ Drawn0 w wc)
   case first =>
    have H := HC2.out
    clear HC2
    by_cases c3 : x3_1 < (l0.length : Int)
    ·rw [if_pos c3] at H
     have c3b0 : decide (x3_1 < (l0.length : Int)) = true := decide_eq_true c3
     clear c3
     (skip)
     have H' := Aside0.mk H
     clear H
     go_wp2
     go_meet
     case rel => exact ⟨_, (decide (x3_1 ≤ 110)), (by first | rfl | (simp; done) | (simp [*]; done)), H', ⟨by have := HK1.out; first | omega | exact Nat.le_refl _⟩, by repeat (first | exact Drawn0.refl _ | apply Drawn0.step)⟩
    ·rw [if_neg c3] at H
     have c3b0 : decide (x3_1 < (l0.length : Int)) = false := decide_eq_false c3
     clear c3
     (skip)
     have H' := Aside0.mk H
     clear H
     go_wp2
     go_meet
     case rel => exact ⟨_, (false), (by first | rfl | (simp; done) | (simp [*]; done)), H', ⟨by have := HK1.out; first | omega | exact Nat.le_refl _⟩, by repeat (first | exact Drawn0.refl _ | apply Drawn0.step)⟩
   case rest =>
    clear HC2
    try clear c1
    try clear p2
    try clear c3
    try clear c3b0
    obtain ⟨kq, x11_1, rfl, HA, HJ1, ⟨mc1, rfl⟩⟩ := hcut
    cases kq with
    | zero => exact absurd HA.out (by simp [garnerlaw14_light.j1])
    | succ kj1 =>
     have H := HA.out
     clear HA
     simp only [garnerlaw14_light.j1] at H
     by_cases c4 : x11_1 = true
     ·subst c4
      have H1 : (if 0 ≤ x3_1 then (if x3_1 < (l0.length : Int) then ((garnerlaw10_Light.f kj1 (rd_L9 l0 x3_1)).bind fun t199 => (if t199 = true then (if ((rd_L9 l0 x3_1).length : Int) > 30 then (some false) else (garnerlaw14_light.l0 kj1 l0 (wrap64 (x3_1 + 1)))) else (some false))) else (none)) else (none)) = some r := by rw [if_pos rfl] at H; exact H
      clear H
      have H := H1
      clear H1
      by_cases c5 : 0 ≤ x3_1
      ·rw [if_pos c5] at H
       have c5b0 : decide (0 ≤ x3_1) = true := decide_eq_true c5
       clear c5
       by_cases c6 : x3_1 < (l0.length : Int)
       ·rw [if_pos c6] at H
        have c6b0 : decide (x3_1 < (l0.length : Int)) = true := decide_eq_true c6
        clear c6
        replace H := Option.bind_eq_some_iff.mp H
        obtain ⟨t199, A70, H⟩ := H
        replace H : (if t199 = true then (if ((rd_L9 l0 x3_1).length : Int) > 30 then (some false) else (garnerlaw14_light.l0 kj1 l0 (wrap64 (x3_1 + 1)))) else (some false)) = some r := H
        have A7 := Aside0.mk A70
        clear A70
        by_cases c8 : t199 = true
        ·subst c8
         have H1 : (if ((rd_L9 l0 x3_1).length : Int) > 30 then (some false) else (garnerlaw14_light.l0 kj1 l0 (wrap64 (x3_1 + 1)))) = some r := by rw [if_pos rfl] at H; exact H
         clear H
         have H := H1
         clear H1
         by_cases c9 : ((rd_L9 l0 x3_1).length : Int) > 30
         ·rw [if_pos c9] at H
          have c9b0 : decide (30 < ((rd_L9 l0 x3_1).length : Int)) = true := decide_eq_true c9
          have c9b1 : decide (30 < (rd_L9 l0 x3_1).length) = true := decide_eq_true (by omega)
          clear c9
          obtain rfl := Option.some.inj H
          have p198 : 0 ≤ (x3_1 : Int) := of_decide_eq_true (by first | (with_reducible assumption) | assumption)
          have q198 : x3_1 < (l0.length : Int) := of_decide_eq_true (by first | (with_reducible assumption) | assumption)
          obtain ⟨ad198, A198_0, c198_0, e198, hx198_0, hl198_0, hi198_0⟩ := at_L9 HR0.out x3_1 p198 q198
          cases e198
          have HR198_0 := Aside0.mk hi198_0
          have HC198_0 := Aside0.mk hl198_0
          clear hi198_0 hl198_0
          replace p198 := eq_true p198
          replace q198 := eq_true q198
          go_wp2_with (((with_reducible refine gate_callee (f := 22) rfl ?_); refine goesL_ (some 18) rfl rfl Try.func22 (by kernel_rfl) rfl #[.slice A198_0 (rd_L9 l0 x3_1).length c198_0] rfl (by (try simp only [List.map_toArray, List.map_cons, List.map_nil]); first | done | rfl | (simp only [List.length_drop, List.length_take]; rfl)) ?_; (with_reducible refine (garnerlaw10_Light.calls kj1 _ _ (rd_L9 l0 x3_1) true _ ?side1 ?side2 A7.out).mono ?_); (case side1 => repeat (exact HR198_0.out)); (case side2 => exact HC198_0.out); rintro e w' ⟨rfl, ⟨nd, rfl⟩⟩; refine ⟨_, rfl, ?_⟩; have p200 : 0 ≤ (x3_1 : Int) := of_decide_eq_true (by first | (with_reducible assumption) | assumption); have q200 : x3_1 < (l0.length : Int) := of_decide_eq_true (by first | (with_reducible assumption) | assumption); obtain ⟨ad200, A200_0, c200_0, e200, hx200_0, hl200_0, hi200_0⟩ := at_L9 HR0.out x3_1 p200 q200; obtain rfl : ad198 = ad200 := (by injection e200); have HR200_0 := Aside0.mk hi200_0; have HC200_0 := Aside0.mk hl200_0; clear hi200_0 hl200_0; replace p200 := eq_true p200; replace q200 := eq_true q200; have ea_ := Option.some.inj (hx198_0.symm.trans hx200_0); injection ea_ with ea_ en_ ec_; subst ea_; subst ec_; clear en_))
          go_ret
          exact ⟨by first | rfl | (simp; done) | (simp [*]; done), by repeat (first | exact Drawn0.refl _ | apply Drawn0.step)⟩
         ·rw [if_neg c9] at H
          have c9b0 : decide (30 < ((rd_L9 l0 x3_1).length : Int)) = false := decide_eq_false c9
          have c9b1 : decide (30 < (rd_L9 l0 x3_1).length) = false := decide_eq_false (by omega)
          clear c9
          have H' := Aside0.mk H
          clear H
          have p198 : 0 ≤ (x3_1 : Int) := of_decide_eq_true (by first | (with_reducible assumption) | assumption)
          have q198 : x3_1 < (l0.length : Int) := of_decide_eq_true (by first | (with_reducible assumption) | assumption)
          obtain ⟨ad198, A198_0, c198_0, e198, hx198_0, hl198_0, hi198_0⟩ := at_L9 HR0.out x3_1 p198 q198
          cases e198
          have HR198_0 := Aside0.mk hi198_0
          have HC198_0 := Aside0.mk hl198_0
          clear hi198_0 hl198_0
          replace p198 := eq_true p198
          replace q198 := eq_true q198
          go_wp2_with (((with_reducible refine gate_callee (f := 22) rfl ?_); refine goesL_ (some 18) rfl rfl Try.func22 (by kernel_rfl) rfl #[.slice A198_0 (rd_L9 l0 x3_1).length c198_0] rfl (by (try simp only [List.map_toArray, List.map_cons, List.map_nil]); first | done | rfl | (simp only [List.length_drop, List.length_take]; rfl)) ?_; (with_reducible refine (garnerlaw10_Light.calls kj1 _ _ (rd_L9 l0 x3_1) true _ ?side1 ?side2 A7.out).mono ?_); (case side1 => repeat (exact HR198_0.out)); (case side2 => exact HC198_0.out); rintro e w' ⟨rfl, ⟨nd, rfl⟩⟩; refine ⟨_, rfl, ?_⟩; have p200 : 0 ≤ (x3_1 : Int) := of_decide_eq_true (by first | (with_reducible assumption) | assumption); have q200 : x3_1 < (l0.length : Int) := of_decide_eq_true (by first | (with_reducible assumption) | assumption); obtain ⟨ad200, A200_0, c200_0, e200, hx200_0, hl200_0, hi200_0⟩ := at_L9 HR0.out x3_1 p200 q200; obtain rfl : ad198 = ad200 := (by injection e200); have HR200_0 := Aside0.mk hi200_0; have HC200_0 := Aside0.mk hl200_0; clear hi200_0 hl200_0; replace p200 := eq_true p200; replace q200 := eq_true q200; have ea_ := Option.some.inj (hx198_0.symm.trans hx200_0); injection ea_ with ea_ en_ ec_; subst ea_; subst ec_; clear en_))
          go_roundg kj1
          case measure => have := HK1.out; have := HJ1.out; omega
          case rel => exact ⟨(wrap64 (x3_1 + 1)), (by first | rfl | (simp; done) | (simp [*]; done)), H', ⟨by have := HK1.out; have := HJ1.out; omega⟩, by repeat (first | exact Drawn0.refl _ | apply Drawn0.step)⟩
        ·replace c8 := Bool.eq_false_iff.mpr c8
         subst c8
         have H1 : (some false) = some r := by rw [if_neg (show ¬ (false = true) by decide)] at H; exact H
         clear H
         have H := H1
         clear H1
         obtain rfl := Option.some.inj H
         have p198 : 0 ≤ (x3_1 : Int) := of_decide_eq_true (by first | (with_reducible assumption) | assumption)
         have q198 : x3_1 < (l0.length : Int) := of_decide_eq_true (by first | (with_reducible assumption) | assumption)
         obtain ⟨ad198, A198_0, c198_0, e198, hx198_0, hl198_0, hi198_0⟩ := at_L9 HR0.out x3_1 p198 q198
         cases e198
         have HR198_0 := Aside0.mk hi198_0
         have HC198_0 := Aside0.mk hl198_0
         clear hi198_0 hl198_0
         replace p198 := eq_true p198
         replace q198 := eq_true q198
         go_wp2_with (((with_reducible refine gate_callee (f := 22) rfl ?_); refine goesL_ (some 18) rfl rfl Try.func22 (by kernel_rfl) rfl #[.slice A198_0 (rd_L9 l0 x3_1).length c198_0] rfl (by (try simp only [List.map_toArray, List.map_cons, List.map_nil]); first | done | rfl | (simp only [List.length_drop, List.length_take]; rfl)) ?_; (with_reducible refine (garnerlaw10_Light.calls kj1 _ _ (rd_L9 l0 x3_1) false _ ?side1 ?side2 A7.out).mono ?_); (case side1 => repeat (exact HR198_0.out)); (case side2 => exact HC198_0.out); rintro e w' ⟨rfl, ⟨nd, rfl⟩⟩; refine ⟨_, rfl, ?_⟩))
         go_ret
         exact ⟨by first | rfl | (simp; done) | (simp [*]; done), by repeat (first | exact Drawn0.refl _ | apply Drawn0.step)⟩
       ·rw [if_neg c6] at H
        exact absurd H (by simp)
      ·rw [if_neg c5] at H
       exact absurd H (by simp)
     ·replace c4 := Bool.eq_false_iff.mpr c4
      subst c4
      have H1 : (some (decide ((l0.length : Int) ≤ 110))) = some r := by rw [if_neg (show ¬ (false = true) by decide)] at H; exact H
      clear H
      have H := H1
      clear H1
      obtain rfl := Option.some.inj H
      go_wp2
      go_ret
      exact ⟨by first | rfl | (simp; done) | (simp [*]; done), by repeat (first | exact Drawn0.refl _ | apply Drawn0.step)⟩

/-! ### garnerref14_May: function 13 -/
def garnerref14_May.l0 : Nat → List (List (S38)) → Int → Option (Bool)
 | 0, _, _ => none
 | k + 1, x0, x3 => if x3 < (x0.length : Int) then (if 0 ≤ x3 then ((garnerref10_Sorted.f k (rd_L9 x0 x3)).bind fun t202 => (if t202 = true then (garnerref14_May.l0 k x0 (wrap64 (x3 + 1))) else (some false))) else (none)) else (some (decide ((x0.length : Int) ≤ 100)))
def garnerref14_May.f (k : Nat) (l0 : List (List (S38))) : Option (Bool) := garnerref14_May.l0 k l0 0
theorem garnerref14_May.mono_l : ∀ k, (∀ y0 y1, LeO (garnerref14_May.l0 k y0 y1) (garnerref14_May.l0 (k + 1) y0 y1))
 | 0 => fun _ _ r h => by simp [garnerref14_May.l0] at h
 | k + 1 => by
  have ih0 := garnerref14_May.mono_l k
  ·intro y0 y1
   unfold garnerref14_May.l0
   repeat' first
   | (with_reducible exact ih0 _ _)
   | (with_reducible exact garnerref10_Sorted.mono _ _)
   | (with_reducible exact LeO.refl _)
   | (with_reducible exact LeO.none _)
   | (with_reducible refine LeO.ite ?_ ?_)
   | (with_reducible refine LeO.bind ?_ (fun _ => ?_))
   | exact ih0 _ _
   | exact garnerref10_Sorted.mono _ _
   | exact LeO.none _
   | refine LeO.ite ?_ ?_
   | refine LeO.bind ?_ (fun _ => ?_)
theorem garnerref14_May.mono : ∀ a0 k, LeO (garnerref14_May.f k a0) (garnerref14_May.f (k + 1) a0) := by
 intro a0 k
 have ih0 := garnerref14_May.mono_l k
 unfold garnerref14_May.f
 repeat' first
   | (with_reducible exact ih0 _ _)
   | (with_reducible exact garnerref10_Sorted.mono _ _)
   | (with_reducible exact LeO.refl _)
   | (with_reducible exact LeO.none _)
   | (with_reducible refine LeO.ite ?_ ?_)
   | (with_reducible refine LeO.bind ?_ (fun _ => ?_))
   | exact ih0 _ _
   | exact garnerref10_Sorted.mono _ _
   | exact LeO.none _
   | refine LeO.ite ?_ ?_
   | refine LeO.bind ?_ (fun _ => ?_)
set_option maxHeartbeats 8000000 in
set_option maxRecDepth 100000 in
theorem garnerref14_May.calls (k : Nat) (A0 : Option Addr) (c0 : Nat) (l0 : List (List (S38))) (r : Bool) (w : World) (hr0 : Kd.C (Kd.slice 38 k38) w A0 l0.length l0) (hc0 : l0.length ≤ c0) (h : garnerref14_May.f k l0 = some r) :
  Calls Try.prog 13 #[.slice A0 l0.length c0] w fun e w' => e = .returned (.bool r) ∧ Below w.heap.size w w' := by
 have HR0 := Aside0.mk hr0
 have HC0 := Aside0.mk hc0
 clear hr0 hc0
 have HB := Aside0.mk (Below.refl w.heap.size w)
 have H : (garnerref14_May.l0 k l0 0) = some r := h
 clear h
 have H' := Aside0.mk H
 clear H
 go_enter Try.func13, Try.ntmps13
 go_wp2
 go_loopg [3] k (fun kq v3 w' => ∃ (x3_1 : Int), v3 = .int .i64 x3_1 ∧ Aside0 (garnerref14_May.l0 kq l0 x3_1 = some r) ∧ Aside0 (kq ≤ k) ∧ Aside0 (Below w.heap.size w w'))
 case atStart => exact ⟨(0), (by first | rfl | (simp; done) | (simp [*]; done)), H', ⟨Nat.le_refl _⟩, ⟨by repeat ((with_reducible first | exact HB.out | apply below_alloc | apply pw_below_drewN | apply below_drew1))⟩⟩
 case round =>
  clear H'
  try clear c1
  obtain ⟨x3_1, rfl, HA, HK1, HB⟩ := hrel
  cases gk with
  | zero => exact absurd HA.out (by simp [garnerref14_May.l0])
  | succ k1 =>
   have H := HA.out
   clear HA
   simp only [garnerref14_May.l0] at H
   by_cases c2 : x3_1 < (l0.length : Int)
   ·rw [if_pos c2] at H
    have c2b0 : decide (x3_1 < (l0.length : Int)) = true := decide_eq_true c2
    clear c2
    by_cases c3 : 0 ≤ x3_1
    ·rw [if_pos c3] at H
     have c3b0 : decide (0 ≤ x3_1) = true := decide_eq_true c3
     clear c3
     replace H := Option.bind_eq_some_iff.mp H
     obtain ⟨t202, A40, H⟩ := H
     replace H : (if t202 = true then (garnerref14_May.l0 k1 l0 (wrap64 (x3_1 + 1))) else (some false)) = some r := H
     have A4 := Aside0.mk A40
     clear A40
     by_cases c5 : t202 = true
     ·subst c5
      have H1 : (garnerref14_May.l0 k1 l0 (wrap64 (x3_1 + 1))) = some r := by rw [if_pos rfl] at H; exact H
      clear H
      have H := H1
      clear H1
      have H' := Aside0.mk H
      clear H
      have p201 : 0 ≤ (x3_1 : Int) := of_decide_eq_true (by first | (with_reducible assumption) | assumption)
      have q201 : x3_1 < (l0.length : Int) := of_decide_eq_true (by first | (with_reducible assumption) | assumption)
      obtain ⟨ad201, A201_0, c201_0, e201, hx201_0, hl201_0, hi201_0⟩ := at_L9 HR0.out x3_1 p201 q201
      cases e201
      replace hx201_0 := pw_cell_below HB.out hx201_0
      have HR201_0 := Aside0.mk hi201_0
      have HC201_0 := Aside0.mk hl201_0
      clear hi201_0 hl201_0
      replace p201 := eq_true p201
      replace q201 := eq_true q201
      go_wp2_with (((with_reducible refine gate_callee (f := 42) rfl ?_); refine goesL_ (some 14) rfl rfl Try.func42 (by kernel_rfl) rfl #[.slice A201_0 (rd_L9 l0 x3_1).length c201_0] rfl (by (try simp only [List.map_toArray, List.map_cons, List.map_nil]); first | done | rfl | (simp only [List.length_drop, List.length_take]; rfl)) ?_; (with_reducible refine (garnerref10_Sorted.calls k1 _ _ (rd_L9 l0 x3_1) true _ ?side1 ?side2 A4.out).mono ?_); (case side1 => repeat (exact (Kd.C_below HR201_0.out HB.out))); (case side2 => exact HC201_0.out); rintro e w6 ⟨rfl, hb⟩; refine ⟨_, rfl, ?_⟩; have n0_ := Aside0.mk (below_step (by repeat ((with_reducible first | exact HB.out | apply below_alloc | apply pw_below_drewN | apply below_drew1))) hb); clear HB; have HB := n0_; clear n0_; (try clear hb); (try clear hb2); (try clear hk); (try clear hi)))
      go_roundg k1
      case measure => have := HK1.out; omega
      case rel => exact ⟨(wrap64 (x3_1 + 1)), (by first | rfl | (simp; done) | (simp [*]; done)), H', ⟨by have := HK1.out; omega⟩, ⟨by repeat ((with_reducible first | exact HB.out | apply below_alloc | apply pw_below_drewN | apply below_drew1))⟩⟩
     ·replace c5 := Bool.eq_false_iff.mpr c5
      subst c5
      have H1 : (some false) = some r := by rw [if_neg (show ¬ (false = true) by decide)] at H; exact H
      clear H
      have H := H1
      clear H1
      obtain rfl := Option.some.inj H
      have p201 : 0 ≤ (x3_1 : Int) := of_decide_eq_true (by first | (with_reducible assumption) | assumption)
      have q201 : x3_1 < (l0.length : Int) := of_decide_eq_true (by first | (with_reducible assumption) | assumption)
      obtain ⟨ad201, A201_0, c201_0, e201, hx201_0, hl201_0, hi201_0⟩ := at_L9 HR0.out x3_1 p201 q201
      cases e201
      replace hx201_0 := pw_cell_below HB.out hx201_0
      have HR201_0 := Aside0.mk hi201_0
      have HC201_0 := Aside0.mk hl201_0
      clear hi201_0 hl201_0
      replace p201 := eq_true p201
      replace q201 := eq_true q201
      go_wp2_with (((with_reducible refine gate_callee (f := 42) rfl ?_); refine goesL_ (some 14) rfl rfl Try.func42 (by kernel_rfl) rfl #[.slice A201_0 (rd_L9 l0 x3_1).length c201_0] rfl (by (try simp only [List.map_toArray, List.map_cons, List.map_nil]); first | done | rfl | (simp only [List.length_drop, List.length_take]; rfl)) ?_; (with_reducible refine (garnerref10_Sorted.calls k1 _ _ (rd_L9 l0 x3_1) false _ ?side1 ?side2 A4.out).mono ?_); (case side1 => repeat (exact (Kd.C_below HR201_0.out HB.out))); (case side2 => exact HC201_0.out); rintro e w7 ⟨rfl, hb⟩; refine ⟨_, rfl, ?_⟩; have n0_ := Aside0.mk (below_step (by repeat ((with_reducible first | exact HB.out | apply below_alloc | apply pw_below_drewN | apply below_drew1))) hb); clear HB; have HB := n0_; clear n0_; (try clear hb); (try clear hb2); (try clear hk); (try clear hi)))
      go_ret
      exact ⟨by first | rfl | (simp [errW_none, errW_some] <;> rfl) | (simp [*, errW_none, errW_some] <;> rfl), by repeat ((with_reducible first | exact HB.out | apply below_alloc | apply pw_below_drewN | apply below_drew1))⟩
    ·rw [if_neg c3] at H
     exact absurd H (by simp)
   ·rw [if_neg c2] at H
    have c2b0 : decide (x3_1 < (l0.length : Int)) = false := decide_eq_false c2
    clear c2
    obtain rfl := Option.some.inj H
    go_wp2
    go_ret
    exact ⟨by first | rfl | (simp [errW_none, errW_some] <;> rfl) | (simp [*, errW_none, errW_some] <;> rfl), by repeat ((with_reducible first | exact HB.out | apply below_alloc | apply pw_below_drewN | apply below_drew1))⟩

-- NOT PRINTED: function 63 (api_Item_63)

-- NOT PRINTED: function 44 (api_Item_44)

-- NOT PRINTED: function 46 (api_Item_46)

-- NOT PRINTED: function 64 (merge_Walk_less)

-- NOT PRINTED: function 47 (merge_Walk_down)

-- NOT PRINTED: function 15 (merge_Begin)

-- NOT PRINTED: function 49 (merge_Walk_pop)

-- NOT PRINTED: function 17 (merge_Walk_Next)

-- NOT PRINTED: function 20 (merge_All)

-- NOT PRINTED: function 14 (garnerlaw14_awake)

end Go.Proofs.Ytgoidimipchejaa.PT
-- REPACKED
