/- Layer 11: a key's bits, by the reference; no condition beyond the bounds that each lemma names. -/
import Derived.Test.YtnppeoophmihmaaSvC
namespace Go.Proofs.Ytnppeoophmihmaa.Sv
open Go.RowKit Go.Proofs.Ytnppeoophmihmaa.CrcP Go.Proofs.Ytnppeoophmihmaa.PCrc Go.Proofs.YtnppeoophmihmaaW.PrintWords Go.Proofs.YtnppeoophmihmaaW.PrintLast Go.Proofs.YtnppeoophmihmaaW.PrintMore
set_option linter.unusedVariables false

def refBits (n : Nat) (key : ByteArray) (k : Nat) : List Int := (List.range k).map fun i => (bitN n key i : Int)

theorem refBits_length (n : Nat) (key : ByteArray) (k : Nat) : (refBits n key k).length = k := by simp [refBits]
theorem refBits_succ (n : Nat) (key : ByteArray) (k : Nat) : refBits n key (k + 1) = refBits n key k ++ [(bitN n key k : Int)] := by
  unfold refBits
  rw [List.range_succ, List.map_append]
  rfl
theorem own_none_lit (W : World) (base : Nat) (e : TypeId) (k : IntKind) (hb : base ≤ W.heap.size) : (W.alloc (.cells #[] e)).ownsRow base e 1 (.slice (some ⟨W.heap.size, 0, none⟩) 0 0) 0 (nums k []) :=
  ⟨rfl, .inr ⟨_, 0, #[], rfl, hb, heap_alloc_new W _, Nat.le_refl _, by decide, rfl, rfl⟩⟩
theorem rot_int (h : Nat) : (h : Int) * 131072 % 4294967296 + (h : Int) / 32768 = (rot h : Int) := by unfold rot; omega
theorem bit64 (n : Nat) (hn : 1 ≤ n) (hn2 : n ≤ 1048576) (key : ByteArray) (k P : Nat) (hP : P = k * dd key) : ((hh key : Int) + (P : Int)) % 4294967296 % (8 * (n : Int)) = (bitN n key k : Int) := by
  unfold bitN hk
  rw [show (8 * (n : Int)) = ((8 * n : Nat) : Int) from by omega, hP]
  rfl
theorem wrap_mul (key : ByteArray) (k : Nat) (hk : k < 6) : ∃ P : Nat, P = k * dd key ∧ P ≤ 21474836480 ∧ IntKind.u64.wrap ((k : Int) * (dd key : Int)) = (P : Int) := by
  have h1 := dd_lt key
  have h2 : k * dd key ≤ 5 * 4294967296 := Nat.mul_le_mul (by omega) (by omega)
  refine ⟨k * dd key, rfl, by omega, ?_⟩
  have e : ((k : Int) * (dd key : Int)) = ((k * dd key : Nat) : Int) := by simp
  rw [e]
  generalize k * dd key = q at h2
  simp only [IntKind.wrap, IntKind.bits, IntKind.signed, Bool.false_and, Bool.false_eq_true, if_false]
  omega

set_option maxHeartbeats 4000000 in
set_option maxRecDepth 100000 in
theorem bits_calls (n : Nat) (hn : 1 ≤ n) (hn2 : n ≤ 1048576) (key : ByteArray) (hkey : key.size ≤ 140737488351232) (w : World) :
    Calls Try.prog 22 #[.int .i64 (n : Int), .string key] w fun e w' => ∃ v, e = .returned v ∧ w'.ownsRow w.heap.size 3 1 v (refBits n key 6).length (nums .i64 (refBits n key 6)) ∧ Below w.heap.size w w' := by
  have hconv : ∀ W : World, (convert 9 23 (.string key)).run Try.prog W = .ok (.slice (some ⟨W.heap.size, 0, none⟩) key.size (grownCap W key.size 0 5)) (Lib.bytesWorld W 5 key) := fun W => Lib.run_convert_string_bytes (u := .string) W _ _ _ key (by kernel_rfl) (by kernel_rfl) (by kernel_rfl)
  have HB0 := conv_below w 5 key
  have hl1 := hh_lt key
  have hl2 := dd_lt key
  have HRI := Lib.hid (rot_int (hh key))
  by_cases hp : rot (hh key) % 2 = 0
  · have hq : (((hh key : Int) * 131072 % 4294967296 + (hh key : Int) / 32768) % 2 == 0) = true := by
      rw [HRI.out]
      first
        | exact beq_iff_eq.2 (by omega)
        | exact beq_eq_false_iff_ne.2 (by omega)
    have hd : (hh key : Int) * 131072 % 4294967296 + (hh key : Int) / 32768 + 1 = (dd key : Int) := by
      rw [HRI.out]
      unfold dd odd
      first
        | rw [if_pos hp]; rfl
        | rw [if_neg hp]
    have HD := Lib.hid hd
    clear hd hp
    go_enter Try.func22, Try.ntmps22
    go_wp2_with fail
    refine (ref_conv w key hkey).mono ?_
    rintro e w' ⟨rfl, ⟨nd, rfl⟩⟩
    go_wp2
    rw [HD.out]
    go_loopw [7, 8] (fun v i wr => ∃ k : Nat, k ≤ 6 ∧ i = .int .i64 (k : Int) ∧ wr.ownsRow w.heap.size 3 1 v (refBits n key k).length (nums .i64 (refBits n key k)) ∧ Below w.heap.size w wr) (fun _ i _ => 6 - (intOf i).toNat)
    case atStart => exact ⟨0, by omega, rfl, own_none_lit _ _ _ _ (by rw [World.heap_drewN, Lib.bytesWorld_size]; omega), below_alloc (pw_below_drewN HB0 _) _⟩
    case round =>
      obtain ⟨k, hk6, rfl, hown, hbel⟩ := hrel
      by_cases h6 : k < 6
      · obtain ⟨P, hP, hP2, hPw⟩ := wrap_mul key k h6
        have HBI := Lib.hid (bit64 n hn hn2 key k P hP)
        clear hP
        have HBW := Lib.hid (wrap64_nat (bitN n key k) (by have := bitN_lt hn key k; omega))
        have HBS := Lib.hid (refBits_succ n key k)
        have HLN := Lib.hid (refBits_length n key k)
        go_wp2_with (first
          | (at_builtin; go_loud (rw [HBI.out, HBW.out]; refine print_append_num w.heap.size rfl (.tmp 29) (.tmp 42) 36 3 .i64 8 rfl (by kernel_rfl) (by kernel_rfl) (by decide) _ _ _ rfl rfl hown hbel hbel.size (by rw [HLN.out]; omega) ?_; intro v1 w1 ho1 hb1 _ _)))
        rw [← HBS.out] at ho1
        go_wp2
        go_roundw
        case rel => exact ⟨k + 1, by omega, by go_num, ho1, hb1⟩
        case measure => simp [intOf]; omega
      · obtain rfl : k = 6 := by omega
        go_wp2
        go_ret
        exact ⟨_, rfl, hown, hbel⟩
  · have hq : (((hh key : Int) * 131072 % 4294967296 + (hh key : Int) / 32768) % 2 == 0) = false := by
      rw [HRI.out]
      first
        | exact beq_iff_eq.2 (by omega)
        | exact beq_eq_false_iff_ne.2 (by omega)
    have hd : (hh key : Int) * 131072 % 4294967296 + (hh key : Int) / 32768 = (dd key : Int) := by
      rw [HRI.out]
      unfold dd odd
      first
        | rw [if_pos hp]; rfl
        | rw [if_neg hp]
    have HD := Lib.hid hd
    clear hd hp
    go_enter Try.func22, Try.ntmps22
    go_wp2_with fail
    refine (ref_conv w key hkey).mono ?_
    rintro e w' ⟨rfl, ⟨nd, rfl⟩⟩
    go_wp2
    rw [HD.out]
    go_loopw [7, 8] (fun v i wr => ∃ k : Nat, k ≤ 6 ∧ i = .int .i64 (k : Int) ∧ wr.ownsRow w.heap.size 3 1 v (refBits n key k).length (nums .i64 (refBits n key k)) ∧ Below w.heap.size w wr) (fun _ i _ => 6 - (intOf i).toNat)
    case atStart => exact ⟨0, by omega, rfl, own_none_lit _ _ _ _ (by rw [World.heap_drewN, Lib.bytesWorld_size]; omega), below_alloc (pw_below_drewN HB0 _) _⟩
    case round =>
      obtain ⟨k, hk6, rfl, hown, hbel⟩ := hrel
      by_cases h6 : k < 6
      · obtain ⟨P, hP, hP2, hPw⟩ := wrap_mul key k h6
        have HBI := Lib.hid (bit64 n hn hn2 key k P hP)
        clear hP
        have HBW := Lib.hid (wrap64_nat (bitN n key k) (by have := bitN_lt hn key k; omega))
        have HBS := Lib.hid (refBits_succ n key k)
        have HLN := Lib.hid (refBits_length n key k)
        go_wp2_with (first
          | (at_builtin; go_loud (rw [HBI.out, HBW.out]; refine print_append_num w.heap.size rfl (.tmp 29) (.tmp 42) 36 3 .i64 8 rfl (by kernel_rfl) (by kernel_rfl) (by decide) _ _ _ rfl rfl hown hbel hbel.size (by rw [HLN.out]; omega) ?_; intro v1 w1 ho1 hb1 _ _)))
        rw [← HBS.out] at ho1
        go_wp2
        go_roundw
        case rel => exact ⟨k + 1, by omega, by go_num, ho1, hb1⟩
        case measure => simp [intOf]; omega
      · obtain rfl : k = 6 := by omega
        go_wp2
        go_ret
        exact ⟨_, rfl, hown, hbel⟩
end Go.Proofs.Ytnppeoophmihmaa.Sv
