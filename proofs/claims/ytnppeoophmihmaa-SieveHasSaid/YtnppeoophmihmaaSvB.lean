/- Layer 11: going through a key's bits, whatever is done with them, as long as it is told to; no condition beyond the bounds that each lemma names. -/
import Derived.Test.YtnppeoophmihmaaSvA
namespace Go.Proofs.Ytnppeoophmihmaa.Sv
open Go.RowKit Go.Proofs.Ytnppeoophmihmaa.CrcP Go.Proofs.Ytnppeoophmihmaa.PCrc Go.Proofs.YtnppeoophmihmaaW.PrintWords Go.Proofs.YtnppeoophmihmaaW.PrintLast Go.Proofs.YtnppeoophmihmaaW.PrintMore
set_option linter.unusedVariables false

theorem of_conv (w : World) (key : ByteArray) (hkey : key.size ≤ 140737488351232) :
    Calls Try.prog 9 #[.slice (some ⟨w.heap.size, 0, none⟩) key.size (grownCap w key.size 0 5)] (Lib.bytesWorld w 5 key) fun e w' => e = .returned (.int .u32 (hh key : Int)) ∧ Drawn0 (Lib.bytesWorld w 5 key) w' := by
  have hl : (B (keyBytes key)).length = key.size := by rw [B_length, keyBytes_length]
  have h := crc_Of.calls (10 * key.size + 10) (some ⟨w.heap.size, 0, none⟩) (grownCap w key.size 0 5) (B (keyBytes key)) _ (Lib.bytesWorld w 5 key) (conv_reads w 5 key (by omega))
    (by rw [hl]; exact grownCap_ge _ _ _ _) (of_f (10 * key.size + 10) (keyBytes key) (keyBytes_lt key) (by rw [keyBytes_length]; omega) (by rw [keyBytes_length]; omega))
  rw [hl] at h
  exact h
theorem ref_conv (w : World) (key : ByteArray) (hkey : key.size ≤ 140737488351232) :
    Calls Try.prog 10 #[.slice (some ⟨w.heap.size, 0, none⟩) key.size (grownCap w key.size 0 5)] (Lib.bytesWorld w 5 key) fun e w' => e = .returned (.int .u32 (hh key : Int)) ∧ Drawn0 (Lib.bytesWorld w 5 key) w' := by
  have hl : (B (keyBytes key)).length = key.size := by rw [B_length, keyBytes_length]
  have h := garnerref01_Of.calls (10 * key.size + 10) (some ⟨w.heap.size, 0, none⟩) (grownCap w key.size 0 5) (B (keyBytes key)) _ (Lib.bytesWorld w 5 key) (conv_reads w 5 key (by omega))
    (by rw [hl]; exact grownCap_ge _ _ _ _) (ref_of (10 * key.size + 10) (keyBytes key) (keyBytes_lt key) (by rw [keyBytes_length]; omega) (by rw [keyBytes_length]; omega))
  rw [hl] at h
  exact h
theorem rot_calls (h : Nat) (hb : h < 4294967296) (w : World) : Calls Try.prog 27 #[.int .u32 (h : Int), .int .i64 17] w fun e w' => e = .returned (.int .u32 (rot h : Int)) ∧ Drawn0 w w' :=
  PSieveHas.bits_RotateLeft32.calls (h : Int) 17 (rot h : Int) w (rotate h hb)
theorem or_odd (h : Nat) (hb : h < 4294967296) : Go.bits .or .u32 (rot h : Int) 1 = (odd (rot h) : Int) := by
  have e := or32 (rot h) 1 (rot_lt h hb) (by decide)
  rw [show ((1 : Nat) : Int) = 1 from rfl, or_one] at e
  exact e

theorem bit_wrap (n : Nat) (hn : 1 ≤ n) (hn2 : n ≤ 1048576) (key : ByteArray) (k : Nat) : wrap64 ((hk key k : Int) % (8 * (n : Int))) = (bitN n key k : Int) := by
  have e : (hk key k : Int) % (8 * (n : Int)) = (bitN n key k : Int) := by
    unfold bitN
    rw [show (8 * (n : Int)) = ((8 * n : Nat) : Int) from by omega]
    rfl
  have h := bitN_lt hn key k
  rw [e, wrap64_nat _ (by omega)]
theorem add_told (key : ByteArray) (k : Nat) : ((hk key k : Int) + (odd (rot (hh key)) : Int)) % 4294967296 = (hk key (k + 1) : Int) := by
  rw [← hk_succ]
  unfold dd
  omega
theorem hk_zero (key : ByteArray) : hk key 0 = hh key := by
  unfold hk
  have := hh_lt key
  omega

set_option maxHeartbeats 4000000 in
set_option maxRecDepth 100000 in
theorem each_has (n : Nat) (hn : 1 ≤ n) (hn2 : n ≤ 1048576) (key : ByteArray) (hkey : key.size ≤ 140737488351232) (p : Value) (q : Value) (w : World) (I : Nat → World → Prop) (Fi : World → Prop)
    (h0 : ∀ w', Below w.heap.size w w' → I 0 w')
    (hstep : ∀ i w', i < 6 → I i w' → Calls Try.prog 21 #[.int .i64 (bitN n key i : Int), p, q] w' fun e w'' => ∃ go, e = .returned (.bool go) ∧ (go = true → I (i + 1) w'') ∧ (go = false → Fi w'')) :
    Calls Try.prog 20 #[.int .i64 (n : Int), .string key, .func (.func 21) #[] #[p, q]] w fun e w' => e = .returned (.tuple #[]) ∧ (I 6 w' ∨ Fi w') := by
  have hconv : ∀ W : World, (convert 9 23 (.string key)).run Try.prog W = .ok (.slice (some ⟨W.heap.size, 0, none⟩) key.size (grownCap W key.size 0 5)) (Lib.bytesWorld W 5 key) := fun W => Lib.run_convert_string_bytes (u := .string) W _ _ _ key (by kernel_rfl) (by kernel_rfl) (by kernel_rfl)
  have hor := or_odd (hh key) (hh_lt key)
  have HB0 := conv_below w 5 key
  have hl1 := hh_lt key
  have HOR := Lib.hid hor
  clear hor
  go_enter Try.func20, Try.ntmps20
  go_wp2_with fail
  refine (of_conv w key hkey).mono ?_
  rintro e w' ⟨rfl, ⟨nd, rfl⟩⟩
  go_wp2_with fail
  refine (rot_calls (hh key) hl1 _).mono ?_
  rintro e w' ⟨rfl, ⟨nd2, rfl⟩⟩
  go_wp2
  rw [HOR.out]
  go_loopw [6, 14] (fun h i wr => ∃ k : Nat, k ≤ 6 ∧ i = .int .i64 (k : Int) ∧ h = .int .u32 (hk key k : Int) ∧ I k wr) (fun _ i _ => 6 - (intOf i).toNat)
  case atStart => exact ⟨0, by omega, rfl, by rw [hk_zero], h0 _ (pw_below_drewN HB0 _)⟩
  case round =>
    obtain ⟨k, hk6, rfl, rfl, hI⟩ := hrel
    have hlt := hk_lt key k
    have HSU := Lib.hid (add_told key k)
    have HBI := Lib.hid (bit_wrap n hn hn2 key k)
    by_cases h6 : k < 6
    · go_wp2_with fail
      rw [HBI.out]
      refine (hstep k wr h6 hI).mono ?_
      rintro e w' ⟨go, rfl, hy, hno⟩
      cases go with
      | true =>
        have hI' := hy rfl
        clear hy hno
        go_wp2
        rw [HSU.out]
        go_roundw
        case rel => exact ⟨k + 1, by omega, by go_num, rfl, hI'⟩
        case measure => simp [intOf]; omega
      | false =>
        go_wp2
        exact bodyPost_ret (results_none (by kernel_rfl) _ _ _) rfl ⟨rfl, .inr (hno trivial)⟩
    · obtain rfl : k = 6 := by omega
      go_wp2
      go_end0
      exact ⟨rfl, .inl hI⟩

set_option maxHeartbeats 4000000 in
set_option maxRecDepth 100000 in
theorem each_bits (n : Nat) (hn : 1 ≤ n) (hn2 : n ≤ 1048576) (key : ByteArray) (hkey : key.size ≤ 140737488351232) (p : Value) (w : World) (I : Nat → World → Prop) (Fi : World → Prop)
    (h0 : ∀ w', Below w.heap.size w w' → I 0 w')
    (hstep : ∀ i w', i < 6 → I i w' → Calls Try.prog 26 #[.int .i64 (bitN n key i : Int), p] w' fun e w'' => ∃ go, e = .returned (.bool go) ∧ (go = true → I (i + 1) w'') ∧ (go = false → Fi w'')) :
    Calls Try.prog 20 #[.int .i64 (n : Int), .string key, .func (.func 26) #[] #[p]] w fun e w' => e = .returned (.tuple #[]) ∧ (I 6 w' ∨ Fi w') := by
  have hconv : ∀ W : World, (convert 9 23 (.string key)).run Try.prog W = .ok (.slice (some ⟨W.heap.size, 0, none⟩) key.size (grownCap W key.size 0 5)) (Lib.bytesWorld W 5 key) := fun W => Lib.run_convert_string_bytes (u := .string) W _ _ _ key (by kernel_rfl) (by kernel_rfl) (by kernel_rfl)
  have hor := or_odd (hh key) (hh_lt key)
  have HB0 := conv_below w 5 key
  have hl1 := hh_lt key
  have HOR := Lib.hid hor
  clear hor
  go_enter Try.func20, Try.ntmps20
  go_wp2_with fail
  refine (of_conv w key hkey).mono ?_
  rintro e w' ⟨rfl, ⟨nd, rfl⟩⟩
  go_wp2_with fail
  refine (rot_calls (hh key) hl1 _).mono ?_
  rintro e w' ⟨rfl, ⟨nd2, rfl⟩⟩
  go_wp2
  rw [HOR.out]
  go_loopw [6, 14] (fun h i wr => ∃ k : Nat, k ≤ 6 ∧ i = .int .i64 (k : Int) ∧ h = .int .u32 (hk key k : Int) ∧ I k wr) (fun _ i _ => 6 - (intOf i).toNat)
  case atStart => exact ⟨0, by omega, rfl, by rw [hk_zero], h0 _ (pw_below_drewN HB0 _)⟩
  case round =>
    obtain ⟨k, hk6, rfl, rfl, hI⟩ := hrel
    have hlt := hk_lt key k
    have HSU := Lib.hid (add_told key k)
    have HBI := Lib.hid (bit_wrap n hn hn2 key k)
    by_cases h6 : k < 6
    · go_wp2_with fail
      rw [HBI.out]
      refine (hstep k wr h6 hI).mono ?_
      rintro e w' ⟨go, rfl, hy, hno⟩
      cases go with
      | true =>
        have hI' := hy rfl
        clear hy hno
        go_wp2
        rw [HSU.out]
        go_roundw
        case rel => exact ⟨k + 1, by omega, by go_num, rfl, hI'⟩
        case measure => simp [intOf]; omega
      | false =>
        go_wp2
        exact bodyPost_ret (results_none (by kernel_rfl) _ _ _) rfl ⟨rfl, .inr (hno trivial)⟩
    · obtain rfl : k = 6 := by omega
      go_wp2
      go_end0
      exact ⟨rfl, .inl hI⟩

end Go.Proofs.Ytnppeoophmihmaa.Sv
