/- The walks of Checksum, the reference's and the program's. -/
import Derived.Test.YtdmipmbeolglaaaGreatDoorFrame
import Derived.Test.YtdmipmbeolglaaaGreatDoorPB
import Derived.IntWalk
namespace Go.Proofs.YtdmipmbeolglaaaGreatDoor
open Go.ChangeShapes Go.WideShapes Go.ChangeAt Go.RowKit

theorem i64_xor_half (Z : Nat) (h : Z < 4294967296) : bits .xor .i64 ((Z : Int) / 2) 3988292384 = ((Z / 2 ^^^ 3988292384 : Nat) : Int) := by
  have := i64_xor_nat (Z / 2) 3988292384 (by omega) (by omega)
  rw [← this]; rfl
theorem u32_xor_half (Z : Nat) (h : Z < 4294967296) : bits .xor .u32 ((Z : Int) / 2) 3988292384 = ((Z / 2 ^^^ 3988292384 : Nat) : Int) := by
  have := u32_xor_nat (Z / 2) 3988292384 (by omega) (by omega)
  rw [← this]; rfl
theorem ret_i64 {a b : Int} (h : a = b) : Ending.returned (.int .i64 a) = Ending.returned (.int .i64 b) := by rw [h]
theorem crcIter_odd {j Y Z : Nat} (h : crcIter j Y = Z) (h2 : Z % 2 = 1) : Value.int .i64 ((Z / 2 ^^^ 3988292384 : Nat) : Int) = .int .i64 (crcIter (j + 1) Y) ∧ Value.int .u32 ((Z / 2 ^^^ 3988292384 : Nat) : Int) = .int .u32 (crcIter (j + 1) Y) := by
  have e : crcIter (j + 1) Y = Z / 2 ^^^ 3988292384 := by show crcStep (crcIter j Y) = _; rw [h, crcStep, if_pos h2]
  rw [e]; exact ⟨rfl, rfl⟩
theorem crcIter_even {j Y Z : Nat} (h : crcIter j Y = Z) (h2 : ¬ Z % 2 = 1) : Value.int .i64 ((Z : Int) / 2) = .int .i64 (crcIter (j + 1) Y) ∧ Value.int .u32 ((Z : Int) / 2) = .int .u32 (crcIter (j + 1) Y) := by
  have e : crcIter (j + 1) Y = Z / 2 := by show crcStep (crcIter j Y) = _; rw [h, crcStep, if_neg h2]
  rw [e]; exact ⟨rfl, rfl⟩

set_option maxHeartbeats 1000000 in
theorem specSum (s : ByteArray) (w : World) (hs : s.size ≤ 281474976710656) :
    Calls Tryz.prog 45 #[.string s] w fun e w' => e = .returned (.int .i64 ((crcFold s.data.toList ^^^ 4294967295 : Nat) : Int)) ∧ w = w' := by
  go_enter Tryz.func45, Tryz.ntmps45
  go_wp2_with fail
  go_loop [3, 4] (fun x i => ∃ k : Nat, k ≤ s.size ∧ i = .int .i64 k ∧ x = .int .i64 (crcFold (s.data.toList.take k))) (fun _ i => s.size - (intOf i).toNat)
  case atStart => exact ⟨0, Nat.zero_le _, rfl, rfl⟩
  case round =>
    obtain ⟨k, hk, rfl, rfl⟩ := hrel
    have hxl := crcFold_lt (s.data.toList.take k)
    by_cases hlt : k < s.size
    · have hct := crc_take s k hlt
      generalize hX : crcFold (s.data.toList.take k) = X at *
      have HC := Lib.hid hct
      clear hX hct
      have hbl := s[k].toNat_lt
      have b1 := i64_xor_nat X s[k].toNat hxl (by omega)
      have hyl := crcIn_lt hxl s[k]
      go_wp2_with fail
      go_loop [3, 5] (fun x i => ∃ j : Nat, j ≤ 8 ∧ i = .int .i64 j ∧ x = .int .i64 (crcIter j (X ^^^ s[k].toNat))) (fun _ i => 8 - (intOf i).toNat)
      case atStart => exact ⟨0, Nat.zero_le _, rfl, rfl⟩
      case round =>
        obtain ⟨j, hj, rfl, rfl⟩ := hrel
        have hzl := crcIter_lt hyl j
        by_cases hjl : j < 8
        · generalize hZ : crcIter j (X ^^^ s[k].toNat) = Z at *
          have HZ := Lib.hid hZ
          clear hZ b1
          have c1 := i64_and_one Z hzl
          have c2 := i64_xor_half Z hzl
          by_cases hp : Z % 2 = 1
          · have R := crcIter_odd HZ.out hp
            have HR := Lib.hid R
            clear R
            rw [hp] at c1
            clear hp
            go_wp2
            go_round
            case rel => exact ⟨j + 1, by omega, by go_num, HR.out.1⟩
            case measure => simp [intOf]; omega
          · have R := crcIter_even HZ.out hp
            have HR := Lib.hid R
            clear R
            rw [show Z % 2 = 0 from by omega] at c1
            clear hp
            go_wp2
            go_round
            case rel => exact ⟨j + 1, by omega, by go_num, HR.out.1⟩
            case measure => simp [intOf]; omega
        · obtain rfl : j = 8 := by omega
          clear b1
          go_wp2
          go_round
          case rel => exact ⟨k + 1, by omega, by go_num, by rw [HC.out]; rfl⟩
          case measure => simp [intOf]; omega
    · obtain rfl : k = s.size := by omega
      rw [show s.data.toList.take s.size = s.data.toList from List.take_of_length_le (by simp)] at *
      have b1 : bits .xor .i64 (crcFold s.data.toList : Int) 4294967295 = ((crcFold s.data.toList ^^^ 4294967295 : Nat) : Int) := i64_xor_nat (crcFold s.data.toList) 4294967295 hxl (by omega)
      have HB := Lib.hid b1
      clear b1
      go_wp2
      go_ret
      exact ⟨ret_i64 HB.out, rfl⟩
set_option maxHeartbeats 1000000 in
theorem implSum (s : ByteArray) (w : World) (hs : s.size ≤ 281474976710656) :
    Calls Tryz.prog 47 #[.string s] w fun e w' => e = .returned (.int .i64 ((crcFold s.data.toList ^^^ 4294967295 : Nat) : Int)) ∧ w = w' := by
  go_enter Tryz.func47, Tryz.ntmps47
  go_wp2_with fail
  go_loop [3, 4] (fun x i => ∃ k : Nat, k ≤ s.size ∧ i = .int .i64 k ∧ x = .int .u32 (crcFold (s.data.toList.take k))) (fun _ i => s.size - (intOf i).toNat)
  case atStart => exact ⟨0, Nat.zero_le _, rfl, rfl⟩
  case round =>
    obtain ⟨k, hk, rfl, rfl⟩ := hrel
    have hxl := crcFold_lt (s.data.toList.take k)
    by_cases hlt : k < s.size
    · have hct := crc_take s k hlt
      generalize hX : crcFold (s.data.toList.take k) = X at *
      have HC := Lib.hid hct
      clear hX hct
      have hbl := s[k].toNat_lt
      have b1 := u32_xor_nat X s[k].toNat hxl (by omega)
      have hyl := crcIn_lt hxl s[k]
      go_wp2_with fail
      go_loop [3, 5] (fun x i => ∃ j : Nat, j ≤ 8 ∧ i = .int .i64 j ∧ x = .int .u32 (crcIter j (X ^^^ s[k].toNat))) (fun _ i => 8 - (intOf i).toNat)
      case atStart => exact ⟨0, Nat.zero_le _, rfl, rfl⟩
      case round =>
        obtain ⟨j, hj, rfl, rfl⟩ := hrel
        have hzl := crcIter_lt hyl j
        by_cases hjl : j < 8
        · generalize hZ : crcIter j (X ^^^ s[k].toNat) = Z at *
          have HZ := Lib.hid hZ
          clear hZ b1
          have c1 := u32_and_one Z hzl
          have c2 := u32_xor_half Z hzl
          by_cases hp : Z % 2 = 1
          · have R := crcIter_odd HZ.out hp
            have HR := Lib.hid R
            clear R
            rw [hp] at c1
            clear hp
            go_wp2
            go_round
            case rel => exact ⟨j + 1, by omega, by go_num, HR.out.2⟩
            case measure => simp [intOf]; omega
          · have R := crcIter_even HZ.out hp
            have HR := Lib.hid R
            clear R
            rw [show Z % 2 = 0 from by omega] at c1
            clear hp
            go_wp2
            go_round
            case rel => exact ⟨j + 1, by omega, by go_num, HR.out.2⟩
            case measure => simp [intOf]; omega
        · obtain rfl : j = 8 := by omega
          clear b1
          go_wp2
          go_round
          case rel => exact ⟨k + 1, by omega, by go_num, by rw [HC.out]; rfl⟩
          case measure => simp [intOf]; omega
    · obtain rfl : k = s.size := by omega
      rw [show s.data.toList.take s.size = s.data.toList from List.take_of_length_le (by simp)] at *
      have b1 : bits .xor .u32 (crcFold s.data.toList : Int) 4294967295 = ((crcFold s.data.toList ^^^ 4294967295 : Nat) : Int) := u32_xor_nat (crcFold s.data.toList) 4294967295 hxl (by omega)
      have HB := Lib.hid b1
      clear b1
      go_wp2
      go_ret
      have hxx := Nat.xor_lt_two_pow (n := 32) (x := crcFold s.data.toList) (y := 4294967295) hxl (by omega)
      exact ⟨ret_i64 (by rw [HB.out]; exact IntWalk.wrap64_in _ (by omega)), rfl⟩
end Go.Proofs.YtdmipmbeolglaaaGreatDoor
