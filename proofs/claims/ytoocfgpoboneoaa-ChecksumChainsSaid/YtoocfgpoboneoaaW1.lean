/- The walks of Crc, of the program and of the reference. -/
import Derived.Test.YtoocfgpoboneoaaRows
import Derived.Test.YtoocfgpoboneoaaPlain
import Derived.WalkKit
import Derived.WalkSpells
import Derived.WalkLawsBesides
namespace Go.Proofs.Ytoocfgpoboneoaa
open Go.RowKit
theorem ret_int {k : IntKind} {a b : Int} (h : a = b) : Ending.returned (.int k a) = .returned (.int k b) := by rw [h]
theorem val_int {k : IntKind} {a b : Int} (h : a = b) : Value.int k a = .int k b := by rw [h]

set_option maxHeartbeats 400000 in
theorem crc_any (s : ByteArray) (w : World) (hs : s.size ≤ maxLen) :
    Calls Try.prog 9 #[.string s] w fun e w' => e = .returned (.int .u32 (P5.crc s.data.toList)) ∧ w' = w := by
  unfold maxLen at hs
  go_enter Try.func9, Try.ntmps9
  go_wp2
  go_loop [3, 8] (fun n i => ∃ k : Nat, k ≤ s.size ∧ i = .int .i64 k ∧ n = .int .u32 (P5.crcF (s.data.toList.take k) 4294967295)) (fun _ i => s.size - (intOf i).toNat)
  case atStart => exact ⟨0, Nat.zero_le _, rfl, rfl⟩
  case round =>
    obtain ⟨k, hk, rfl, rfl⟩ := hrel
    have hx := P5.crcF_lt (s.data.toList.take k) (x := 4294967295) (by decide)
    by_cases hlt : k < s.size
    · have HS : Hid (P5.crcF (s.data.toList.take (k + 1)) 4294967295 = P5.stps 8 (P5.crcF (s.data.toList.take k) 4294967295 ^^^ s[k].toNat)) := by
        rw [P5.take_snoc s k hlt, P5.crcF_snoc]; rfl
      have hx1 := P5.xorb_lt hx s[k]
      have HB : Hid (bits .xor .u32 ((P5.crcF (s.data.toList.take k) 4294967295 : Nat) : Int) ((s[k].toNat : Int) % 4294967296) = ((P5.crcF (s.data.toList.take k) 4294967295 ^^^ s[k].toNat : Nat) : Int)) := P5.byte32 _ _ hx
      generalize P5.crcF (s.data.toList.take k) 4294967295 = x at *
      go_wp2
      go_loop [3, 17] (fun n i => ∃ j : Nat, j ≤ 8 ∧ i = .int .i64 j ∧ n = .int .u32 (P5.stps j (x ^^^ s[k].toNat))) (fun _ i => 8 - (intOf i).toNat)
      case atStart => exact ⟨0, Nat.zero_le _, rfl, val_int HB.out⟩
      case round =>
        obtain ⟨j, hj, rfl, rfl⟩ := hrel
        have hy := P5.stps_lt j hx1
        have HN : Hid (P5.stps (j + 1) (x ^^^ s[k].toNat) = P5.stp (P5.stps j (x ^^^ s[k].toNat))) := P5.stps_succ _ _
        have HE : j = 8 → Hid (P5.stps j (x ^^^ s[k].toNat) = P5.crcF (s.data.toList.take (k + 1)) 4294967295) := fun h => by subst h; exact HS.out.symm
        generalize P5.stps j (x ^^^ s[k].toNat) = y at *
        go_wp2
        · have ht : (bits BinOp.and IntKind.u32 (y : Int) 1 == 1) = true := by assumption
          go_round
          case rel => exact ⟨j + 1, by omega, by go_num, by rw [HN.out]; exact val_int (P5.step_odd y hy ht)⟩
          case measure => simp [intOf]; omega
        · have ht : (bits BinOp.and IntKind.u32 (y : Int) 1 == 1) = false := by assumption
          go_round
          case rel => exact ⟨j + 1, by omega, by go_num, by rw [HN.out]; exact val_int (P5.step_even y hy ht)⟩
          case measure => simp [intOf]; omega
        · go_round
          case rel => exact ⟨k + 1, by omega, by go_num, by rw [(HE (by omega)).out]⟩
          case measure => simp [intOf]; omega
    · have HK : Hid (P5.crcF (s.data.toList.take k) 4294967295 = P5.crcF s.data.toList 4294967295) := by rw [P5.take_all s k (by omega)]; exact rfl
      go_wp2
      go_ret
      exact ⟨ret_int (by rw [HK.out, P5.crc_fin]), rfl⟩

set_option maxHeartbeats 400000 in
theorem rcrc_any (s : ByteArray) (w : World) (hs : s.size ≤ maxLen) :
    Calls Try.prog 10 #[.string s] w fun e w' => e = .returned (.int .u32 (P5.crc s.data.toList)) ∧ w' = w := by
  unfold maxLen at hs
  go_enter Try.func10, Try.ntmps10
  go_wp2
  go_loop [3, 4] (fun n i => ∃ k : Nat, k ≤ s.size ∧ i = .int .i64 k ∧ n = .int .u32 (P5.crcF (s.data.toList.take k) 4294967295)) (fun _ i => s.size - (intOf i).toNat)
  case atStart => exact ⟨0, Nat.zero_le _, rfl, rfl⟩
  case round =>
    obtain ⟨k, hk, rfl, rfl⟩ := hrel
    have hx := P5.crcF_lt (s.data.toList.take k) (x := 4294967295) (by decide)
    by_cases hlt : k < s.size
    · have HS : Hid (P5.crcF (s.data.toList.take (k + 1)) 4294967295 = P5.stps 8 (P5.crcF (s.data.toList.take k) 4294967295 ^^^ s[k].toNat)) := by
        rw [P5.take_snoc s k hlt, P5.crcF_snoc]; rfl
      have hx1 := P5.xorb_lt hx s[k]
      have HB : Hid (bits .xor .u32 ((P5.crcF (s.data.toList.take k) 4294967295 : Nat) : Int) ((s[k].toNat : Int) % 4294967296) = ((P5.crcF (s.data.toList.take k) 4294967295 ^^^ s[k].toNat : Nat) : Int)) := P5.byte32 _ _ hx
      generalize P5.crcF (s.data.toList.take k) 4294967295 = x at *
      go_wp2
      go_loop [3, 5] (fun n i => ∃ j : Nat, j ≤ 8 ∧ i = .int .i64 j ∧ n = .int .u32 (P5.stps j (x ^^^ s[k].toNat))) (fun _ i => 8 - (intOf i).toNat)
      case atStart => exact ⟨0, Nat.zero_le _, rfl, val_int HB.out⟩
      case round =>
        obtain ⟨j, hj, rfl, rfl⟩ := hrel
        have hy := P5.stps_lt j hx1
        have HN : Hid (P5.stps (j + 1) (x ^^^ s[k].toNat) = P5.stp (P5.stps j (x ^^^ s[k].toNat))) := P5.stps_succ _ _
        have HE : j = 8 → Hid (P5.stps j (x ^^^ s[k].toNat) = P5.crcF (s.data.toList.take (k + 1)) 4294967295) := fun h => by subst h; exact HS.out.symm
        generalize P5.stps j (x ^^^ s[k].toNat) = y at *
        go_wp2
        · have ht : ((y : Int) % 2 == 1) = true := by assumption
          go_round
          case rel => exact ⟨j + 1, by omega, by go_num, by rw [HN.out]; exact val_int (P5.step_odd' y hy ht)⟩
          case measure => simp [intOf]; omega
        · have ht : ((y : Int) % 2 == 1) = false := by assumption
          go_round
          case rel => exact ⟨j + 1, by omega, by go_num, by rw [HN.out]; exact val_int (P5.step_even' y ht)⟩
          case measure => simp [intOf]; omega
        · go_round
          case rel => exact ⟨k + 1, by omega, by go_num, by rw [(HE (by omega)).out]⟩
          case measure => simp [intOf]; omega
    · have HK : Hid (P5.crcF (s.data.toList.take k) 4294967295 = P5.crcF s.data.toList 4294967295) := by rw [P5.take_all s k (by omega)]; exact rfl
      go_wp2
      go_ret
      exact ⟨ret_int (by rw [HK.out, P5.crc_fin']), rfl⟩

end Go.Proofs.Ytoocfgpoboneoaa
