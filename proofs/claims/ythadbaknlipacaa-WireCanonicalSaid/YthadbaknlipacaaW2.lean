/- The walks of the two functions varint. -/
import Derived.Test.YthadbaknlipacaaW1
namespace Go.Proofs.Ythadbaknlipacaa
open Go.RowKit
set_option linter.unusedVariables false

def tri (x : Nat × Nat × Nat) : Value := .tuple #[.int .u64 (x.1 : Int), .int .i64 (x.2.1 : Int), .int .i64 (x.2.2 : Int)]

theorem pow128 (k : Nat) : 128 ^ k = 2 ^ (7 * k) := by rw [Nat.pow_mul]
theorem and127 (c : UInt8) : bits .and .u8 (c.toNat : Int) 127 = ((c.toNat % 128 : Nat) : Int) := by
  rw [show (127 : Int) = ((127 : Nat) : Int) from rfl, u8_and_nat _ _ c.toNat_lt (by omega), nat_mask7]
theorem orstep (a k : Nat) (c : UInt8) (ha : a < 128 ^ k) (hk : k ≤ 8 ∨ (k = 9 ∧ c.toNat ≤ 1)) :
    bits .or .u64 (a : Int) (IntKind.u64.wrap (IntKind.u64.wrap (bits .and .u8 (c.toNat : Int) 127) * 2 ^ (7 * k))) = ((a + c.toNat % 128 * 128 ^ k : Nat) : Int) := by
  have h1 : IntKind.u64.wrap (((c.toNat % 128 : Nat) : Int)) = ((c.toNat % 128 : Nat) : Int) := by rw [IntKind.wrap_u64]; omega
  have hlim : c.toNat % 128 * 128 ^ k < 18446744073709551616 ∧ 128 ^ k < 18446744073709551616 := by
    rcases hk with hk | ⟨rfl, hc⟩
    · have h2 : 128 ^ k ≤ 128 ^ 8 := Nat.pow_le_pow_right (by decide) hk
      have h3 : c.toNat % 128 * 128 ^ k ≤ 127 * 128 ^ 8 := Nat.mul_le_mul (by omega) h2
      omega
    · have h3 : c.toNat % 128 ≤ 1 := by omega
      have h4 : c.toNat % 128 * 128 ^ 9 ≤ 1 * 128 ^ 9 := Nat.mul_le_mul_right _ h3
      omega
  have h2 : ((c.toNat % 128 : Nat) : Int) * 2 ^ (7 * k) = ((c.toNat % 128 * 128 ^ k : Nat) : Int) := by rw [pow128]; simp
  rw [and127, h1, h2, IntKind.wrap_u64]
  have h5 : (((c.toNat % 128 * 128 ^ k : Nat) : Int) % 18446744073709551616) = ((c.toNat % 128 * 128 ^ k : Nat) : Int) := by
    have := hlim.1
    omega
  rw [h5, u64_or_nat _ _ (by omega) hlim.1, Nat.or_comm, nat_join (7 * k) _ _ (by rw [← pow128]; exact Nat.mul_mod_left _ _) (by rw [← pow128]; exact ha), Nat.add_comm]

set_option maxRecDepth 100000 in
set_option maxHeartbeats 800000 in
theorem varint_any (s : ByteArray) (w : World) (hs : s.size ≤ 140737488355328) :
    Calls Try.prog 35 #[.string s] w fun e w' => e = .returned (tri (P4.vdec s.data.toList)) ∧ w' = w := by
  go_enter Try.func35, Try.ntmps35
  go_wp2
  go_loop [5, 8] (fun x i => ∃ (k a : Nat), k ≤ 10 ∧ k ≤ s.size ∧ i = .int .i64 k ∧ x = .int .u64 a ∧ a < 128 ^ k ∧ P4.vD (10 - k) k (s.data.toList.drop k) a = P4.vdec s.data.toList) (fun _ i => 10 - (intOf i).toNat)
  case atStart => exact ⟨0, 0, by omega, Nat.zero_le _, rfl, rfl, by omega, rfl⟩
  case round =>
    obtain ⟨k, a, hk, hks, rfl, rfl, ha, hv⟩ := hrel
    by_cases hk10 : k = 10
    · subst hk10
      have HV := Lib.hid (show P4.vdec s.data.toList = (0, 0, 2) by rw [← hv]; rfl)
      clear hv ha
      go_wp2
      go_ret3
      exact ⟨by rw [HV.out]; rfl, rfl⟩
    have hk9 : k ≤ 9 := by omega
    clear hk10
    by_cases hend : k = s.size
    · have HV := Lib.hid (show P4.vdec s.data.toList = (0, 0, 1) by
        rw [← hv, List.drop_of_length_le (by rw [Bs.len_list]; omega), show 10 - k = (9 - k) + 1 from by omega]; rfl)
      have hend' : s.size ≤ k := by omega
      clear hv ha hend
      go_wp2
      go_ret3
      exact ⟨by rw [HV.out]; rfl, rfl⟩
    have hlt : k < s.size := by omega
    clear hend
    have hc := s[k].toNat_lt
    have HV := Lib.hid (show (if 9 - k = 0 ∧ 1 < s[k].toNat then (0, 0, 2) else if 128 ≤ s[k].toNat then P4.vD (9 - k) (k + 1) (s.data.toList.drop (k + 1)) (a + s[k].toNat % 128 * 128 ^ k)
        else if s[k].toNat = 0 ∧ 0 < k then (0, 0, 2) else (a + s[k].toNat % 128 * 128 ^ k, k + 1, 0)) = P4.vdec s.data.toList by
      have hd : s.data.toList.drop k = s[k] :: s.data.toList.drop (k + 1) := List.drop_eq_getElem_cons (by rw [Bs.len_list]; exact hlt)
      rw [← hv, hd, show 10 - k = (9 - k) + 1 from by omega]
      rfl)
    have HA := Lib.hid ha
    clear hv ha
    by_cases h1 : k = 9 ∧ 1 < s[k].toNat
    · obtain ⟨h9, h1⟩ := h1
      have HV2 := Lib.hid (show P4.vdec s.data.toList = (0, 0, 2) by rw [← HV.out, if_pos ⟨by omega, h1⟩])
      have h9' : 9 ≤ k := by omega
      clear h9
      go_wp2
      go_ret3
      exact ⟨by rw [HV2.out]; rfl, rfl⟩
    by_cases h128 : 128 ≤ s[k].toNat
    · have hk8 : k ≤ 8 := by omega
      have HV2 := Lib.hid (show P4.vD (9 - k) (k + 1) (s.data.toList.drop (k + 1)) (a + s[k].toNat % 128 * 128 ^ k) = P4.vdec s.data.toList by rw [← HV.out, if_neg (by omega), if_pos h128])
      have HO := Lib.hid (orstep a k s[k] HA.out (.inl hk8))
      clear h1
      go_wp2
      go_round
      case rel =>
        refine ⟨k + 1, _, by omega, by omega, by go_num, Bs.val_int HO.out, ?_, by rw [show 10 - (k + 1) = 9 - k from by omega]; exact HV2.out⟩
        have := HA.out
        rw [Nat.pow_succ]
        have h2 : s[k].toNat % 128 * 128 ^ k ≤ 127 * 128 ^ k := Nat.mul_le_mul_right _ (by omega)
        omega
      case measure => simp [intOf]; omega
    · by_cases h0 : s[k].toNat = 0 ∧ 0 < k
      · have HV2 := Lib.hid (show P4.vdec s.data.toList = (0, 0, 2) by rw [← HV.out, if_neg (by omega), if_neg h128, if_pos h0])
        obtain ⟨hc0, hk0⟩ := h0
        have hc0' : s[k].toNat ≤ 0 := by omega
        clear hc0 h1
        go_wp2
        all_goals go_ret3
        all_goals exact ⟨by rw [HV2.out]; rfl, rfl⟩
      · have HV2 := Lib.hid (show P4.vdec s.data.toList = (a + s[k].toNat % 128 * 128 ^ k, k + 1, 0) by rw [← HV.out, if_neg (by omega), if_neg h128, if_neg h0])
        have HO := Lib.hid (orstep a k s[k] HA.out (by omega))
        by_cases hc0 : s[k].toNat = 0
        · have hk0 : k ≤ 0 := by omega
          have hc0' : s[k].toNat ≤ 0 := by omega
          have HO0 : Hid (bits .or .u64 (a : Int) (IntKind.u64.wrap (IntKind.u64.wrap (bits .and .u8 0 127) * 2 ^ (7 * k))) = ((a + s[k].toNat % 128 * 128 ^ k : Nat) : Int)) := by
            have h := HO.out
            rw [hc0] at h ⊢
            exact h
          clear hc0 h1 h0
          go_wp2
          go_ret3
          exact ⟨by rw [HV2.out]; exact congrArg (fun z => Ending.returned (.tuple #[.int .u64 z, .int .i64 ((k : Int) + 1), .int .i64 0])) HO0.out, rfl⟩
        · have hc0' : 1 ≤ s[k].toNat := by omega
          clear hc0 h0
          by_cases hk9' : k = 9
          · have h91 : s[k].toNat ≤ 1 := by omega
            subst hk9'
            have HO9 : Hid (bits .or .u64 (a : Int) (IntKind.u64.wrap (IntKind.u64.wrap (bits .and .u8 (s[9].toNat : Int) 127) * 9223372036854775808)) = ((a + s[9].toNat % 128 * 128 ^ 9 : Nat) : Int)) := by
              have h := HO.out
              rw [show (2 : Int) ^ (7 * 9) = 9223372036854775808 from by decide] at h
              exact h
            clear h1
            go_wp2
            go_ret3
            exact ⟨by rw [HV2.out]; exact congrArg (fun z => Ending.returned (.tuple #[.int .u64 z, .int .i64 10, .int .i64 0])) HO9.out, rfl⟩
          · have hk8 : k ≤ 8 := by omega
            clear hk9' h1
            go_wp2
            go_ret3
            exact ⟨by rw [HV2.out]; exact congrArg (fun z => Ending.returned (.tuple #[.int .u64 z, .int .i64 ((k : Int) + 1), .int .i64 0])) HO.out, rfl⟩
end Go.Proofs.Ythadbaknlipacaa
