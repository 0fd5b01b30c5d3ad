/- The walks of Hash and fold, of the program and of the reference. -/
import Derived.Test.YtoocfgpoboneoaaW1
import Derived.Lib.Hide
namespace Go.Proofs.Ytoocfgpoboneoaa
open Go.RowKit

set_option maxHeartbeats 400000 in
theorem fold_any (n : Nat) (s : ByteArray) (w : World) (hs : s.size ≤ maxLen) (hn : n < 18446744073709551616) :
    Calls Try.prog 24 #[.int .u64 n, .string s] w fun e w' => e = .returned (.int .u64 (P5.fnvF s.data.toList n)) ∧ w' = w := by
  unfold maxLen at hs
  have HN := Lib.hid hn
  clear hn
  go_enter Try.func24, Try.ntmps24
  go_wp2
  go_loop [0, 8] (fun x i => ∃ k : Nat, k ≤ s.size ∧ i = .int .i64 k ∧ x = .int .u64 (P5.fnvF (s.data.toList.take k) n)) (fun _ i => s.size - (intOf i).toNat)
  case atStart => exact ⟨0, Nat.zero_le _, rfl, by rw [List.take_zero]; rfl⟩
  case round =>
    obtain ⟨k, hk, rfl, rfl⟩ := hrel
    by_cases hlt : k < s.size
    · have HS : Hid (IntKind.u64.wrap (bits .xor .u64 ((P5.fnvF (s.data.toList.take k) n : Nat) : Int) (IntKind.u64.wrap (s[k].toNat : Int)) * 1099511628211) = ((P5.fnvF (s.data.toList.take (k + 1)) n : Nat) : Int)) :=
        Lib.hid (by rw [P5.take_snoc s k hlt, P5.fnvF_snoc]; exact P5.fnv_step _ _ (P5.fnvF_lt _ HN.out))
      go_wp2
      go_round
      case rel => exact ⟨k + 1, by omega, by go_num, val_int HS.out⟩
      case measure => simp [intOf]; omega
    · have HK : Hid (P5.fnvF (s.data.toList.take k) n = P5.fnvF s.data.toList n) := Lib.hid (by rw [P5.take_all s k (by omega)])
      go_wp2
      go_ret
      exact ⟨ret_int (by rw [HK.out]), rfl⟩

set_option maxHeartbeats 400000 in
theorem rhash_any (s : ByteArray) (w : World) (hs : s.size ≤ maxLen) :
    Calls Try.prog 13 #[.string s] w fun e w' => e = .returned (.int .u64 (P5.fnv s.data.toList)) ∧ w' = w := by
  unfold maxLen at hs
  go_enter Try.func13, Try.ntmps13
  go_wp2
  go_loop [3, 4] (fun x i => ∃ k : Nat, k ≤ s.size ∧ i = .int .i64 k ∧ x = .int .u64 (P5.fnvF (s.data.toList.take k) P5.fnv0)) (fun _ i => s.size - (intOf i).toNat)
  case atStart => exact ⟨0, Nat.zero_le _, rfl, by rw [List.take_zero]; rfl⟩
  case round =>
    obtain ⟨k, hk, rfl, rfl⟩ := hrel
    by_cases hlt : k < s.size
    · have HS : Hid (IntKind.u64.wrap (bits .xor .u64 ((P5.fnvF (s.data.toList.take k) P5.fnv0 : Nat) : Int) (IntKind.u64.wrap (s[k].toNat : Int)) * 1099511628211) = ((P5.fnvF (s.data.toList.take (k + 1)) P5.fnv0 : Nat) : Int)) :=
        Lib.hid (by rw [P5.take_snoc s k hlt, P5.fnvF_snoc]; exact P5.fnv_step _ _ (P5.fnvF_lt _ P5.fnv0_lt))
      go_wp2
      go_round
      case rel => exact ⟨k + 1, by omega, by go_num, val_int HS.out⟩
      case measure => simp [intOf]; omega
    · have HK : Hid (P5.fnvF (s.data.toList.take k) P5.fnv0 = P5.fnv s.data.toList) := Lib.hid (by rw [P5.take_all s k (by omega)]; rfl)
      go_wp2
      go_ret
      exact ⟨ret_int (by rw [HK.out]), rfl⟩

set_option maxHeartbeats 400000 in
theorem hash_any (s : ByteArray) (w : World) (hs : s.size ≤ maxLen) :
    Calls Try.prog 12 #[.string s] w fun e w' => e = .returned (.int .u64 (P5.fnv s.data.toList)) ∧ Below w.heap.size w w' := by
  unfold maxLen at hs
  go_enter Try.func12, Try.ntmps12
  go_wp2
  go_loopw [3, 4] (fun x i w' => ∃ pos k : Nat, k ≤ s.size ∧ k ≤ pos ∧ w' = w.iter s pos ∧ i = .int .i64 k ∧ x = .int .u64 (P5.fnvF (s.data.toList.take k) P5.fnv0)) (fun _ _ w' => s.size - w'.iterPos w.heap.size)
  case atStart => exact ⟨0, 0, Nat.zero_le _, Nat.zero_le _, rfl, rfl, by rw [List.take_zero]; rfl⟩
  case round =>
    obtain ⟨pos, k, hk, hkp, rfl, rfl, rfl⟩ := hrel
    have HF := Lib.hid (P5.fnvF_lt (s.data.toList.take k) P5.fnv0_lt)
    by_cases hp : pos < s.size
    · have hnx : ∀ ty, (Instr.next (.pointer (some ⟨w.heap.size, 0, none⟩)) true ty).run Try.prog (w.iter s pos) = _ := fun ty => run_next_any w s pos ty hp
      have hwd := P5.width_pos s pos hp
      have HC := Lib.hid (P5.fnv_cut s k pos hkp P5.fnv0)
      have hsz : (s.extract k pos).size ≤ maxLen := by rw [ByteArray.size_extract]; unfold maxLen; omega
      go_wp2_with (go_at_call 24; refine (fold_any _ _ _ hsz HF.out).mono ?_; rintro e w' ⟨rfl, rfl⟩; rw [HC.out])
      go_roundw
      case rel => exact ⟨_, pos, by omega, by omega, rfl, rfl, rfl⟩
      case measure => simp; omega
    · have hnx : ∀ ty, (Instr.next (.pointer (some ⟨w.heap.size, 0, none⟩)) true ty).run Try.prog (w.iter s pos) = _ := fun ty => run_next_end w s pos ty hp
      have HC := Lib.hid (P5.fnv_cut s k s.size hk P5.fnv0)
      have hsz : (s.extract k s.size).size ≤ maxLen := by rw [ByteArray.size_extract]; unfold maxLen; omega
      have HA := Lib.hid (P5.take_all s s.size (Nat.le_refl _))
      go_wp2_with (go_at_call 24; refine (fold_any _ _ _ hsz HF.out).mono ?_; rintro e w' ⟨rfl, rfl⟩; rw [HC.out])
      go_ret
      exact ⟨ret_int (by rw [HA.out]; rfl), (Below.refl _ _).alloc (Nat.le_refl _) _⟩
end Go.Proofs.Ytoocfgpoboneoaa
