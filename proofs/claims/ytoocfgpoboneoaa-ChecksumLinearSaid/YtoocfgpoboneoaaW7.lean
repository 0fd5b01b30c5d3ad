/- The walk of the law ChecksumLinear. -/
import Derived.Test.YtoocfgpoboneoaaW6
import Derived.StillTailTactics
import Derived.Deep.QuietTactic
import Derived.BigQuiet
import Derived.Deep.RegionLaw
namespace Go.Proofs.Ytoocfgpoboneoaa
open Go.RowKit
set_option linter.unusedVariables false

set_option maxHeartbeats 400000 in
theorem walk_ChecksumLinear (a : ByteArray) (ha : a.size ≤ 140737488351232) (b : ByteArray) (hb : b.size ≤ 140737488351232) (c : ByteArray) (hc : c.size ≤ 140737488351232) (w : World) :
    Calls Try.prog 7 #[.string a, .string b, .string c] w fun e w' => e = .returned (.bool true) ∧ Below w.heap.size w w' := by
  obtain ⟨i0, hi, hz0, hz1, hz2⟩ := info_parts Try.info5
  obtain ⟨n, hna, hnb, hnc, hn⟩ := Bs.min3_ex a.size b.size c.size
  have hmin : ∀ ts t W, (Builtin.min_ ts t #[.int .i64 (a.size : Int), .int .i64 (b.size : Int), .int .i64 (c.size : Int)]).run Try.prog W = .ok (.int .i64 (n : Int)) W := by
    intro ts t W
    rw [run_min_int3, hn]
  clear hn
  go_enter Try.func7, Try.ntmps7
  go_wp2
  clear hmin
  go_loopw [8, 9] (fun v i wr => ∃ k : Nat, k ≤ n ∧ i = .int .i64 k ∧ wr.ownsRow w.heap.size 5 1 v k ((P5.zip3 (a.data.toList.take k) (b.data.toList.take k) (c.data.toList.take k)).map Bs.byteV) ∧ Below w.heap.size w wr) (fun _ i _ => n - (intOf i).toNat)
  case atStart => exact ⟨0, Nat.zero_le _, rfl, World.ownsRow_nil _ _ _ _, Below.refl _ _⟩
  case round =>
    obtain ⟨k, hk, rfl, hown, hbel⟩ := hrel
    by_cases hlt : k < n
    · have h1 : k < a.size := by omega
      have h2 : k < b.size := by omega
      have h3 : k < c.size := by omega
      have HZ : Hid ((P5.zip3 (a.data.toList.take (k + 1)) (b.data.toList.take (k + 1)) (c.data.toList.take (k + 1))).map Bs.byteV = (P5.zip3 (a.data.toList.take k) (b.data.toList.take k) (c.data.toList.take k)).map Bs.byteV ++ [.int .u8 (bits .xor .u8 (bits .xor .u8 (a[k].toNat : Int) (b[k].toNat : Int)) (c[k].toNat : Int))]) := by
        rw [P5.take_snoc a k h1, P5.take_snoc b k h2, P5.take_snoc c k h3, P5.zip3_snoc _ _ _ _ _ _ (by simp; omega) (by simp; omega), List.map_append, P5.xor3]
        exact rfl
      have hsz := hbel.size
      go_wp2
      go_region_law (refine Bs.step_append_own rfl _ _ 28 rfl w.heap.size 5 i0 (.int .u8 0) 1 1 Try.underlying28 hi hz0 hz1 hz2 rfl (by decide) _ _ _ rfl (hown.drew.alloc _) ⟨wr.heap.size, 0, none⟩ 1 1 [.int .u8 (bits .xor .u8 (bits .xor .u8 (a[k].toNat : Int) (b[k].toNat : Int)) (c[k].toNat : Int))] rfl rfl (Bs.cell_new1 _ _ _) (by intro u hu; simp at hu; subst hu; rfl) (by unfold maxLen; omega) (by omega) (by simp; omega) ?_; intro v' w1 hown' hgrow _)
      all_goals
        have hg : (wr.alloc (.cells #[.int .u8 (bits .xor .u8 (bits .xor .u8 (a[k].toNat : Int) (b[k].toNat : Int)) (c[k].toNat : Int))] 5)).drew.grownBy w1 u8.ownBlock := hgrow
        clear hgrow
        have hb1 := Lib.hid ((hbel.alloc hsz (.cells #[.int .u8 (bits .xor .u8 (bits .xor .u8 (a[k].toNat : Int) (b[k].toNat : Int)) (c[k].toNat : Int))] 5)).drew.grown hg (by simp; omega) (fun k hk => (hown.lt k hk).1))
        clear hg hbel hown
        go_wp2
        go_roundw
        case rel => exact ⟨k + 1, by omega, by go_num, by rw [HZ.out]; exact hown', hb1.out⟩
        case measure => simp [intOf]; omega
    · have hkn : k = n := by omega
      subst hkn
      have hcv := fun d hd => Bs.run_convert_own (P := Try.prog) 28 d 5 Try.underlying28 Try.underlying5 hd hown.drew
      have hz1 : (Bs.mk (P5.zip3 (a.data.toList.take k) (b.data.toList.take k) (c.data.toList.take k))).size ≤ maxLen := by
        have h := hown.1
        rw [List.length_map] at h
        rw [Bs.mk_size, h]; unfold maxLen; omega
      have hz2 : (a.extract 0 k).size ≤ maxLen := by rw [ByteArray.size_extract]; unfold maxLen; omega
      have hz3 : (b.extract 0 k).size ≤ maxLen := by rw [ByteArray.size_extract]; unfold maxLen; omega
      have hz4 : (c.extract 0 k).size ≤ maxLen := by rw [ByteArray.size_extract]; unfold maxLen; omega
      have HT := Lib.hid (show (((P5.crc (Bs.mk (P5.zip3 (a.data.toList.take k) (b.data.toList.take k) (c.data.toList.take k))).data.toList : Nat) : Int) == bits .xor .u32 (bits .xor .u32 ((P5.crc (a.data.toList.take k) : Nat) : Int) ((P5.crc (b.data.toList.take k) : Nat) : Int)) ((P5.crc (c.data.toList.take k) : Nat) : Int)) = true by
        rw [P5.xorc _ _ (P5.crc_lt _) (P5.crc_lt _), P5.xorc _ _ (Nat.xor_lt_two_pow (n := 32) (P5.crc_lt _) (P5.crc_lt _)) (P5.crc_lt _), Bs.mk_list, P5.crc_linear _ _ _ (by simp; omega) (by simp; omega)]
        exact beq_self_eq_true _)
      generalize P5.zip3 (a.data.toList.take k) (b.data.toList.take k) (c.data.toList.take k) = Z at *
      go_wp2
      refine wp_region_still_tail 19 (by kernel_rfl) (by kernel_rfl) ?_
      simp only [List.take_succ_cons, List.take_zero, List.drop_succ_cons, List.drop_zero]
      repeat still_step
      still_call (crc_any _ _ hz1)
      repeat still_step
      still_call (crc_any _ _ hz2)
      repeat still_step
      still_call (crc_any _ _ hz3)
      repeat still_step
      still_call (crc_any _ _ hz4)
      have HT := HT.out
      repeat still_step
      refine wpStill_nil ?_
      change wpList _ _ _ _ _ wr.drew
      go_wp2_with (go_at_call 11; refine (awake_any _).mono ?_; rintro e w5 ⟨rfl, hb5⟩)
      go_ret
      exact ⟨rfl, Bs.sq (Bs.dr hbel) hb5⟩
end Go.Proofs.Ytoocfgpoboneoaa
