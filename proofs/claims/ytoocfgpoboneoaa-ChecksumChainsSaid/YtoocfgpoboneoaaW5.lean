/- The walk of awake, and of the laws ChecksumCrcs, ChecksumHashes. -/
import Derived.Test.YtoocfgpoboneoaaW4
namespace Go.Proofs.Ytoocfgpoboneoaa
open Go.RowKit

theorem k1 : P5.crc [49, 50, 51, 52, 53, 54, 55, 56, 57] = 3808858755 := by decide +kernel
theorem k2 : P5.fnv [97] = 12638187200555641996 := by decide +kernel
theorem k3 : openR (Bs.mk (P5.sealL [97, 98, 99])) = (.string ⟨#[97, 98, 99]⟩, .int .i64 0) := by
  have h : P5.sealL [97, 98, 99] = [183, 63, 75, 54, 97, 98, 99] := by decide +kernel
  rw [h]
  have h1 : ((Bs.mk [183, 63, 75, 54, 97, 98, 99]).extract 4 (Bs.mk [183, 63, 75, 54, 97, 98, 99]).size) = ⟨#[97, 98, 99]⟩ := by decide +kernel
  have h2 := openR_of (Bs.mk [183, 63, 75, 54, 97, 98, 99]) (by decide)
  rw [h1] at h2
  exact h2.1 (by rw [show (⟨#[97, 98, 99]⟩ : ByteArray).data.toList = [97, 98, 99] from rfl, h])
theorem k4 : openR ⟨#[97, 98, 99]⟩ = (.string ⟨#[]⟩, .int .i64 1) := by unfold openR; rw [if_pos (by decide)]

set_option maxHeartbeats 400000 in
theorem awake_any (w : World) : Calls Try.prog 11 #[] w fun e w' => e = .returned (.bool true) ∧ Below w.heap.size w w' := by
  go_enter Try.func11, Try.ntmps11
  go_wp2_with fail
  refine (seal_any _ _ (by decide)).mono ?_
  rintro e w1 ⟨rfl, hb1⟩
  have K3 := Lib.hid k3
  have K4 := Lib.hid k4
  have hz : (Bs.mk (P5.sealL [97, 98, 99])).size ≤ 140737488355328 := by rw [show P5.sealL [97, 98, 99] = [183, 63, 75, 54, 97, 98, 99] from by decide +kernel]; decide
  go_wp2_with fail
  refine (open_any _ _ hz).mono ?_
  rintro e w2 ⟨rfl, hb2⟩
  rw [show openR (Bs.mk (P5.sealL (ByteArray.mk #[97, 98, 99]).data.toList)) = (.string ⟨#[97, 98, 99]⟩, .int .i64 0) from k3]
  go_wp2_with fail
  refine (open_any _ _ (by decide)).mono ?_
  rintro e w3 ⟨rfl, hb3⟩
  rw [k4]
  go_wp2_with fail
  refine (crc_any _ _ (by unfold maxLen; decide)).mono ?_
  rintro e w4 ⟨rfl, rfl⟩
  rw [show P5.crc (ByteArray.mk #[49, 50, 51, 52, 53, 54, 55, 56, 57]).data.toList = 3808858755 from k1]
  go_wp2_with fail
  refine (hash_any _ _ (by unfold maxLen; decide)).mono ?_
  rintro e w5 ⟨rfl, hb5⟩
  rw [show P5.fnv (ByteArray.mk #[97]).data.toList = 12638187200555641996 from k2]
  go_wp2
  go_ret
  exact ⟨rfl, (((hb1.trans (hb2.mono hb1.size)).trans (hb3.mono (Nat.le_trans hb1.size hb2.size)))).trans (hb5.mono (Nat.le_trans hb1.size (Nat.le_trans hb2.size hb3.size)))⟩

set_option maxHeartbeats 400000 in
theorem walk_ChecksumCrcs (s : ByteArray) (hs : s.size ≤ 140737488351232) (w : World) :
    Calls Try.prog 3 #[.string s] w fun e w' => e = .returned (.bool true) ∧ Below w.heap.size w w' := by
  go_enter Try.func3, Try.ntmps3
  go_wp2_with fail
  refine (crc_any _ _ (by unfold maxLen; omega)).mono ?_
  rintro e w1 ⟨rfl, rfl⟩
  go_wp2_with fail
  refine (rcrc_any _ _ (by unfold maxLen; omega)).mono ?_
  rintro e w1 ⟨rfl, rfl⟩
  go_wp2_with (go_at_call 11; refine (awake_any _).mono ?_; rintro e w2 ⟨rfl, hb⟩)
  go_ret
  exact ⟨rfl, hb⟩
end Go.Proofs.Ytoocfgpoboneoaa
