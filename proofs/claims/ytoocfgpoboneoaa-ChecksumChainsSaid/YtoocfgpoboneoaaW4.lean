/- The walks of Seal and Open. -/
import Derived.Test.YtoocfgpoboneoaaW3
import Derived.Deep.RegionWith
namespace Go.Proofs.Ytoocfgpoboneoaa
open Go.RowKit

theorem conv4 (W : World) (b0 b1 b2 b3 : UInt8) (c4 c5 c6 c7 : Value) :
    (convert 28 9 (.slice (some ⟨W.heap.size, 0, none⟩) 4 8)).run Try.prog (W.alloc (.cells #[.int .u8 (b0.toNat : Int), .int .u8 (b1.toNat : Int), .int .u8 (b2.toNat : Int), .int .u8 (b3.toNat : Int), c4, c5, c6, c7] 46)) =
      .ok (.string (Bs.mk [b0, b1, b2, b3])) (W.alloc (.cells #[.int .u8 (b0.toNat : Int), .int .u8 (b1.toNat : Int), .int .u8 (b2.toNat : Int), .int .u8 (b3.toNat : Int), c4, c5, c6, c7] 46)) := by
  refine run_convert_bytes_back _ 28 9 5 _ 8 [b0, b1, b2, b3] Try.underlying28 Try.underlying5 Try.underlying9 fun j hj => ?_
  have : j = 0 ∨ j = 1 ∨ j = 2 ∨ j = 3 := by simp at hj; omega
  rcases this with rfl | rfl | rfl | rfl <;> simp [Addr.add]

set_option maxHeartbeats 400000 in
theorem seal_any (s : ByteArray) (w : World) (hs : s.size ≤ 140737488355328) :
    Calls Try.prog 14 #[.string s] w fun e w' => e = .returned (.string (Bs.mk (P5.sealL s.data.toList))) ∧ Below w.heap.size w w' := by
  have HL : Hid (∀ b0 b1 b2 b3, P5.le 4 (P5.crc s.data.toList) = [b0, b1, b2, b3] → Bs.mk [b0, b1, b2, b3] ++ s = Bs.mk (P5.sealL s.data.toList)) :=
    Lib.hid fun b0 b1 b2 b3 h => by rw [P5.sealL, h, Bs.mk_append]
  have hsz : ∀ b0 b1 b2 b3, (Bs.mk [b0, b1, b2, b3]).size = 4 := fun b0 b1 b2 b3 => by rw [Bs.mk_size]; rfl
  have hcr := P5.crc_lt s.data.toList
  have hcv := conv4
  go_enter Try.func14, Try.ntmps14
  go_wp2_with fail
  refine (crc_any _ _ (by unfold maxLen; omega)).mono ?_
  rintro e w' ⟨rfl, rfl⟩
  go_wp2_with fail
  refine (eight4_any _ _ hcr).mono ?_
  rintro e w1 ⟨⟨b0, b1, b2, b3, hl, rfl⟩, hb⟩
  have HL' := Lib.hid (HL.out b0 b1 b2 b3 hl)
  clear hl HL
  go_wp2
  go_ret
  exact ⟨Bs.ret_str HL'.out, hb.alloc hb.size _⟩

set_option maxHeartbeats 400000 in
theorem rseal_any (s : ByteArray) (w : World) (hs : s.size ≤ 140737488355328) :
    Calls Try.prog 16 #[.string s] w fun e w' => e = .returned (.string (Bs.mk (P5.sealL s.data.toList))) ∧ Below w.heap.size w w' := by
  have HL := Lib.hid (show Bs.mk (P5.le 4 (P5.crc s.data.toList)) ++ s = Bs.mk (P5.sealL s.data.toList) by rw [P5.sealL, Bs.mk_append])
  have hsz : (Bs.mk (P5.le 4 (P5.crc s.data.toList))).size ≤ 8 := by rw [Bs.mk_size, P5.le_length]; omega
  have hcr := P5.crc_lt s.data.toList
  go_enter Try.func16, Try.ntmps16
  go_wp2_with fail
  refine (rcrc_any _ _ (by unfold maxLen; omega)).mono ?_
  rintro e w' ⟨rfl, rfl⟩
  go_wp2_with fail
  refine (bytes_any _ 4 _ (by omega) (by omega)).mono ?_
  rintro e w1 ⟨rfl, hb⟩
  go_wp2
  go_ret
  exact ⟨Bs.ret_str HL.out, hb⟩

/-- What Open returns. -/
def openR (s : ByteArray) : Value × Value :=
  if s.size < 4 then (.string ⟨#[]⟩, .int .i64 1) else if Bs.mk (P5.sealL (s.extract 4 s.size).data.toList) = s then (.string (s.extract 4 s.size), .int .i64 0) else (.string ⟨#[]⟩, .int .i64 11)

theorem openR_of (s : ByteArray) (h : ¬ s.size < 4) : (Bs.mk (P5.sealL (s.extract 4 s.size).data.toList) = s → openR s = (.string (s.extract 4 s.size), .int .i64 0)) ∧ (Bs.mk (P5.sealL (s.extract 4 s.size).data.toList) ≠ s → openR s = (.string ⟨#[]⟩, .int .i64 11)) := by
  unfold openR
  rw [if_neg h]
  exact ⟨fun e => if_pos e, fun e => if_neg e⟩

set_option maxHeartbeats 400000 in
theorem open_any (s : ByteArray) (w : World) (hs : s.size ≤ 140737488355328) :
    Calls Try.prog 15 #[.string s] w fun e w' => e = .returned (.tuple #[(openR s).1, (openR s).2]) ∧ Below w.heap.size w w' := by
  by_cases h4 : s.size < 4
  · have HR := Lib.hid (show openR s = (.string ⟨#[]⟩, .int .i64 1) by unfold openR; rw [if_pos h4])
    go_enter Try.func15, Try.ntmps15
    go_wp2
    go_ret2
    exact ⟨by rw [HR.out]; rfl, Below.refl _ _⟩
  · have hse : (s.extract 4 s.size).size ≤ 140737488355328 := by rw [ByteArray.size_extract]; omega
    have hR := Lib.hid (openR_of s h4)
    go_enter Try.func15, Try.ntmps15
    go_wp2_with fail
    refine (seal_any _ _ hse).mono ?_
    rintro e w1 ⟨rfl, hb⟩
    generalize Bs.mk (P5.sealL (s.extract 4 s.size).data.toList) = t at *
    go_wp2
    · have hne := Bs.ne_of_ne_true (by assumption)
      have HR := Lib.hid (hR.out.2 hne)
      go_ret2
      exact ⟨by rw [HR.out]; rfl, hb⟩
    · have heq := Bs.eq_of_ne_false (by assumption)
      have HR := Lib.hid (hR.out.1 heq)
      go_ret2
      exact ⟨by rw [HR.out]; rfl, hb⟩

set_option maxHeartbeats 400000 in
theorem ropen_any (s : ByteArray) (w : World) (hs : s.size ≤ 140737488355328) :
    Calls Try.prog 17 #[.string s] w fun e w' => e = .returned (.tuple #[(openR s).1, (openR s).2]) ∧ Below w.heap.size w w' := by
  by_cases h4 : s.size < 4
  · have HR := Lib.hid (show openR s = (.string ⟨#[]⟩, .int .i64 1) by unfold openR; rw [if_pos h4])
    go_enter Try.func17, Try.ntmps17
    go_wp2
    go_ret2
    exact ⟨by rw [HR.out]; rfl, Below.refl _ _⟩
  · have hse : (s.extract 4 s.size).size ≤ 140737488355328 := by rw [ByteArray.size_extract]; omega
    have hR := Lib.hid (openR_of s h4)
    go_enter Try.func17, Try.ntmps17
    go_wp2_with fail
    refine (rseal_any _ _ hse).mono ?_
    rintro e w1 ⟨rfl, hb⟩
    generalize Bs.mk (P5.sealL (s.extract 4 s.size).data.toList) = t at *
    go_wp2
    · have hne := Bs.ne_of_ne_true (by assumption)
      have HR := Lib.hid (hR.out.2 hne)
      go_ret2
      exact ⟨by rw [HR.out]; rfl, hb⟩
    · have heq := Bs.eq_of_ne_false (by assumption)
      have HR := Lib.hid (hR.out.1 heq)
      go_ret2
      exact ⟨by rw [HR.out]; rfl, hb⟩

set_option maxHeartbeats 400000 in
theorem link_any (x : Nat) (s : ByteArray) (w : World) (hx : x < 18446744073709551616) (hs : s.size ≤ 140737488355328) :
    Calls Try.prog 20 #[.int .u64 x, .string s] w fun e w' => e = .returned (.string (Bs.mk (P5.linkL x s.data.toList))) ∧ Below w.heap.size w w' := by
  have HL := Lib.hid (show Bs.mk (P5.le 8 x) ++ Bs.mk (P5.le 8 s.size) ++ s = Bs.mk (P5.linkL x s.data.toList) by rw [P5.linkL, Bs.mk_append', Bs.mk_append, List.append_assoc, Bs.len_list])
  have hsz : (Bs.mk (P5.le 8 x)).size ≤ 8 := by rw [Bs.mk_size, P5.le_length]; omega
  have hsz2 : (Bs.mk (P5.le 8 s.size)).size ≤ 8 := by rw [Bs.mk_size, P5.le_length]; omega
  have hsz3 : (Bs.mk (P5.le 8 x) ++ Bs.mk (P5.le 8 s.size)).size ≤ 16 := by rw [ByteArray.size_append]; omega
  go_enter Try.func20, Try.ntmps20
  go_wp2_with fail
  refine (bytes_any _ 8 _ (by omega) hx).mono ?_
  rintro e w1 ⟨rfl, hb⟩
  go_wp2_with fail
  refine (bytes_any _ 8 _ (by omega) (by omega)).mono ?_
  rintro e w2 ⟨rfl, hb2⟩
  go_wp2
  go_ret
  exact ⟨Bs.ret_str HL.out, hb.trans (hb2.mono hb.size)⟩

set_option maxHeartbeats 400000 in
theorem rchain_any (x : Nat) (s : ByteArray) (w : World) (hx : x < 18446744073709551616) (hs : s.size ≤ 140737488355328) :
    Calls Try.prog 22 #[.int .u64 x, .string s] w fun e w' => e = .returned (.int .u64 (P5.chain x s.data.toList)) ∧ Below w.heap.size w w' := by
  have hsz : (Bs.mk (P5.linkL x s.data.toList)).size ≤ maxLen := by rw [Bs.mk_size, P5.linkL_length, Bs.len_list]; unfold maxLen; omega
  go_enter Try.func22, Try.ntmps22
  go_wp2_with fail
  refine (link_any _ _ _ hx hs).mono ?_
  rintro e w1 ⟨rfl, hb⟩
  go_wp2_with fail
  refine (rhash_any _ _ hsz).mono ?_
  rintro e w2 ⟨rfl, rfl⟩
  go_wp2
  go_ret
  exact ⟨rfl, hb⟩

theorem conv8 (W : World) (i : Nat) (b0 b1 b2 b3 b4 b5 b6 b7 : UInt8)
    (hc : W.heap[i]? = some (.cells #[.int .u8 (b0.toNat : Int), .int .u8 (b1.toNat : Int), .int .u8 (b2.toNat : Int), .int .u8 (b3.toNat : Int), .int .u8 (b4.toNat : Int), .int .u8 (b5.toNat : Int), .int .u8 (b6.toNat : Int), .int .u8 (b7.toNat : Int)] 46 (0, 0))) :
    (convert 28 9 (.slice (some ⟨i, 0, none⟩) 8 8)).run Try.prog W = .ok (.string (Bs.mk [b0, b1, b2, b3, b4, b5, b6, b7])) W := by
  refine run_convert_bytes_back _ 28 9 5 _ 8 [b0, b1, b2, b3, b4, b5, b6, b7] Try.underlying28 Try.underlying5 Try.underlying9 fun j hj => ?_
  have : j = 0 ∨ j = 1 ∨ j = 2 ∨ j = 3 ∨ j = 4 ∨ j = 5 ∨ j = 6 ∨ j = 7 := by simp at hj; omega
  rcases this with rfl | rfl | rfl | rfl | rfl | rfl | rfl | rfl <;> simp [Addr.add, World.cell?, hc]

theorem conv8a (W : World) (X : Obj) (b0 b1 b2 b3 b4 b5 b6 b7 : UInt8) :
    (convert 28 9 (.slice (some ⟨W.heap.size, 0, none⟩) 8 8)).run Try.prog ((W.alloc (.cells #[.int .u8 (b0.toNat : Int), .int .u8 (b1.toNat : Int), .int .u8 (b2.toNat : Int), .int .u8 (b3.toNat : Int), .int .u8 (b4.toNat : Int), .int .u8 (b5.toNat : Int), .int .u8 (b6.toNat : Int), .int .u8 (b7.toNat : Int)] 46)).alloc X).drew =
      .ok (.string (Bs.mk [b0, b1, b2, b3, b4, b5, b6, b7])) ((W.alloc (.cells #[.int .u8 (b0.toNat : Int), .int .u8 (b1.toNat : Int), .int .u8 (b2.toNat : Int), .int .u8 (b3.toNat : Int), .int .u8 (b4.toNat : Int), .int .u8 (b5.toNat : Int), .int .u8 (b6.toNat : Int), .int .u8 (b7.toNat : Int)] 46)).alloc X).drew := by
  refine conv8 _ _ b0 b1 b2 b3 b4 b5 b6 b7 ?_
  exact Bs.push2_at W.heap _ X
theorem conv8b (W : World) (X : Obj) (b0 b1 b2 b3 b4 b5 b6 b7 : UInt8) :
    (convert 28 9 (.slice (some ⟨W.heap.size + 1, 0, none⟩) 8 8)).run Try.prog ((W.alloc X).alloc (.cells #[.int .u8 (b0.toNat : Int), .int .u8 (b1.toNat : Int), .int .u8 (b2.toNat : Int), .int .u8 (b3.toNat : Int), .int .u8 (b4.toNat : Int), .int .u8 (b5.toNat : Int), .int .u8 (b6.toNat : Int), .int .u8 (b7.toNat : Int)] 46)).drew =
      .ok (.string (Bs.mk [b0, b1, b2, b3, b4, b5, b6, b7])) ((W.alloc X).alloc (.cells #[.int .u8 (b0.toNat : Int), .int .u8 (b1.toNat : Int), .int .u8 (b2.toNat : Int), .int .u8 (b3.toNat : Int), .int .u8 (b4.toNat : Int), .int .u8 (b5.toNat : Int), .int .u8 (b6.toNat : Int), .int .u8 (b7.toNat : Int)] 46)).drew := by
  refine conv8 _ _ b0 b1 b2 b3 b4 b5 b6 b7 ?_
  exact Bs.push2_at1 W.heap X _

set_option maxHeartbeats 400000 in
theorem chain_any (x : Nat) (s : ByteArray) (w : World) (hx : x < 18446744073709551616) (hs : s.size ≤ 140737488355328) :
    Calls Try.prog 21 #[.int .u64 x, .string s] w fun e w' => e = .returned (.int .u64 (P5.chain x s.data.toList)) ∧ Below w.heap.size w w' := by
  go_enter Try.func21, Try.ntmps21
  go_wp2_with fail
  refine (eight8_any _ _ hx).mono ?_
  rintro e w1 ⟨⟨a0, a1, a2, a3, a4, a5, a6, a7, hla, rfl⟩, hb⟩
  have HLA := Lib.hid hla
  clear hla
  go_wp2_with fail
  refine (eight8_any _ _ (by omega)).mono ?_
  rintro e w2 ⟨⟨b0, b1, b2, b3, b4, b5, b6, b7, hlb, rfl⟩, hb2⟩
  have HLB := Lib.hid hlb
  clear hlb
  have hca := conv8a w2
  have hcb := conv8b w2
  have hz1 : (Bs.mk [a0, a1, a2, a3, a4, a5, a6, a7]).size ≤ 8 := by rw [Bs.mk_size]; exact Nat.le_refl _
  have hz2 : (Bs.mk [b0, b1, b2, b3, b4, b5, b6, b7]).size ≤ 8 := by rw [Bs.mk_size]; exact Nat.le_refl _
  have hz3 : (Bs.mk [a0, a1, a2, a3, a4, a5, a6, a7] ++ Bs.mk [b0, b1, b2, b3, b4, b5, b6, b7]).size ≤ 16 := by rw [ByteArray.size_append]; omega
  have hz4 : (Bs.mk [a0, a1, a2, a3, a4, a5, a6, a7] ++ Bs.mk [b0, b1, b2, b3, b4, b5, b6, b7] ++ s).size ≤ maxLen := by rw [ByteArray.size_append]; unfold maxLen; omega
  have HE := Lib.hid (show P5.fnv ((Bs.mk [a0, a1, a2, a3, a4, a5, a6, a7]).data.toList ++ ((Bs.mk [b0, b1, b2, b3, b4, b5, b6, b7]).data.toList ++ s.data.toList)) = P5.chain x s.data.toList by
    rw [P5.chain, P5.linkL, HLA.out, Bs.len_list, HLB.out, Bs.mk_list, Bs.mk_list])
  go_wp2
  go_region_with (go_at_call 12; refine (hash_any _ _ hz4).mono ?_; rintro e w3 ⟨rfl, hb3⟩)
  all_goals (go_wp2; go_ret)
  all_goals exact ⟨Bs.ret_int (by rw [HE.out]), ((((hb.trans (hb2.mono hb.size)).alloc (Nat.le_trans hb.size hb2.size) _).alloc (by have := hb.size; have := hb2.size; simp; omega) _).drew).trans (hb3.mono (by have := hb.size; have := hb2.size; simp; omega))⟩
end Go.Proofs.Ytoocfgpoboneoaa
