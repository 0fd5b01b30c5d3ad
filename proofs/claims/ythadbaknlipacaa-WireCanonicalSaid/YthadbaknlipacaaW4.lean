/- The walks of a reader's other methods, and of the writers. -/
import Derived.Test.YthadbaknlipacaaW3
import Derived.Test.YthadbaknlipacaaPlain2
import Derived.Deep.QuietTactic
import Derived.BigQuiet
namespace Go.Proofs.Ythadbaknlipacaa
open Go.RowKit
set_option linter.unusedVariables false

set_option maxHeartbeats 400000 in
theorem new_any (s : ByteArray) (w : World) :
    Calls Try.prog 17 #[.string s] w fun r w' => r = .returned (.pointer (some ⟨w.heap.size, 0, none⟩)) ∧ w' = w.alloc (.cells #[.string s, .int .i64 0, .int .i64 0] 67) := by
  go_enter Try.func17, Try.ntmps17
  go_wp2
  go_ret
  exact ⟨rfl, rfl⟩

set_option maxHeartbeats 400000 in
theorem left_any (p : Nat) (s : ByteArray) (a e : Nat) (w : World) (h : Rd w p s a e) (ha : a ≤ s.size) (hs : s.size ≤ 140737488355328) :
    Calls Try.prog 21 #[.pointer (some ⟨p, 0, none⟩)] w fun r w' => r = .returned (.int .i64 ((s.size - a : Nat) : Int)) ∧ (∃ n, w' = w.drewN n) := by
  have c0 := h.c0
  have c1 := h.c1
  have H := Lib.hid h
  clear h
  have ha' : (a : Int) ≤ (s.size : Int) := by omega
  go_enter Try.func21, Try.ntmps21
  go_wp2
  go_quiet (fail)
  go_wp2
  go_ret
  exact ⟨Bs.ret_int (by omega), _, rfl⟩

set_option maxHeartbeats 400000 in
theorem err_any (p : Nat) (s : ByteArray) (a e : Nat) (w : World) (h : Rd w p s a e) :
    Calls Try.prog 22 #[.pointer (some ⟨p, 0, none⟩)] w fun r w' => r = .returned (.int .i64 (e : Int)) ∧ w' = w := by
  have c2 := h.c2
  have H := Lib.hid h
  clear h
  go_enter Try.func22, Try.ntmps22
  go_wp2
  go_ret
  exact ⟨rfl, rfl⟩

def endV (s : ByteArray) (a e : Nat) : Nat := if e = 0 then (if a < s.size then 3 else 0) else e
set_option maxHeartbeats 400000 in
theorem end_any (p : Nat) (s : ByteArray) (a e : Nat) (w : World) (h : Rd w p s a e) (ha : a ≤ s.size) (hs : s.size ≤ 140737488355328) :
    Calls Try.prog 29 #[.pointer (some ⟨p, 0, none⟩)] w fun r w' => r = .returned (.int .i64 ((endV s a e : Nat) : Int)) ∧ (∃ n, w' = w.drewN n) := by
  have H := Lib.hid h
  clear h
  by_cases he : e = 0
  · subst he
    by_cases hl : a < s.size
    · have HV := Lib.hid (show endV s a 0 = 3 by unfold endV; rw [if_pos rfl, if_pos hl])
      have h0 : (1 : Int) ≤ ((s.size - a : Nat) : Int) := by omega
      go_enter Try.func29, Try.ntmps29
      go_wp2_with (first | (go_at_call 22; refine (err_any p s a 0 _ H.out).mono ?_; rintro r w' ⟨rfl, rfl⟩) | (go_at_call 21; refine (left_any p s a 0 _ H.out ha hs).mono ?_; rintro r w' ⟨rfl, n, rfl⟩))
      go_ret
      exact ⟨Bs.ret_int (by rw [HV.out]; rfl), _, rfl⟩
    · have HV := Lib.hid (show endV s a 0 = 0 by unfold endV; rw [if_pos rfl, if_neg hl])
      have h0 : ((s.size - a : Nat) : Int) ≤ 0 := by omega
      go_enter Try.func29, Try.ntmps29
      go_wp2_with (first | (go_at_call 22; refine (err_any p s a 0 _ H.out).mono ?_; rintro r w' ⟨rfl, rfl⟩) | (go_at_call 21; refine (left_any p s a 0 _ H.out ha hs).mono ?_; rintro r w' ⟨rfl, n, rfl⟩))
      go_ret
      exact ⟨Bs.ret_int (by rw [HV.out]; rfl), _, rfl⟩
  · have HV := Lib.hid (show endV s a e = e by unfold endV; rw [if_neg he])
    have h1 : 1 ≤ e := by omega
    clear he
    go_enter Try.func29, Try.ntmps29
    go_wp2_with (first | (go_at_call 22; refine (err_any p s a e _ H.out).mono ?_; rintro r w' ⟨rfl, rfl⟩))
    go_ret
    exact ⟨Bs.ret_int (by rw [HV.out]), 0, rfl⟩

theorem rdU_lt (s : ByteArray) (a e : Nat) : (rdU s a e).1 < 18446744073709551616 := by
  unfold rdU
  split
  · split
    · rename_i h
      exact (P4.vdec_ok (show P4.vdec (s.data.toList.drop a) = (_, _, 0) by rw [← h])).1
    · simp only; omega
  · simp only; omega

set_option maxHeartbeats 400000 in
theorem rInt_any (p : Nat) (s : ByteArray) (a e : Nat) (w : World) (h : Rd w p s a e) (ha : a ≤ s.size) (hs : s.size ≤ 140737488355328) :
    Calls Try.prog 19 #[.pointer (some ⟨p, 0, none⟩)] w fun r w' => r = .returned (.int .i64 (P4.unzz (rdU s a e).1)) ∧ But p w w' ∧ Rd w' p s (rdU s a e).2.1 (rdU s a e).2.2 := by
  have H := Lib.hid h
  clear h
  have HZ := Lib.hid (P4.zag _ (rdU_lt s a e))
  go_enter Try.func19, Try.ntmps19
  go_wp2_with fail
  refine (rUint_any p s a e _ H.out ha hs).mono ?_
  rintro r w' ⟨rfl, hB, hR⟩
  have HB := Lib.hid hB
  have HR := Lib.hid hR
  clear hB hR
  go_wp2
  go_ret
  exact ⟨Bs.ret_int HZ.out, HB.out, HR.out⟩

theorem i64_bd (m : Int) (wm : (Lit.int .i64 m).wf = true) : -9223372036854775808 ≤ m ∧ m ≤ 9223372036854775807 := by
  simpa [Lit.wf, IntKind.min, IntKind.max, IntKind.signed, IntKind.bits] using wm

set_option maxHeartbeats 400000 in
theorem int_any (m : Int) (w : World) (wm : (Lit.int .i64 m).wf = true) :
    Calls Try.prog 13 #[.int .i64 m] w fun e w' => e = .returned (.string (Bs.mk (P4.venc (P4.zz m)))) ∧ Below w.heap.size w w' := by
  obtain ⟨h1, h2⟩ := i64_bd m wm
  have HZ := Lib.hid (P4.zig m h1 h2)
  have HL := Lib.hid (P4.zz_lt m h1 h2)
  clear h1 h2
  go_enter Try.func13, Try.ntmps13
  go_wp2_with fail
  rw [HZ.out]
  refine (uint_any _ _ HL.out).mono ?_
  rintro r w' ⟨rfl, hB⟩
  go_wp2
  go_ret
  exact ⟨rfl, hB⟩

set_option maxHeartbeats 400000 in
theorem zigzag_any (m : Int) (w : World) (wm : (Lit.int .i64 m).wf = true) :
    Calls Try.prog 32 #[.int .i64 m] w fun e w' => e = .returned (.int .u64 (P4.zz m : Nat)) ∧ w' = w := by
  obtain ⟨h1, h2⟩ := i64_bd m wm
  by_cases hm : m < 0
  · have HZ := Lib.hid (show 2 * -(m + 1) + 1 = ((P4.zz m : Nat) : Int) by unfold P4.zz; rw [if_pos hm]; omega)
    go_enter Try.func32, Try.ntmps32
    go_wp2
    go_ret
    exact ⟨Bs.ret_int HZ.out, rfl⟩
  · have HZ := Lib.hid (show 2 * m = ((P4.zz m : Nat) : Int) by unfold P4.zz; rw [if_neg hm]; omega)
    go_enter Try.func32, Try.ntmps32
    go_wp2
    go_ret
    exact ⟨Bs.ret_int HZ.out, rfl⟩

theorem conv1 (W : World) (b : UInt8) :
    (convert 64 9 (.slice (some ⟨W.heap.size, 0, none⟩) 1 1)).run Try.prog (W.alloc (.cells #[.int .u8 (b.toNat : Int)] 5)) = .ok (.string (Bs.mk [b])) (W.alloc (.cells #[.int .u8 (b.toNat : Int)] 5)) := by
  refine run_convert_bytes_back _ 64 9 5 _ 1 [b] Try.underlying64 Try.underlying5 Try.underlying9 fun j hj => ?_
  have : j = 0 := by simp at hj; omega
  subst this
  simp [Addr.add]

set_option maxRecDepth 100000 in
set_option maxHeartbeats 400000 in
theorem ruint_any (n : Nat) (w : World) (hn : n < 18446744073709551616) :
    Calls Try.prog 12 #[.int .u64 n] w fun e w' => e = .returned (.string (Bs.mk (P4.venc n))) ∧ Below w.heap.size w w' := by
  have HN := Lib.hid hn
  clear hn
  have hcv := conv1
  go_enter Try.func12, Try.ntmps12
  go_wp2
  go_loopw [0, 3] (fun x t wr => ∃ (k m : Nat) (C : List UInt8), k ≤ 9 ∧ t = .string (Bs.mk C) ∧ x = .int .u64 m ∧ m < 18446744073709551616 ∧ m < 2 * 128 ^ (9 - k) ∧ C.length = k ∧ C ++ P4.vE (9 - k) m = P4.venc n ∧ Below w.heap.size w wr) (fun x _ _ => (intOf x).toNat)
  case atStart => exact ⟨0, n, [], by omega, rfl, rfl, HN.out, by have := HN.out; omega, rfl, rfl, Bs.rf w⟩
  case round =>
    obtain ⟨k, m, C, hk, rfl, rfl, hm64, hm, hC, hE, hbel⟩ := hrel
    have hsz : (Bs.mk C).size ≤ 9 := by rw [Bs.mk_size, hC]; exact hk
    have hz1 : ∀ b : UInt8, (Bs.mk [b]).size ≤ 1 := fun b => by rw [Bs.mk_size]; exact Nat.le_refl _
    by_cases hge : 128 ≤ m
    · have hk8 : k ≤ 8 := by
        rcases Nat.lt_or_ge k 9 with h | h
        · omega
        · have : k = 9 := by omega
          subst this; simp at hm; omega
      have HE := Lib.hid hE
      have HC := Lib.hid hC
      have HM := Lib.hid hm
      obtain ⟨b, hb⟩ : ∃ b : UInt8, b = UInt8.ofNat (128 + m % 128) := ⟨_, rfl⟩
      have hbv : (128 + (m : Int) % 128) = (b.toNat : Int) := by rw [hb, P4.ofNat_lt (by omega)]; omega
      have HB := Lib.hid hb
      have hzb := hz1 b
      clear hE hC hm hb hz1
      go_wp2
      go_roundw
      case rel =>
        refine ⟨k + 1, m / 128, C ++ [b], by omega, by rw [Bs.mk_append'], Bs.val_int (by omega), by omega, ?_, by rw [List.length_append, HC.out]; rfl, ?_, Bs.al hbel _⟩
        · have hm := HM.out
          rw [show 9 - k = (9 - (k + 1)) + 1 from by omega, Nat.pow_succ] at hm
          omega
        · rw [← HE.out, show 9 - k = (9 - (k + 1)) + 1 from by omega, HB.out]
          conv => rhs; rw [P4.vE, if_neg (by omega)]
          simp
      case measure => simp [intOf]; omega
    · obtain ⟨b, hb⟩ : ∃ b : UInt8, b = UInt8.ofNat m := ⟨_, rfl⟩
      have hbv : ((m : Int) % 256) = (b.toNat : Int) := by rw [hb, P4.ofNat_lt (by omega)]; omega
      have hbv2 : (m : Int) = (b.toNat : Int) := by rw [hb, P4.ofNat_lt (by omega)]
      have HE := Lib.hid (show Bs.mk C ++ Bs.mk [b] = Bs.mk (P4.venc n) by
        rw [Bs.mk_append', ← hE, hb]
        congr 2
        rcases Nat.eq_zero_or_pos (9 - k) with h | h
        · rw [h]; rfl
        · rw [show 9 - k = (8 - k) + 1 from by omega]; unfold P4.vE; rw [if_pos (by omega)])
      have hzb := hz1 b
      have hbl : b.toNat < 128 := by rw [hb, P4.ofNat_lt (by omega)]; omega
      have HV2 := Lib.hid hbv2
      clear hE hC hm hb hz1 hbv hbv2
      rw [show Value.int IntKind.u64 (m : Int) = Value.int IntKind.u64 (b.toNat : Int) from by rw [HV2.out]]
      go_wp2
      go_ret
      exact ⟨Bs.ret_str HE.out, Bs.al hbel _⟩
end Go.Proofs.Ythadbaknlipacaa
