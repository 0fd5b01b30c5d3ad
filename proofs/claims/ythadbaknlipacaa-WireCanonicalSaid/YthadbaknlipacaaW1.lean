/- The walks of wire.Uint and the reference's, and of the two functions varint. -/
import Derived.Test.YthadbaknlipacaaRows
import Derived.Test.YthadbaknlipacaaPlain
namespace Go.Proofs.Ythadbaknlipacaa
open Go.RowKit
set_option linter.unusedVariables false

theorem Try.info5 : (Try.prog.info? 5).map (fun i => (i.zero, i.size, i.bytes)) = some (some (.int .u8 0), 1, 1) := by kernel_rfl

theorem Bs.Row.take {w : World} {g : Nat} {l : List Value} (h : Bs.Row w g l) (n : Nat) : Bs.Row w g (l.take n) := by
  obtain ⟨C, e, fz, hh, hc⟩ := h
  refine ⟨C, e, fz, hh, fun j hj => ?_⟩
  rw [List.length_take] at hj
  rw [List.getElem?_take, if_pos (by omega)]
  exact hc j (by omega)
theorem take_set_snoc {α : Type} (C : List α) (k : Nat) (x : α) (h : k < C.length) : (C.set k x).take (k + 1) = C.take k ++ [x] := by
  rw [List.take_succ_eq_append_getElem (by rw [List.length_set]; exact h), List.take_set_of_le (Nat.le_refl _), List.getElem_set_self]
theorem len62 : Try.prog.arrayLen 62 = 10 := by kernel_rfl
theorem or128 (m : Nat) : bits .or .u8 ((m : Int) % 256) 128 = ((UInt8.ofNat (128 + m % 128)).toNat : Int) := by
  have h : ∀ x : Fin 256, x.val ||| 128 = 128 + x.val % 128 := by decide +kernel
  have e := h ⟨m % 256, by omega⟩
  rw [show ((m : Int) % 256) = ((m % 256 : Nat) : Int) from by omega, show (128 : Int) = ((128 : Nat) : Int) from rfl, u8_or_nat _ _ (by omega) (by omega), P4.ofNat_lt (by omega)]
  simp only at e
  rw [e]
  congr 2
  omega

set_option maxRecDepth 100000 in
set_option maxHeartbeats 400000 in
theorem uint_any (n : Nat) (w : World) (hn : n < 18446744073709551616) :
    Calls Try.prog 11 #[.int .u64 n] w fun e w' => e = .returned (.string (Bs.mk (P4.venc n))) ∧ Below w.heap.size w w' := by
  have HN := Lib.hid hn
  clear hn
  go_enter Try.func11, Try.ntmps11
  go_wp2
  go_loopw [0, 4] (fun x i wr => ∃ (k m : Nat) (C : List UInt8), k ≤ 9 ∧ i = .int .i64 k ∧ x = .int .u64 m ∧ m < 18446744073709551616 ∧ m < 2 * 128 ^ (9 - k) ∧ C.length = 10 ∧ C.take k ++ P4.vE (9 - k) m = P4.venc n ∧ Bs.Row wr w.heap.size (C.map Bs.byteV) ∧ Below w.heap.size w wr) (fun _ i _ => 9 - (intOf i).toNat)
  case atStart =>
    refine ⟨0, n, List.replicate 10 0, by omega, rfl, rfl, HN.out, by have := HN.out; omega, rfl, rfl, ?_, Bs.al (Bs.rf w) _⟩
    exact ⟨_, _, _, Array.getElem?_push_size, fun j hj => ⟨by rw [← Array.getElem?_toList]; rfl, by simp⟩⟩
  case round =>
    obtain ⟨k, m, C, hk, rfl, rfl, hm64, hm, hC, hE, hrow, hbel⟩ := hrel
    by_cases hge : 128 ≤ m
    · have hk8 : k ≤ 8 := by
        rcases Nat.lt_or_ge k 9 with h | h
        · omega
        · have : k = 9 := by omega
          subst this; simp at hm; omega
      have HE := Lib.hid hE
      have HC := Lib.hid hC
      have HM := Lib.hid hm
      clear hE hC hm
      have hcell := hrow.cell (j := k) (v := Bs.byteV (C[k]'(by rw [HC.out]; omega))) (by rw [List.getElem?_map, List.getElem?_eq_getElem]; rfl)
      have hfree := hrow.free (j := k) (by rw [List.length_map, HC.out]; omega)
      have hlt : k < C.length := by rw [HC.out]; omega
      go_wp2
      go_roundw
      case rel =>
        refine ⟨k + 1, m / 128, C.set k (UInt8.ofNat (128 + m % 128)), by omega, by go_num, Bs.val_int (by omega), by omega, ?_, by rw [List.length_set]; exact HC.out, ?_, ?_, hbel.setCell (Nat.le_refl _) _⟩
        · have hm := HM.out
          rw [show 9 - k = (9 - (k + 1)) + 1 from by omega, Nat.pow_succ] at hm
          omega
        · rw [take_set_snoc C k _ hlt, ← HE.out, show 9 - k = (9 - (k + 1)) + 1 from by omega]
          conv => rhs; rw [P4.vE, if_neg (by omega)]
          simp
        · rw [or128, List.map_set]
          exact hrow.set k _
      case measure => simp [intOf]; omega
    · have hlt : k < C.length := by omega
      have hfree := hrow.free (j := k) (by rw [List.length_map]; exact hlt)
      have hcell := hrow.cell (j := k) (v := Bs.byteV C[k]) (by rw [List.getElem?_map, List.getElem?_eq_getElem]; rfl)
      have hrow2 := Bs.Row.take (hrow.set k (Bs.byteV (UInt8.ofNat m))) (k + 1)
      rw [← List.map_set, ← List.map_take, take_set_snoc C k _ hlt] at hrow2
      have hbv : Bs.byteV (UInt8.ofNat m) = .int .u8 (m : Int) := by unfold Bs.byteV; rw [P4.ofNat_lt (by omega)]
      rw [hbv] at hrow2
      have hl : (C.take k ++ [UInt8.ofNat m]).length = k + 1 := by rw [List.length_append, List.length_take, hC, Nat.min_eq_left (by omega)]; rfl
      have hcv : ∀ T, Try.prog.underlying T = some .string → (convert 64 T (.slice (some ⟨w.heap.size, 0, none⟩) (k + 1) 10)).run Try.prog (wr.setCell ⟨w.heap.size, k, none⟩ (.int .u8 (m : Int))) = _ := fun T hT =>
        Bs.run_convert_row (P := Try.prog) 64 T 5 Try.underlying64 Try.underlying5 hT (k + 1) 10 hl.symm hrow2
      have HE := Lib.hid (show C.take k ++ [UInt8.ofNat m] = P4.venc n by
        rw [← hE]
        congr 1
        rcases Nat.eq_zero_or_pos (9 - k) with h | h
        · rw [h]; rfl
        · rw [show 9 - k = (8 - k) + 1 from by omega]; unfold P4.vE; rw [if_pos (by omega)])
      clear hE hm hrow2 hbv hl
      generalize C.take k ++ [UInt8.ofNat m] = D at *
      have hsl : ∀ W, (Instr.sliceAt 62 (.pointer (some ⟨w.heap.size, 0, none⟩)) none (some (.int .i64 ((k : Int) + 1))) none).run Try.prog W = .ok (.slice (some ⟨w.heap.size, 0, none⟩) (k + 1) 10) W := fun W => by
        have := run_sliceAt_array_h (P := Try.prog) W 62 ⟨w.heap.size, 0, none⟩ Try.underlying62 .i64 ((k : Int) + 1) (by omega) (by rw [len62]; omega)
        rw [this, len62]
        go_simp
      go_wp2
      go_ret
      exact ⟨Bs.ret_str (by rw [HE.out]), hbel.setCell (Nat.le_refl _) _⟩
end Go.Proofs.Ythadbaknlipacaa
