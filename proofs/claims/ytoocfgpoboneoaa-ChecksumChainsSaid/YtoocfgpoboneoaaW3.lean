/- The walks of eight and Bytes: the bytes of a number, least significant first. -/
import Derived.Test.YtoocfgpoboneoaaW2
import Derived.Test.YtoocfgpoboneoaaBase
namespace Go.Proofs.Ytoocfgpoboneoaa
open Go.RowKit

theorem Try.info5 : (Try.prog.info? 5).map (fun i => (i.zero, i.size, i.bytes)) = some (some (.int .u8 0), 1, 1) := by kernel_rfl

theorem Try.le4 (n : Nat) (hn : n < 4294967296) : ∃ b0 b1 b2 b3 : UInt8, P5.le 4 n = [b0, b1, b2, b3] ∧ (b0.toNat : Int) = (n : Int) % 256 ∧ (b1.toNat : Int) = (n : Int) / 256 % 256 ∧ (b2.toNat : Int) = (n : Int) / 65536 % 256 ∧ (b3.toNat : Int) = (n : Int) / 16777216 := by
  refine ⟨_, _, _, _, rfl, ?_, ?_, ?_, ?_⟩ <;> rw [P5.byte_mod] <;> omega

theorem Try.le8 (n : Nat) (hn : n < 18446744073709551616) : ∃ b0 b1 b2 b3 b4 b5 b6 b7 : UInt8, P5.le 8 n = [b0, b1, b2, b3, b4, b5, b6, b7] ∧ (b0.toNat : Int) = (n : Int) % 256 ∧ (b1.toNat : Int) = (n : Int) / 256 % 256 ∧ (b2.toNat : Int) = (n : Int) / 65536 % 256 ∧ (b3.toNat : Int) = (n : Int) / 16777216 % 256 ∧
    (b4.toNat : Int) = (n : Int) / 4294967296 % 256 ∧ (b5.toNat : Int) = (n : Int) / 1099511627776 % 256 ∧ (b6.toNat : Int) = (n : Int) / 281474976710656 % 256 ∧ (b7.toNat : Int) = (n : Int) / 72057594037927936 := by
  refine ⟨_, _, _, _, _, _, _, _, rfl, ?_, ?_, ?_, ?_, ?_, ?_, ?_, ?_⟩ <;> rw [P5.byte_mod] <;> omega

/-- An array of eight bytes: four bytes and four zeros. -/
def Arr4 (n : Nat) (e : Ending) : Prop := ∃ b0 b1 b2 b3 : UInt8, P5.le 4 n = [b0, b1, b2, b3] ∧ e = .returned (.agg #[.int .u8 (b0.toNat : Int), .int .u8 (b1.toNat : Int), .int .u8 (b2.toNat : Int), .int .u8 (b3.toNat : Int), .int .u8 0, .int .u8 0, .int .u8 0, .int .u8 0])
def Arr8 (n : Nat) (e : Ending) : Prop := ∃ b0 b1 b2 b3 b4 b5 b6 b7 : UInt8, P5.le 8 n = [b0, b1, b2, b3, b4, b5, b6, b7] ∧ e = .returned (.agg #[.int .u8 (b0.toNat : Int), .int .u8 (b1.toNat : Int), .int .u8 (b2.toNat : Int), .int .u8 (b3.toNat : Int), .int .u8 (b4.toNat : Int), .int .u8 (b5.toNat : Int), .int .u8 (b6.toNat : Int), .int .u8 (b7.toNat : Int)])

set_option maxHeartbeats 400000 in
theorem eight4_any (n : Nat) (w : World) (hn : n < 4294967296) :
    Calls Try.prog 25 #[.int .u64 n, .int .i64 4] w fun e w' => Arr4 n e ∧ Below w.heap.size w w' := by
  go_enter Try.func25, Try.ntmps25
  go_wp2
  go_rounds 5
  obtain ⟨b0, b1, b2, b3, hl, h0, h1, h2, h3⟩ := Try.le4 n hn
  refine bodyPost_ret (v := .agg #[.int .u8 (b0.toNat : Int), .int .u8 (b1.toNat : Int), .int .u8 (b2.toNat : Int), .int .u8 (b3.toNat : Int), .int .u8 0, .int .u8 0, .int .u8 0, .int .u8 0]) ?_ rfl ⟨⟨b0, b1, b2, b3, hl, rfl⟩, ((Below.refl _ _).alloc (Nat.le_refl _) _).alloc (by simp) _⟩
  rw [h0, h1, h2, h3]; clear h0 h1 h2 h3 hl
  simp [results, Try.results25, go_sem]

set_option maxHeartbeats 800000 in
theorem eight8_any (n : Nat) (w : World) (hn : n < 18446744073709551616) :
    Calls Try.prog 25 #[.int .u64 n, .int .i64 8] w fun e w' => Arr8 n e ∧ Below w.heap.size w w' := by
  go_enter Try.func25, Try.ntmps25
  go_wp2
  go_rounds 9
  obtain ⟨b0, b1, b2, b3, b4, b5, b6, b7, hl, h0, h1, h2, h3, h4, h5, h6, h7⟩ := Try.le8 n hn
  refine bodyPost_ret (v := .agg #[.int .u8 (b0.toNat : Int), .int .u8 (b1.toNat : Int), .int .u8 (b2.toNat : Int), .int .u8 (b3.toNat : Int), .int .u8 (b4.toNat : Int), .int .u8 (b5.toNat : Int), .int .u8 (b6.toNat : Int), .int .u8 (b7.toNat : Int)]) ?_ rfl ⟨⟨b0, b1, b2, b3, b4, b5, b6, b7, hl, rfl⟩, ((Below.refl _ _).alloc (Nat.le_refl _) _).alloc (by simp) _⟩
  rw [h0, h1, h2, h3, h4, h5, h6, h7]; clear h0 h1 h2 h3 h4 h5 h6 h7 hl
  simp [results, Try.results25, go_sem]

set_option maxHeartbeats 400000 in
theorem bytes_any (n k : Nat) (w : World) (hk : k ≤ 8) (hn : n < 18446744073709551616) :
    Calls Try.prog 26 #[.int .u64 n, .int .i64 k] w fun e w' => e = .returned (.string (Bs.mk (P5.le k n))) ∧ Below w.heap.size w w' := by
  obtain ⟨i0, hi, hz0, hz1, hz2⟩ := info_parts Try.info5
  go_enter Try.func26, Try.ntmps26
  go_wp2
  go_loopw [0, 5, 6] (fun x v i wr => ∃ j : Nat, j ≤ k ∧ i = .int .i64 j ∧ x = .int .u64 ((n / 256 ^ j : Nat) : Int) ∧ wr.ownsRow w.heap.size 5 1 v j ((P5.le j n).map Bs.byteV) ∧ Below w.heap.size w wr) (fun _ _ i _ => k - (intOf i).toNat)
  case atStart => exact ⟨0, Nat.zero_le _, rfl, by simp, World.ownsRow_nil _ _ _ _, Below.refl _ _⟩
  case round =>
    obtain ⟨j, hj, rfl, rfl, hown, hbel⟩ := hrel
    by_cases hlt : j < k
    · have HL := Lib.hid (P5.le_snoc j n)
      have HD := Lib.hid (P5.div_pow n j)
      have hsz := hbel.size
      have hy : n / 256 ^ j < 18446744073709551616 := Nat.lt_of_le_of_lt (Nat.div_le_self _ _) hn
      generalize n / 256 ^ j = y at *
      go_wp2_with (at_builtin; refine wpList_append_own _ rfl _ _ 28 rfl w.heap.size 5 i0 (.int .u8 0) 1 1 Try.underlying28 hi hz0 hz1 hz2 rfl (by decide) _ _ _ rfl (hown.alloc _) ⟨wr.heap.size, 0, none⟩ 1 1 [.int .u8 ((y : Int) % 256)] rfl rfl (Bs.cell_new1 _ _ _) ?c2 ?c3 ?c4 ?c5 ?_)
      case c2 => intro u hu; simp at hu; subst hu; rfl
      case c3 => unfold maxLen; omega
      case c4 => omega
      case c5 => simp; omega
      intro v' w1 hown' hgrow _
      go_wp2
      go_roundw
      case rel =>
        refine ⟨j + 1, by omega, by go_num, by rw [HD.out]; exact Bs.val_int (by omega), ?_, ?_⟩
        · rw [HL.out, List.map_append]
          have e : [UInt8.ofNat (y % 256)].map Bs.byteV = [.int .u8 ((y : Int) % 256)] := by simp only [List.map_cons, List.map_nil, Bs.byteV, P5.byte_mod]
          rw [e]; exact hown'
        · exact (hbel.alloc hsz _).grown hgrow (by simp; omega) (fun k hk => (hown.lt k hk).1)
      case measure => simp [intOf]; omega
    · have hjk : j = k := by omega
      subst hjk
      have hcv := fun d hd => Bs.run_convert_own (P := Try.prog) 28 d 5 Try.underlying28 Try.underlying5 hd hown
      go_wp2
      go_ret
      exact ⟨rfl, hbel⟩
end Go.Proofs.Ytoocfgpoboneoaa
