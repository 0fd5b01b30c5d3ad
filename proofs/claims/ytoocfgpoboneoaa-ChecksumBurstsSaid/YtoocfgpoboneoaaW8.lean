/- The walks of flipped and of the law ChecksumBursts. -/
import Derived.Test.YtoocfgpoboneoaaW6
import Derived.Deep.RegionWith
namespace Go.Proofs.Ytoocfgpoboneoaa
open Go.RowKit
set_option linter.unusedVariables false

def Flip (s : ByteArray) (at_ p : Nat) (e : Ending) : Prop :=
  ∃ l : List UInt8, l.length = s.size ∧ P5.num l = P5.num s.data.toList ^^^ P5.dif s.size at_ p 32 ∧ e = .returned (.tuple #[.string (Bs.mk l), .bool (decide (P5.dif s.size at_ p 32 ≠ 0))])

set_option maxHeartbeats 800000 in
theorem flipped_any (s : ByteArray) (at_ p : Nat) (w : World) (hs : s.size ≤ 140737488355328) (ha : at_ ≤ 1152921504606846976) (hp : p < 4294967296) :
    Calls Try.prog 18 #[.string s, .int .i64 at_, .int .u32 p] w fun e w' => Flip s at_ p e ∧ Below w.heap.size w w' := by
  have hcv0 := fun W => run_bytes_of_string (P := Try.prog) W 9 28 5 s Try.underlying9 Try.underlying28 Try.underlying5
  go_enter Try.func18, Try.ntmps18
  go_wp2
  clear hcv0
  go_loopw [9, 10, 11] (fun v i k wr => ∃ (i' : Nat) (l : List UInt8), i' ≤ 32 ∧ l.length = s.size ∧ P5.num l = P5.num s.data.toList ^^^ P5.dif s.size at_ p i' ∧ i = .int .i64 i' ∧ v = .bool (decide (P5.dif s.size at_ p i' ≠ 0)) ∧ Bs.Row wr w.heap.size (l.map Bs.byteV) ∧ Below w.heap.size w wr) (fun _ i _ _ => 32 - (intOf i).toNat)
  case atStart =>
    refine ⟨0, s.data.toList, by omega, Bs.len_list s, by rw [P5.dif_zero, Nat.xor_zero], rfl, by rw [P5.dif_zero]; rfl, ?_, ?_⟩
    · exact Bs.Row.new s w _ 5
    · exact Bs.al (Bs.dr (Bs.rf w)) _
  case round =>
    obtain ⟨i, l, hi, hl, hn, rfl, rfl, hrow, hbel⟩ := hrel
    have HN := Lib.hid hn
    clear hn
    by_cases hlt : i < 32
    · by_cases hbit : p.testBit i = true
      · have ht := P5.bit_yes p i hbit
        by_cases hk : at_ + i < 8 * s.size
        · have hq : (at_ + i) / 8 < l.length := by omega
          have hcell := hrow.cell (j := (at_ + i) / 8) (v := Bs.byteV l[(at_ + i) / 8]) (by simp [hq])
          unfold Bs.byteV at hcell
          have hfree := hrow.free (j := (at_ + i) / 8) (by rw [List.length_map]; exact hq)
          have HD := Lib.hid (P5.dif_set s.size at_ p i hbit hk)
          have HH := Lib.hid (P5.dif_hit s.size at_ p i hbit hk)
          go_wp2
          go_roundw
          case rel =>
            refine ⟨i + 1, l.set ((at_ + i) / 8) (l[(at_ + i) / 8] ^^^ UInt8.ofNat (2 ^ ((at_ + i) % 8))), by omega, by rw [List.length_set]; exact hl, ?_, by go_num, ?_, ?_, ?_⟩
            · rw [P5.num_flip l (at_ + i) hq, HD.out, HN.out, Nat.xor_assoc]
            · rw [decide_eq_true HH.out]
            · rw [List.map_set, P5.flip_val]; exact hrow.set _ _
            · exact hbel.setCell (Nat.le_refl _) _
          case measure => simp [intOf]; omega
        · have HD := Lib.hid (P5.dif_skip s.size at_ p i (.inr (by omega)))
          go_wp2
          go_roundw
          case rel => exact ⟨i + 1, l, by omega, hl, by rw [HD.out]; exact HN.out, by go_num, by rw [HD.out], hrow, hbel⟩
          case measure => simp [intOf]; omega
      · have ht := P5.bit_no p i hbit
        have HD := Lib.hid (P5.dif_skip s.size at_ p i (.inl (by simpa using hbit)))
        go_wp2
        go_roundw
        case rel => exact ⟨i + 1, l, by omega, hl, by rw [HD.out]; exact HN.out, by go_num, by rw [HD.out, decide_not], hrow, hbel⟩
        case measure => simp [intOf]; omega
    · obtain rfl : i = 32 := by omega
      have hcv := fun d hd => Bs.run_convert_row (P := Try.prog) 28 d 5 Try.underlying28 Try.underlying5 hd s.size (grownCap w s.size 0 5) hl.symm hrow
      go_wp2
      go_ret2
      exact ⟨⟨l, hl, HN.out, by rw [decide_not]; rfl⟩, hbel⟩

theorem place_val (k n : Int) (h1 : 1 ≤ n) (h2 : n ≤ 1152921504606846976) : ∃ m : Nat, (m : Int) < n ∧ wrap64 ((IntKind.u64.wrap k).tmod n) = (m : Int) := by
  have h0 : 0 ≤ IntKind.u64.wrap k := by rw [IntKind.wrap_u64]; omega
  generalize IntKind.u64.wrap k = x at *
  rw [Int.tmod_eq_emod_of_nonneg h0]
  have ha := Int.emod_nonneg x (show n ≠ 0 by omega)
  have hb := Int.emod_lt_of_pos x (show 0 < n by omega)
  refine ⟨(x % n).toNat, by omega, ?_⟩
  rw [IntWalk.wrap64_in _ ⟨by omega, by omega⟩]
  omega

set_option maxHeartbeats 400000 in
theorem place_eq (k n : Int) (w : World) (h1 : 1 ≤ n) (h2 : n ≤ 1152921504606846976) :
    Calls Try.prog 19 #[.int .i64 k, .int .i64 n] w fun e w' => e = .returned (.int .i64 (wrap64 ((IntKind.u64.wrap k).tmod n))) ∧ w' = w := by
  go_enter Try.func19, Try.ntmps19
  go_wp2
  go_ret
  exact ⟨rfl, rfl⟩
set_option maxHeartbeats 400000 in
theorem place_any (k n : Int) (w : World) (wk : (Lit.int .i64 k).wf = true) (h1 : 1 ≤ n) (h2 : n ≤ 1152921504606846976) :
    Calls Try.prog 19 #[.int .i64 k, .int .i64 n] w fun e w' => (∃ m : Nat, (m : Int) < n ∧ e = .returned (.int .i64 m)) ∧ w' = w := by
  have HM := Lib.hid (place_val k n h1 h2)
  go_enter Try.func19, Try.ntmps19
  go_wp2
  obtain ⟨m, hm, e⟩ := HM.out
  go_ret
  exact ⟨⟨m, hm, Bs.ret_int e⟩, rfl⟩

theorem open_cut (t : ByteArray) (c : Nat) (hc : c < 4294967296) (h : P5.crc t.data.toList ≠ c) : openR (Bs.mk (P5.le 4 c ++ t.data.toList)) = (.string ⟨#[]⟩, .int .i64 11) := by
  have hx : (Bs.mk (P5.le 4 c ++ t.data.toList)).extract 4 (Bs.mk (P5.le 4 c ++ t.data.toList)).size = t := by
    apply Bs.bytes_ext
    rw [P5.extract_list, Bs.mk_list, Bs.mk_size, List.take_of_length_le (Nat.le_refl _), List.drop_append_of_le_length (by rw [P5.le_length]; exact Nat.le_refl _), List.drop_of_length_le (by rw [P5.le_length]; exact Nat.le_refl _)]
    rfl
  have h' := openR_of (Bs.mk (P5.le 4 c ++ t.data.toList)) (by rw [Bs.mk_size, List.length_append, P5.le_length]; omega)
  rw [hx] at h'
  refine h'.2 fun e => h ?_
  have e := congrArg (fun b : ByteArray => b.data.toList) e
  simp only [Bs.mk_list, P5.sealL] at e
  exact P5.le_inj 4 _ _ (P5.crc_lt _) hc (List.append_inj_left e (by rw [P5.le_length, P5.le_length]))

theorem open_head (s : ByteArray) (l : List UInt8) (hl : l.length = 4) (h : l ≠ P5.le 4 (P5.crc s.data.toList)) : openR (Bs.mk (l ++ s.data.toList)) = (.string ⟨#[]⟩, .int .i64 11) := by
  have hx : (Bs.mk (l ++ s.data.toList)).extract 4 (Bs.mk (l ++ s.data.toList)).size = s := by
    apply Bs.bytes_ext
    rw [P5.extract_list, Bs.mk_list, Bs.mk_size, List.take_of_length_le (Nat.le_refl _), List.drop_append_of_le_length (by omega), List.drop_of_length_le (by omega)]
    rfl
  have h' := openR_of (Bs.mk (l ++ s.data.toList)) (by rw [Bs.mk_size, List.length_append]; omega)
  rw [hx] at h'
  refine h'.2 fun e => h ?_
  have e := congrArg (fun b : ByteArray => b.data.toList) e
  simp only [Bs.mk_list, P5.sealL] at e
  exact (List.append_inj_left e (by rw [P5.le_length, hl])).symm

theorem Flip.hide {s : ByteArray} {at_ p : Nat} {e : Ending} (h : Flip s at_ p e) : ∃ (l : List UInt8) (c : Bool), Hid (l.length = s.size ∧ P5.num l = P5.num s.data.toList ^^^ P5.dif s.size at_ p 32 ∧ c = decide (P5.dif s.size at_ p 32 ≠ 0)) ∧ e = .returned (.tuple #[.string (Bs.mk l), .bool c]) := by
  obtain ⟨l, h1, h2, h3⟩ := h
  exact ⟨l, _, Lib.hid ⟨h1, h2, rfl⟩, h3⟩
theorem u32_of (a : Int) (h : (Lit.int .u32 a).wf = true) : ∃ p : Nat, a = (p : Int) ∧ p < 4294967296 := by
  have := (by simpa [Lit.wf, IntKind.min, IntKind.max, IntKind.signed, IntKind.bits] using h : 0 ≤ a ∧ a ≤ 4294967295)
  exact ⟨a.toNat, by omega, by omega⟩

set_option maxHeartbeats 800000 in
theorem walk_ChecksumBursts (s : ByteArray) (hs : s.size ≤ 140737488351232) (a1 : Int) (w1 : (Lit.int .i64 a1).wf = true) (a2 : Int) (w2 : (Lit.int .u32 a2).wf = true) (w : World) :
    Calls Try.prog 6 #[.string s, .int .i64 a1, .int .u32 a2] w fun e w' => e = .returned (.bool true) ∧ Below w.heap.size w w' := by
  obtain ⟨p, rfl, hp⟩ := u32_of a2 w2
  clear w2
  by_cases h0 : s.size = 0
  · have hz : s.size ≤ 0 := by omega
    have hz' : ((s.size : Int) == 0) = true := by rw [h0]; rfl
    clear h0
    go_enter Try.func6, Try.ntmps6
    go_wp2_with (go_at_call 11; refine (awake_any _).mono ?_; rintro e w5 ⟨rfl, hb5⟩)
    go_ret
    exact ⟨rfl, hb5⟩
  have hz : 1 ≤ s.size := by omega
  have hz' : ((s.size : Int) == 0) = false := by rw [beq_eq_false_iff_ne]; omega
  clear h0
  go_enter Try.func6, Try.ntmps6
  go_wp2_with fail
  refine (place_any _ _ _ w1 (by omega) (by omega)).mono ?_
  rintro e w' ⟨⟨m, hm, rfl⟩, rfl⟩
  go_wp2_with fail
  refine (flipped_any _ _ _ _ (by omega) (by omega) hp).mono ?_
  rintro e wa ⟨⟨l, hl, hn, rfl⟩, hba⟩
  by_cases hd0 : P5.dif s.size m p 32 = 0
  · have hdd := Lib.hid (decide_eq_false (p := P5.dif s.size m p 32 ≠ 0) (by simpa using hd0))
    clear hn hd0
    rw [hdd.out]
    go_wp2_with (go_at_call 11; refine (awake_any _).mono ?_; rintro e w5 ⟨rfl, hb5⟩)
    go_ret
    exact ⟨rfl, Bs.sq hba hb5⟩
  have hdd := Lib.hid (decide_eq_true (p := P5.dif s.size m p 32 ≠ 0) hd0)
  have hne : P5.crc s.data.toList ≠ P5.crc l := by
    have hf := P5.dif_form s.size m p (by omega) hp
    rw [hf] at hn hd0
    refine P5.burst (by rw [Bs.len_list, hl]) m _ (by rw [Bs.len_list]; omega) ?_ ?_ hn
    · exact Nat.lt_of_le_of_lt (Nat.mod_le _ _) hp
    · intro e; rw [e] at hd0; simp at hd0
  clear hn hd0
  rw [hdd.out]
  have hls : (Bs.mk l).size = s.size := by rw [Bs.mk_size, hl]
  have HNE := Lib.hid hne
  have hcc : (((P5.crc s.data.toList : Nat) : Int) == ((P5.crc (Bs.mk l).data.toList : Nat) : Int)) = false := by
    rw [beq_eq_false_iff_ne, Bs.mk_list]; omega
  have hls' := Lib.hid hls
  have hls2 : (Bs.mk l).size ≤ 140737488351232 := by omega
  clear hne hls hl
  go_wp2_with fail
  refine (crc_any _ _ (by unfold maxLen; omega)).mono ?_
  rintro e w' ⟨rfl, rfl⟩
  go_wp2_with fail
  refine (crc_any _ _ (by unfold maxLen; omega)).mono ?_
  rintro e w' ⟨rfl, rfl⟩
  go_wp2_with fail
  refine (seal_any _ _ (by omega)).mono ?_
  rintro e wb ⟨rfl, hbb⟩
  have hsz : ((Bs.mk (P5.sealL s.data.toList)).size : Int) = (s.size : Int) + 4 := by rw [Bs.mk_size, P5.sealL, List.length_append, P5.le_length, Bs.len_list]; omega
  have hx4 : (Bs.mk (P5.sealL s.data.toList)).extract 0 4 = Bs.mk (P5.le 4 (P5.crc s.data.toList)) := by
    apply Bs.bytes_ext
    rw [P5.extract_list, Bs.mk_list, Bs.mk_list, P5.sealL, List.drop_zero, List.take_append_of_le_length (by rw [P5.le_length]; exact Nat.le_refl _), List.take_of_length_le (by rw [P5.le_length]; exact Nat.le_refl _)]
  have HX := Lib.hid hx4
  clear hx4
  have hlen4 : (Bs.mk (P5.le 4 (P5.crc s.data.toList))).size = 4 := by rw [Bs.mk_size, P5.le_length]
  have HO := Lib.hid (open_cut (Bs.mk l) (P5.crc s.data.toList) (P5.crc_lt _) (by rw [Bs.mk_list]; exact fun e => HNE.out e.symm))
  have ho4 : (Bs.mk (P5.le 4 (P5.crc s.data.toList)) ++ Bs.mk l).size ≤ 140737488355328 := by rw [ByteArray.size_append]; omega
  have h44 : (Bs.mk (P5.le 4 (P5.crc s.data.toList))).size ≤ 4 := by omega
  have H44 := Lib.hid hlen4
  clear hlen4
  go_wp2_with fail
  rw [HX.out]
  refine (open_any _ _ ho4).mono ?_
  rintro e wc ⟨rfl, hbc⟩
  rw [Bs.mk_append, HO.out]
  go_wp2_with fail
  have hb4 : (4 : Int) ≤ (s.size : Int) + 4 := by omega
  go_region_with (first | (go_at_call 19; refine (place_eq _ _ _ (by omega) (by omega)).mono ?_; rintro e wc' ⟨rfl, rfl⟩; obtain ⟨m2, hm2, HM⟩ := place_val a1 32 (by omega) (by omega); rw [HM]) | (go_at_call 18; rw [HX.out]; refine (flipped_any _ _ _ _ (by omega) (by omega) hp).mono ?_; rintro e wd ⟨hF, hbd⟩; obtain ⟨h, c, HF, rfl⟩ := hF.hide))
  obtain ⟨hh, hnh, hcd⟩ := HF.out
  have Hhh := Lib.hid (hh.trans H44.out)
  have hb5 := Lib.hid (Bs.sq (Bs.dr (Bs.sq (Bs.sq hba hbb) hbc)) hbd)
  clear hba hbb hbc hbd hh
  have hh4 : (Bs.mk h).size ≤ 4 := by rw [Bs.mk_size, Hhh.out]; exact Nat.le_refl _
  have hhs : (Bs.mk h ++ s).size ≤ 140737488355328 := by rw [ByteArray.size_append, Bs.mk_size, Hhh.out]; omega
  by_cases hd0 : P5.dif (Bs.mk (P5.le 4 (P5.crc s.data.toList))).size m2 p 32 = 0
  · have hdd := Lib.hid (decide_eq_false (p := P5.dif (Bs.mk (P5.le 4 (P5.crc s.data.toList))).size m2 p 32 ≠ 0) (by simpa using hd0))
    obtain ⟨z, n, hzn, _, _⟩ := openR_shape (Bs.mk h ++ s)
    have HZ := Lib.hid hzn
    rw [hdd.out] at hcd
    subst hcd
    clear hnh hd0 hzn
    go_wp2_with fail
    refine (open_any _ _ hhs).mono ?_
    rintro e we ⟨rfl, hbe⟩
    rw [HZ.out]
    go_wp2_with (go_at_call 11; refine (awake_any _).mono ?_; rintro e w5 ⟨rfl, hb6⟩)
    go_ret
    exact ⟨rfl, Bs.sq (Bs.sq hb5.out hbe) hb6⟩
  · have hdd := Lib.hid (decide_eq_true (p := P5.dif (Bs.mk (P5.le 4 (P5.crc s.data.toList))).size m2 p 32 ≠ 0) hd0)
    have hne : h ≠ P5.le 4 (P5.crc s.data.toList) := by
      rintro rfl
      rw [Bs.mk_list] at hnh
      exact hd0 (P5.xor_cancel _ _ (P5.num (P5.le 4 (P5.crc s.data.toList))) (by rw [Nat.zero_xor, Nat.xor_comm]; exact hnh.symm))
    have HZ := Lib.hid (open_head s h Hhh.out hne)
    rw [hdd.out] at hcd
    subst hcd
    clear hnh hd0 hne
    go_wp2_with fail
    refine (open_any _ _ hhs).mono ?_
    rintro e we ⟨rfl, hbe⟩
    rw [Bs.mk_append, HZ.out]
    go_wp2_with (go_at_call 11; refine (awake_any _).mono ?_; rintro e w5 ⟨rfl, hb6⟩)
    go_ret
    exact ⟨rfl, Bs.sq (Bs.sq hb5.out hbe) hb6⟩
end Go.Proofs.Ytoocfgpoboneoaa
