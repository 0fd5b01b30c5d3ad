/- The walks of the laws ChecksumHashes, ChecksumSeals. -/
import Derived.Test.YtoocfgpoboneoaaW5
import Derived.Test.YtoocfgpoboneoaaPlain2
namespace Go.Proofs.Ytoocfgpoboneoaa
open Go.RowKit

theorem conv1 (W : World) (b : UInt8) :
    (convert 28 9 (.slice (some ⟨W.heap.size, 0, none⟩) 1 1)).run Try.prog (W.alloc (.cells #[.int .u8 (b.toNat : Int)] 5)) = .ok (.string (Bs.mk [b])) (W.alloc (.cells #[.int .u8 (b.toNat : Int)] 5)) := by
  refine run_convert_bytes_back _ 28 9 5 _ 1 [b] Try.underlying28 Try.underlying5 Try.underlying9 fun j hj => ?_
  have : j = 0 := by simp at hj; omega
  subst this
  simp [Addr.add]
theorem byte_of (a : Int) (h : (Lit.int .u8 a).wf = true) : ∃ b : UInt8, a = (b.toNat : Int) := by
  have := (by simpa [Lit.wf, IntKind.min, IntKind.max, IntKind.signed, IntKind.bits] using h : 0 ≤ a ∧ a ≤ 255)
  refine ⟨UInt8.ofNat a.toNat, ?_⟩
  rw [UInt8.toNat_ofNat']; omega

set_option maxHeartbeats 400000 in
theorem walk_ChecksumHashes (s : ByteArray) (hs : s.size ≤ 140737488351232) (a1 : Int) (w1 : (Lit.int .u8 a1).wf = true) (a2 : Int) (w2 : (Lit.int .u8 a2).wf = true) (w : World) :
    Calls Try.prog 4 #[.string s, .int .u8 a1, .int .u8 a2] w fun e w' => e = .returned (.bool true) ∧ Below w.heap.size w w' := by
  obtain ⟨c, rfl⟩ := byte_of a1 w1
  obtain ⟨d, rfl⟩ := byte_of a2 w2
  clear w1 w2
  have hcv := conv1
  have hz : ∀ b : UInt8, (Bs.mk [b]).size ≤ 1 := fun b => by rw [Bs.mk_size]; exact Nat.le_refl _
  have hzz : ∀ b : UInt8, (s ++ Bs.mk [b]).size ≤ maxLen := fun b => by rw [ByteArray.size_append]; have := hz b; unfold maxLen; omega
  have hzc := hz c
  have hzd := hz d
  have HX : ∀ b : UInt8, Hid (P5.fnv (s ++ Bs.mk [b]).data.toList = P5.fnvB (P5.fnv s.data.toList) b) := fun b => Lib.hid (by rw [Bs.append_eq, Bs.mk_list, Bs.mk_list]; unfold P5.fnv; rw [P5.fnvF_snoc])
  have HXc := HX c
  have HXd := HX d
  clear hz HX
  have hzzc := hzz c
  have hzzd := hzz d
  clear hzz
  have HP := Lib.hid (P5.fnv_step (P5.fnv s.data.toList) c (P5.fnv_lt _))
  have HI := Lib.hid (P5.fnvB_inj (P5.fnv s.data.toList) c d (P5.fnv_lt _))
  go_enter Try.func4, Try.ntmps4
  go_wp2_with fail
  refine (hash_any _ _ (by unfold maxLen; omega)).mono ?_
  rintro e w1 ⟨rfl, hb1⟩
  go_wp2_with fail
  refine (hash_any _ _ hzzc).mono ?_
  rintro e w2 ⟨rfl, hb2⟩
  rw [HXc.out]
  go_wp2_with fail
  refine (hash_any _ _ hzzd).mono ?_
  rintro e w3 ⟨rfl, hb3⟩
  rw [HXd.out]
  go_wp2_with fail
  refine (rhash_any _ _ (by unfold maxLen; omega)).mono ?_
  rintro e w4 ⟨rfl, rfl⟩
  generalize P5.fnv s.data.toList = h at *
  have hb1' : (((P5.fnvB h c : Nat) : Int) == IntKind.u64.wrap (bits .xor .u64 (h : Int) (IntKind.u64.wrap (c.toNat : Int)) * 1099511628211)) = true := by rw [HP.out]; exact beq_self_eq_true _
  have hb2' : ((((P5.fnvB h c : Nat) : Int) == ((P5.fnvB h d : Nat) : Int)) == ((c.toNat : Int) == (d.toNat : Int))) = true := by
    have hi := HI.out
    by_cases hcd : c = d
    · subst hcd; simp
    · have h1 : (((P5.fnvB h c : Nat) : Int) == ((P5.fnvB h d : Nat) : Int)) = false := by
        rw [beq_eq_false_iff_ne]; intro e; exact hcd (hi.1 (by omega))
      have h2 : ((c.toNat : Int) == (d.toNat : Int)) = false := by
        rw [beq_eq_false_iff_ne]; intro e; exact hcd (UInt8.toNat_inj.1 (by omega))
      rw [h1, h2]; rfl
  clear HP HI HXc HXd
  generalize P5.fnvB h c = X at *
  generalize P5.fnvB h d = Y at *
  go_wp2_with (go_at_call 11; refine (awake_any _).mono ?_; rintro e w5 ⟨rfl, hb5⟩)
  go_ret
  exact ⟨rfl, Bs.sq (Bs.sq (Bs.al (Bs.sq (Bs.al hb1 _) hb2) _) hb3) hb5⟩

theorem openR_seal (s : ByteArray) : openR (Bs.mk (P5.sealL s.data.toList)) = (.string s, .int .i64 0) := by
  have hx : (Bs.mk (P5.sealL s.data.toList)).extract 4 (Bs.mk (P5.sealL s.data.toList)).size = s := by
    apply Bs.bytes_ext
    rw [P5.extract_list, Bs.mk_list, Bs.mk_size, List.take_of_length_le (Nat.le_refl _), P5.sealL, List.drop_append_of_le_length (by rw [P5.le_length]; exact Nat.le_refl _), List.drop_of_length_le (by rw [P5.le_length]; exact Nat.le_refl _)]
    rfl
  have h := openR_of (Bs.mk (P5.sealL s.data.toList)) (by rw [Bs.mk_size, P5.sealL, List.length_append, P5.le_length]; omega)
  rw [hx] at h
  exact h.1 rfl

theorem openR_shape (t : ByteArray) : ∃ (z : ByteArray) (n : Int), openR t = (.string z, .int .i64 n) ∧ z.size ≤ t.size ∧ (n = 0 → Bs.mk (P5.sealL z.data.toList) = t) := by
  unfold openR
  split
  · exact ⟨_, _, rfl, Nat.zero_le _, fun h => by omega⟩
  · split
    · rename_i h; exact ⟨_, _, rfl, by rw [ByteArray.size_extract]; omega, fun _ => h⟩
    · exact ⟨_, _, rfl, Nat.zero_le _, fun h => by omega⟩

set_option maxHeartbeats 400000 in
theorem walk_ChecksumSeals (s : ByteArray) (hs : s.size ≤ 140737488351232) (t : ByteArray) (ht : t.size ≤ 140737488351232) (w : World) :
    Calls Try.prog 5 #[.string s, .string t] w fun e w' => e = .returned (.bool true) ∧ Below w.heap.size w w' := by
  obtain ⟨z, n, hzn, hzt, hn0⟩ := openR_shape t
  have HZ := Lib.hid hzn
  have HN := Lib.hid hn0
  clear hzn hn0
  have HO := Lib.hid (openR_seal s)
  have hsz : (Bs.mk (P5.sealL s.data.toList)).size ≤ 140737488355328 := by rw [Bs.mk_size, P5.sealL, List.length_append, P5.le_length, Bs.len_list]; omega
  go_enter Try.func5, Try.ntmps5
  go_wp2_with fail
  refine (seal_any _ _ (by omega)).mono ?_
  rintro e w1 ⟨rfl, hb1⟩
  go_wp2_with fail
  refine (open_any _ _ hsz).mono ?_
  rintro e w2 ⟨rfl, hb2⟩
  rw [HO.out]
  go_wp2_with fail
  refine (rseal_any _ _ (by omega)).mono ?_
  rintro e w3 ⟨rfl, hb3⟩
  generalize Bs.mk (P5.sealL s.data.toList) = x at *
  go_wp2_with fail
  refine (open_any _ _ (by omega)).mono ?_
  rintro e w4 ⟨rfl, hb4⟩
  rw [HZ.out]
  go_wp2_with fail
  refine (ropen_any _ _ (by omega)).mono ?_
  rintro e w5 ⟨rfl, hb5⟩
  rw [HZ.out]
  have hb := Lib.hid (Bs.sq (Bs.sq (Bs.sq (Bs.sq hb1 hb2) hb3) hb4) hb5)
  clear hb1 hb2 hb3 hb4 hb5
  by_cases h0 : n = 0
  · subst h0
    have HS := Lib.hid (HN.out rfl)
    clear HN
    go_wp2_with fail
    refine (seal_any _ _ (by omega)).mono ?_
    rintro e w6 ⟨rfl, hb6⟩
    rw [HS.out]
    go_wp2_with (go_at_call 11; refine (awake_any _).mono ?_; rintro e w7 ⟨rfl, hb7⟩)
    go_ret
    exact ⟨rfl, Bs.sq (Bs.sq hb.out hb6) hb7⟩
  · have h1 : (n == 0) = false := by simpa using h0
    have h2 : (n != 0) = true := by simpa using h0
    go_wp2_with (go_at_call 11; refine (awake_any _).mono ?_; rintro e w7 ⟨rfl, hb7⟩)
    go_ret
    exact ⟨rfl, Bs.sq hb.out hb7⟩
end Go.Proofs.Ytoocfgpoboneoaa
