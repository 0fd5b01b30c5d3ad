/- The walk of the law WireCanonical. -/
import Derived.Test.YthadbaknlipacaaW7
namespace Go.Proofs.Ythadbaknlipacaa
open Go.RowKit
set_option linter.unusedVariables false

theorem front_eq (s : ByteArray) (k : Nat) (hk : k ≤ s.size) : s.extract 0 (s.size - (s.size - k)) = Bs.mk (s.data.toList.take k) := by
  apply Bs.bytes_ext
  rw [Bs.mk_list, ByteArray.data_extract, Array.toList_extract, List.extract_eq_take_drop, List.drop_zero, Nat.sub_zero, show s.size - (s.size - k) = k from by omega]

theorem txF_val {s : ByteArray} {most : Int} {q n k : Nat} {t : ByteArray} (hv : P4.vdec s.data.toList = (n, k, 0)) (h : txF s most = (q, 0, t)) (hk : k ≤ s.size) : q = k + n ∧ t = s.extract k (k + n) ∧ k + n ≤ s.size := by
  have e : txF s most = (if most < 0 ∨ most < (n : Int) then (0, 3, ⟨#[]⟩) else if s.size - k < n then (0, 1, ⟨#[]⟩) else (k + n, 0, s.extract k (k + n))) := by
    unfold txF; rw [hv, if_pos rfl]
  rw [e] at h
  clear e hv
  by_cases h1 : most < 0 ∨ most < (n : Int)
  · rw [if_pos h1] at h
    exact absurd (show (3 : Nat) = 0 from congrArg (fun x => x.2.1) h) (by decide)
  · rw [if_neg h1] at h
    by_cases h2 : s.size - k < n
    · rw [if_pos h2] at h
      exact absurd (show (1 : Nat) = 0 from congrArg (fun x => x.2.1) h) (by decide)
    · rw [if_neg h2] at h
      exact ⟨(congrArg (fun x => x.1) h).symm, (congrArg (fun x => x.2.2) h).symm, by omega⟩
theorem text_front (s : ByteArray) (k n : Nat) (htk : s.data.toList.take k = P4.venc n) (hk : k = (P4.venc n).length) (hkn : k + n ≤ s.size) : textL (s.extract k (k + n)).data.toList = s.data.toList.take (k + n) := by
  have el : (s.extract k (k + n)).data.toList = (s.data.toList.drop k).take n := by
    rw [ByteArray.data_extract, Array.toList_extract, List.extract_eq_take_drop]
    congr 1
    omega
  rw [textL, el, List.length_take, List.length_drop, Bs.len_list, Nat.min_eq_left (by omega), List.take_add, ← htk]

/-- What the two kinds of reads of a fresh reader come to. -/
theorem canon (s : ByteArray) (most : Int) : ∃ n a e t c f, rdU s 0 0 = (n, a, e) ∧ rdT s 0 0 most = (t, c, f) ∧ a ≤ s.size ∧ c ≤ s.size ∧
    (e ≠ 0 → a = 0 ∧ n = 0 ∧ t = ⟨#[]⟩ ∧ f = e) ∧ (e = 0 → Bs.mk (P4.venc n) = s.extract 0 (s.size - (s.size - a))) ∧ (f = 0 → Bs.mk (textL t.data.toList) = s.extract 0 (s.size - (s.size - c))) := by
  have hx : s.extract 0 s.size = s := by apply Bs.bytes_ext; rw [cut_list]; rfl
  obtain ⟨n, k, er, hv⟩ : ∃ n k er, P4.vdec s.data.toList = (n, k, er) := ⟨_, _, _, rfl⟩
  have hU : rdU s 0 0 = (if er = 0 then (n, 0 + k, 0) else (0, 0, er)) := by
    unfold rdU
    rw [if_pos rfl, List.drop_zero, hv]
  by_cases her : er = 0
  · subst her
    obtain ⟨hn, hk, hkl, htk, h1⟩ := P4.vdec_ok hv
    rw [Bs.len_list] at hkl
    rw [if_pos rfl, Nat.zero_add] at hU
    obtain ⟨q, f, t, hq⟩ : ∃ q f t, txF s most = (q, f, t) := ⟨_, _, _, rfl⟩
    have hT : rdT s 0 0 most = (if f = 0 then (t, 0 + q, 0) else (⟨#[]⟩, 0, f)) := by
      unfold rdT
      rw [if_pos rfl, hx, hq]
    have hfr : Bs.mk (P4.venc n) = s.extract 0 (s.size - (s.size - k)) := by rw [front_eq s k hkl, htk]
    by_cases hf : f = 0
    · subst hf
      rw [if_pos rfl, Nat.zero_add] at hT
      have hql := txF_ok hq
      refine ⟨n, k, 0, t, q, 0, hU, hT, hkl, hql, fun h => absurd rfl h, fun _ => hfr, fun _ => ?_⟩
      obtain ⟨h1, h2, h3⟩ := txF_val hv hq hkl
      rw [h1, h2, front_eq s _ h3]
      exact congrArg Bs.mk (text_front s k n htk hk h3)
    · rw [if_neg hf] at hT
      exact ⟨n, k, 0, _, 0, f, hU, hT, hkl, Nat.zero_le _, fun h => absurd rfl h, fun _ => hfr, fun h => absurd h hf⟩
  · rw [if_neg her] at hU
    have hq : txF s most = (0, er, ⟨#[]⟩) := by unfold txF; rw [hv, if_neg her]
    have hT : rdT s 0 0 most = (⟨#[]⟩, 0, er) := by
      unfold rdT
      rw [if_pos rfl, hx, hq, if_neg her]
    exact ⟨0, 0, er, _, 0, er, hU, hT, Nat.zero_le _, Nat.zero_le _, fun _ => ⟨rfl, rfl, rfl, rfl⟩, fun h => absurd h her, fun h => absurd h her⟩

set_option maxRecDepth 100000 in
set_option maxHeartbeats 1600000 in
theorem walk_WireCanonical (s : ByteArray) (hs : s.size ≤ 140737488351232) (w : World) :
    Calls Try.prog 4 #[.string s] w fun e w' => e = .returned (.bool true) ∧ Below w.heap.size w w' := by
  by_cases h3 : 300 < s.size
  · go_enter Try.func4, Try.ntmps4
    go_wp2_with (go_at_call 10; refine (awake_any _).mono ?_; rintro e w2 ⟨rfl, hb⟩)
    go_ret
    exact ⟨rfl, hb⟩
  have h300 : s.size ≤ 300 := by omega
  have hs5 : s.size ≤ 140737488355328 := by omega
  clear h3
  obtain ⟨n, a, e, t, c, f, hU, hT, ha, hc, hf2, hf3, hf4⟩ := canon s 300
  have HU := Lib.hid hU
  have HT := Lib.hid hT
  have F2 := Lib.hid hf2
  have F3 := Lib.hid hf3
  have F4 := Lib.hid hf4
  have hn64 := Lib.hid (show n < 18446744073709551616 by have := rdU_lt s 0 0; rw [hU] at this; exact this)
  clear hU hT hf2 hf3 hf4
  go_enter Try.func4, Try.ntmps4
  go_wp2_with fail
  refine (new_any _ _).mono ?_
  rintro r w1 ⟨rfl, hw1⟩
  have A1 := Lib.hid (hw1 ▸ Rd.new w s)
  have Z1 := Lib.hid (hw1 ▸ Bs.al (Bs.rf w) _)
  clear hw1
  have l1 := A1.out.lt
  go_wp2_with fail
  refine (new_any _ _).mono ?_
  rintro r w2 ⟨rfl, hw2⟩
  have B2 := Lib.hid (hw2 ▸ Rd.new w1 s)
  have A2 := Lib.hid (hw2 ▸ A1.out.al _)
  have Z2 := Lib.hid (hw2 ▸ Bs.al Z1.out _)
  clear hw2 A1 Z1
  have l2 := B2.out.lt
  go_wp2_with fail
  refine (new_any _ _).mono ?_
  rintro r w3 ⟨rfl, hw3⟩
  have C3 := Lib.hid (hw3 ▸ Rd.new w2 s)
  have B3 := Lib.hid (hw3 ▸ B2.out.al _)
  have A3 := Lib.hid (hw3 ▸ A2.out.al _)
  have Z3 := Lib.hid (hw3 ▸ Bs.al Z2.out _)
  clear hw3 A2 B2 Z2
  have l3 := C3.out.lt
  go_wp2_with fail
  refine (rUint_any _ _ _ _ _ A3.out (Nat.zero_le _) (by omega)).mono ?_
  rintro r w4 ⟨rfl, hB, hR⟩
  rw [HU.out] at hR ⊢
  have A4 := Lib.hid hR
  have B4 := Lib.hid (B3.out.but hB (by omega))
  have C4 := Lib.hid (C3.out.but hB (by omega))
  have Z4 := Lib.hid (bb Z3.out hB (Nat.le_refl _))
  have k4 := hB.size
  clear hB hR A3 B3 C3 Z3
  go_wp2_with fail
  refine (rInt_any _ _ _ _ _ B4.out (Nat.zero_le _) (by omega)).mono ?_
  rintro r w5 ⟨rfl, hB, hR⟩
  rw [HU.out] at hR ⊢
  have B5 := Lib.hid hR
  have A5 := Lib.hid (A4.out.but hB (by omega))
  have C5 := Lib.hid (C4.out.but hB (by omega))
  have Z5 := Lib.hid (bb Z4.out hB (by omega))
  have k5 := hB.size
  clear hB hR A4 B4 C4 Z4
  go_wp2_with fail
  refine (rText_any _ _ _ _ _ _ (by decide) (by decide) C5.out (Nat.zero_le _) (by omega)).mono ?_
  rintro r w6 ⟨rfl, hB, hR⟩
  rw [HT.out] at hR ⊢
  have C6 := Lib.hid hR
  have A6 := Lib.hid (A5.out.but hB (by omega))
  have B6 := Lib.hid (B5.out.but hB (by omega))
  have Z6 := Lib.hid (bb Z5.out hB (by omega))
  have k6 := hB.size
  clear hB hR A5 B5 C5 Z5
  have qa : ((s.size - a : Nat) : Int) ≤ (s.size : Int) := by omega
  have qc : ((s.size - c : Nat) : Int) ≤ (s.size : Int) := by omega
  by_cases he : e = 0
  · subst he
    have F3' := Lib.hid (F3.out rfl)
    have hu : (Lit.int .i64 (P4.unzz n)).wf = true := by
      have := hn64.out
      exact WalkArith.wf_i64 (by unfold P4.unzz; split <;> omega)
    clear F2 F3
    go_wp2_with (first
      | (go_at_call 21; (with_reducible refine (left_any w.heap.size s a 0 _ (by first | exact A6.out | exact A6.out.drN _) ha hs5).mono ?_); rintro r w' ⟨rfl, n1, rfl⟩)
      | (go_at_call 21; (with_reducible refine (left_any w1.heap.size s a 0 _ (by first | exact B6.out | exact B6.out.drN _) ha hs5).mono ?_); rintro r w' ⟨rfl, n1, rfl⟩)
      | (go_at_call 21; (with_reducible refine (left_any w2.heap.size s c f _ (by first | exact C6.out | exact C6.out.drN _) hc hs5).mono ?_); rintro r w' ⟨rfl, n1, rfl⟩)
      | (go_at_call 22; (with_reducible refine (err_any w.heap.size s a 0 _ (by first | exact A6.out | exact A6.out.drN _)).mono ?_); rintro r w' ⟨rfl, rfl⟩)
      | (go_at_call 22; (with_reducible refine (err_any w1.heap.size s a 0 _ (by first | exact B6.out | exact B6.out.drN _)).mono ?_); rintro r w' ⟨rfl, rfl⟩))
    refine (uint_any _ _ hn64.out).mono ?_
    rintro r w8 ⟨rfl, hb8⟩
    rw [F3'.out]
    have C8 := Lib.hid ((C6.out.drN _).bel hb8)
    have Z8 := Lib.hid (Bs.sq (below_drewN Z6.out _) hb8)
    clear hb8
    go_wp2_with fail
    refine (int_any _ _ hu).mono ?_
    rintro r w9 ⟨rfl, hb9⟩
    rw [P4.zz_unzz, F3'.out]
    have C9 := Lib.hid (C8.out.bel hb9)
    have Z9 := Lib.hid (Bs.sq Z8.out hb9)
    clear hb9 C8 Z8
    by_cases hf : f = 0
    · subst hf
      have F4' := Lib.hid (F4.out rfl)
      have htz : t.size ≤ 140737488355328 := by
        have h := congrArg ByteArray.size F4'.out
        rw [Bs.mk_size, textL, List.length_append, Bs.len_list, ByteArray.size_extract] at h
        omega
      clear F4
      go_wp2_with fail
      refine (err_any w2.heap.size s c 0 _ C9.out).mono ?_
      rintro r w' ⟨rfl, rfl⟩
      go_wp2_with fail
      refine (text_any _ _ htz).mono ?_
      rintro r w10 ⟨rfl, hb10⟩
      rw [F4'.out]
      have C10 := Lib.hid (C9.out.bel hb10)
      have Z10 := Lib.hid (Bs.sq Z9.out hb10)
      clear hb10
      go_wp2_with fail
      refine (left_any w2.heap.size s c 0 _ C10.out hc hs5).mono ?_
      rintro r w' ⟨rfl, n7, rfl⟩
      go_wp2_with (go_at_call 10; refine (awake_any _).mono ?_; rintro e w11 ⟨rfl, h7⟩)
      go_ret
      exact ⟨rfl, Bs.sq (below_drewN Z10.out _) h7⟩
    · have hf1 : 1 ≤ f := by omega
      clear hf F4
      go_wp2_with fail
      refine (err_any w2.heap.size s c f _ C9.out).mono ?_
      rintro r w' ⟨rfl, rfl⟩
      go_wp2_with (go_at_call 10; refine (awake_any _).mono ?_; rintro e w11 ⟨rfl, h7⟩)
      go_ret
      exact ⟨rfl, Bs.sq Z9.out h7⟩
  · obtain ⟨rfl, rfl, rfl, rfl⟩ := F2.out he
    have he1 : 1 ≤ f := by omega
    have hen : ((f : Int) != 0) = true := by rw [bne_iff_ne]; omega
    clear he F2 F3 F4
    go_wp2_with (first
      | (go_at_call 21; (with_reducible refine (left_any w.heap.size s 0 f _ (by first | exact A6.out | exact A6.out.drN _) (Nat.zero_le _) hs5).mono ?_); rintro r w' ⟨rfl, n1, rfl⟩)
      | (go_at_call 21; (with_reducible refine (left_any w1.heap.size s 0 f _ (by first | exact B6.out | exact B6.out.drN _) (Nat.zero_le _) hs5).mono ?_); rintro r w' ⟨rfl, n1, rfl⟩)
      | (go_at_call 21; (with_reducible refine (left_any w2.heap.size s c f _ (by first | exact C6.out | exact C6.out.drN _) hc hs5).mono ?_); rintro r w' ⟨rfl, n1, rfl⟩)
      | (go_at_call 22; (with_reducible refine (err_any w.heap.size s 0 f _ (by first | exact A6.out | exact A6.out.drN _)).mono ?_); rintro r w' ⟨rfl, rfl⟩)
      | (go_at_call 22; (with_reducible refine (err_any w1.heap.size s 0 f _ (by first | exact B6.out | exact B6.out.drN _)).mono ?_); rintro r w' ⟨rfl, rfl⟩)
      | (go_at_call 22; (with_reducible refine (err_any w2.heap.size s c f _ (by first | exact C6.out | exact C6.out.drN _)).mono ?_); rintro r w' ⟨rfl, rfl⟩)
      | (go_at_call 10; refine (awake_any _).mono ?_; rintro e w9 ⟨rfl, h7⟩))
    go_ret
    exact ⟨rfl, Bs.sq (below_drewN Z6.out _) h7⟩
end Go.Proofs.Ythadbaknlipacaa
