/- Text for every state of a reader; awake. -/
import Derived.Test.YthadbaknlipacaaW5
namespace Go.Proofs.Ythadbaknlipacaa
open Go.RowKit
set_option linter.unusedVariables false

theorem txF_ok {s : ByteArray} {most : Int} {k : Nat} {t : ByteArray} (h : txF s most = (k, 0, t)) : k ≤ s.size := by
  unfold txF at h
  split at h
  · split at h
    · simp at h
    · split at h
      · simp at h
      · rename_i h1 _ h3
        have := (P4.vdec_ok (show P4.vdec s.data.toList = (_, _, 0) by rw [← h1])).2.2.1
        rw [Bs.len_list] at this
        have h4 := congrArg Prod.fst h
        simp only at h4 this
        generalize (P4.vdec s.data.toList).2.1 = kk at *
        generalize (P4.vdec s.data.toList).1 = nn at *
        omega
  · rename_i h1
    simp only [Prod.mk.injEq] at h
    exact absurd h.2.1 h1

theorem rText_any (p : Nat) (s : ByteArray) (a e : Nat) (most : Int) (w : World) (hm1 : -9223372036854775808 ≤ most) (hm2 : most ≤ 9223372036854775807) (h : Rd w p s a e) (ha : a ≤ s.size) (hs : s.size ≤ 140737488355328) :
    Calls Try.prog 20 #[.pointer (some ⟨p, 0, none⟩), .int .i64 most] w (TPost p s w (rdT s a e most)) := by
  unfold rdT
  by_cases he : e = 0
  · subst he
    rw [if_pos rfl]
    obtain ⟨k, er, t, hv⟩ : ∃ k er t, txF (s.extract a s.size) most = (k, er, t) := ⟨_, _, _, rfl⟩
    rw [hv]
    by_cases her : er = 0
    · subst her
      rw [if_pos rfl]
      have := txF_ok hv
      rw [ByteArray.size_extract] at this
      exact rText_good p s a k t most w hm1 hm2 h ha hs (by omega) hv
    · rw [if_neg her]
      exact rText_bad p s a er most w hm1 hm2 h ha hs (by omega) k t hv
  · rw [if_neg he]
    exact rText_err p s a e most w h (by omega)

theorem Rd.but {w w' : World} {p q : Nat} {s : ByteArray} {a e : Nat} (h : Rd w q s a e) (hb : But p w w') (hne : q ≠ p) : Rd w' q s a e := h.of (hb.block q h.lt (by simpa using hne))
theorem Rd.drN {w : World} {p : Nat} {s : ByteArray} {a e : Nat} (h : Rd w p s a e) (n : Nat) : Rd (w.drewN n) p s a e := h
theorem Rd.new (w : World) (s : ByteArray) : Rd (w.alloc (.cells #[.string s, .int .i64 0, .int .i64 0] 67)) w.heap.size s 0 0 := by
  unfold Rd
  show (w.heap.push _)[_]? = _
  rw [Array.getElem?_push_size]
  rfl
theorem Rd.bel {w w' : World} {p : Nat} {s : ByteArray} {a e : Nat} (h : Rd w p s a e) (hb : Below w.heap.size w w') : Rd w' p s a e := h.of (hb.block p h.lt)
/-- A call that turns one block of the caller's own, and new blocks. -/
theorem bb {w a b : World} {p : Nat} (h : Below w.heap.size w a) (k : But p a b) (hp : w.heap.size ≤ p) : Below w.heap.size w b :=
  h.grown k h.size (fun i hi => by simp only [Option.some.injEq] at hi; omega)

set_option maxRecDepth 100000 in
set_option maxHeartbeats 1600000 in
theorem awake_any (w : World) : Calls Try.prog 10 #[] w fun e w' => e = .returned (.bool true) ∧ Below w.heap.size w w' := by
  go_enter Try.func10, Try.ntmps10
  go_wp2_with fail
  refine (new_any _ _).mono ?_
  rintro r w1 ⟨rfl, hw1⟩
  have A1 := Lib.hid (hw1 ▸ Rd.new w _)
  have B1 := Lib.hid (hw1 ▸ Bs.al (Bs.rf w) _)
  clear hw1
  have l1 := A1.out.lt
  go_wp2_with fail
  refine (new_any _ _).mono ?_
  rintro r w2 ⟨rfl, hw2⟩
  have X2 := Lib.hid (hw2 ▸ Rd.new w1 _)
  have A2 := Lib.hid (hw2 ▸ A1.out.al _)
  have B2 := Lib.hid (hw2 ▸ Bs.al B1.out _)
  clear hw2 A1 B1
  have l2 := X2.out.lt
  go_wp2_with fail
  refine (rUint_any _ _ _ _ _ A2.out (by decide) (by decide)).mono ?_
  rintro r w3 ⟨rfl, hB, hR⟩
  rw [show rdU ⟨#[128, 0]⟩ 0 0 = (0, 0, 2) from by decide +kernel] at *
  have A3 := Lib.hid hR
  have X3 := Lib.hid (X2.out.but hB (by omega))
  have B3 := Lib.hid (bb B2.out hB (Nat.le_refl _))
  have l3 := B3.out.size
  have k3 := hB.size
  clear hB hR A2 X2 B2
  go_wp2_with fail
  refine (rText_any _ _ _ _ _ _ (by decide) (by decide) X3.out (by decide) (by decide)).mono ?_
  rintro r w4 ⟨rfl, hB, hR⟩
  rw [show rdT ⟨#[3, 97, 98]⟩ 0 0 10 = (⟨#[]⟩, 0, 1) from by decide +kernel] at *
  have X4 := Lib.hid hR
  have A4 := Lib.hid (A3.out.but hB (by omega))
  have B4 := Lib.hid (bb B3.out hB (by omega))
  have k4 := hB.size
  clear hB hR A3 X3 B3
  go_wp2_with fail
  refine (new_any _ _).mono ?_
  rintro r w5 ⟨rfl, hw5⟩
  have C5 := Lib.hid (hw5 ▸ Rd.new w4 _)
  have X5 := Lib.hid (hw5 ▸ X4.out.al _)
  have A5 := Lib.hid (hw5 ▸ A4.out.al _)
  have B5 := Lib.hid (hw5 ▸ Bs.al B4.out _)
  have l5 := C5.out.lt
  clear hw5 A4 B4 X4
  go_wp2_with fail
  refine (rUint_any _ _ _ _ _ C5.out (by decide) (by decide)).mono ?_
  rintro r w6 ⟨rfl, hB, hR⟩
  rw [show rdU ⟨#[172, 2, 3]⟩ 0 0 = (300, 2, 0) from by decide +kernel] at *
  have C6 := Lib.hid hR
  have X6 := Lib.hid (X5.out.but hB (by omega))
  have A6 := Lib.hid (A5.out.but hB (by omega))
  have B6 := Lib.hid (bb B5.out hB (by omega))
  have k6 := hB.size
  clear hB hR A5 X5 B5 C5
  go_wp2_with fail
  refine (rInt_any _ _ _ _ _ C6.out (by decide) (by decide)).mono ?_
  rintro r w7 ⟨rfl, hB, hR⟩
  rw [show rdU ⟨#[172, 2, 3]⟩ 2 0 = (3, 3, 0) from by decide +kernel] at *
  rw [show P4.unzz (3, 3, 0).1 = -2 from by decide]
  have C7 := Lib.hid hR
  have X7 := Lib.hid (X6.out.but hB (by omega))
  have A7 := Lib.hid (A6.out.but hB (by omega))
  have B7 := Lib.hid (bb B6.out hB (by omega))
  clear hB hR A6 X6 B6 C6
  go_wp2_with fail
  refine (uint_any _ _ (by decide)).mono ?_
  rintro r w8 ⟨rfl, hB⟩
  rw [show Bs.mk (P4.venc 300) = ⟨#[172, 2]⟩ from by decide +kernel]
  have C8 := Lib.hid (C7.out.bel hB)
  have X8 := Lib.hid (X7.out.bel hB)
  have A8 := Lib.hid (A7.out.bel hB)
  have B8 := Lib.hid (Bs.sq B7.out hB)
  clear hB A7 X7 B7 C7
  go_wp2_with fail
  refine (int_any _ _ (by decide)).mono ?_
  rintro r w9 ⟨rfl, hB⟩
  rw [show Bs.mk (P4.venc (P4.zz (-2))) = ⟨#[3]⟩ from by decide +kernel]
  have C9 := Lib.hid (C8.out.bel hB)
  have X9 := Lib.hid (X8.out.bel hB)
  have A9 := Lib.hid (A8.out.bel hB)
  have B9 := Lib.hid (Bs.sq B8.out hB)
  clear hB A8 X8 B8 C8
  go_wp2_with fail
  refine (text_any _ _ (by decide)).mono ?_
  rintro r w10 ⟨rfl, hB⟩
  rw [show Bs.mk (textL (ByteArray.mk #[97, 98]).data.toList) = ⟨#[2, 97, 98]⟩ from by decide +kernel]
  have C10 := Lib.hid (C9.out.bel hB)
  have X10 := Lib.hid (X9.out.bel hB)
  have A10 := Lib.hid (A9.out.bel hB)
  have B10 := Lib.hid (Bs.sq B9.out hB)
  clear hB A9 X9 B9 C9
  go_wp2_with fail
  refine (err_any _ _ _ _ _ A10.out).mono ?_
  rintro r w11 ⟨rfl, rfl⟩
  go_wp2_with fail
  refine (err_any _ _ _ _ _ X10.out).mono ?_
  rintro r w11 ⟨rfl, rfl⟩
  go_wp2_with fail
  refine (left_any _ _ _ _ _ X10.out (by decide) (by decide)).mono ?_
  rintro r w12 ⟨rfl, n1, rfl⟩
  rw [show ((ByteArray.mk #[3, 97, 98]).size - 0 : Nat) = 3 from by decide]
  go_wp2_with fail
  refine (end_any _ _ _ _ _ (C10.out.drN n1) (by decide) (by decide)).mono ?_
  rintro r w13 ⟨rfl, n2, rfl⟩
  rw [show endV (ByteArray.mk #[172, 2, 3]) 3 0 = 0 from by decide]
  go_wp2
  go_ret
  exact ⟨rfl, below_drewN B10.out _⟩
end Go.Proofs.Ythadbaknlipacaa
