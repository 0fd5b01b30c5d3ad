/- The walk of the law WireLengths. -/
import Derived.Test.YthadbaknlipacaaW7
namespace Go.Proofs.Ythadbaknlipacaa
open Go.RowKit
set_option linter.unusedVariables false

namespace P4
def gl (r x : Nat) : Nat := if x = 0 then 0 else (vE r x).length
theorem vE_succ_len (r n : Nat) (h : n < 2 * 128 ^ (r + 1)) : (vE (r + 1) n).length = 1 + gl r (n / 128) := by
  by_cases hn : n < 128
  · rw [vE, if_pos hn, gl, if_pos (by omega)]; rfl
  · rw [vE, if_neg hn, gl, if_neg (by omega), List.length_cons]; omega
theorem gl_step (r x : Nat) (h : x < 2 * 128 ^ r) (hx : 0 < x) : ∃ r', x / 128 < 2 * 128 ^ r' ∧ gl r x = 1 + gl r' (x / 128) := by
  cases r with
  | zero =>
    have hx1 : x = 1 := by simp at h; omega
    subst hx1
    exact ⟨0, by decide, by decide⟩
  | succ r =>
    refine ⟨r, by rw [Nat.pow_succ] at h; omega, ?_⟩
    rw [gl, if_neg (by omega), vE_succ_len r x h]
theorem hi_bit (r : Nat) : ∀ (n i : Nat) (h : i < (vE r n).length), n < 2 * 128 ^ r → (128 ≤ ((vE r n)[i]).toNat ↔ i < (vE r n).length - 1) := by
  induction r with
  | zero =>
    intro n i h hn
    have hi : i = 0 := by simp [vE] at h; exact h
    subst hi
    have e : ((vE 0 n)[0]).toNat = n := by show (UInt8.ofNat n).toNat = n; exact ofNat_lt (by simp at hn; omega)
    rw [e]
    have : (vE 0 n).length = 1 := rfl
    simp at hn
    omega
  | succ r ih =>
    intro n i h hn
    by_cases hlt : n < 128
    · have hv : vE (r + 1) n = [UInt8.ofNat n] := by rw [vE, if_pos hlt]
      have hi : i = 0 := by rw [hv] at h; simpa using h
      subst hi
      simp only [hv]
      have e : (UInt8.ofNat n).toNat = n := ofNat_lt (by omega)
      simp only [List.getElem_cons_zero, List.length_cons, List.length_nil]
      omega
    · have hv : vE (r + 1) n = UInt8.ofNat (128 + n % 128) :: vE r (n / 128) := by rw [vE, if_neg hlt]
      have hp := vE_pos r (n / 128)
      cases i with
      | zero =>
        simp only [hv, List.getElem_cons_zero, List.length_cons]
        rw [ofNat_lt (by omega)]
        omega
      | succ i =>
        have h' : i < (vE r (n / 128)).length := by rw [hv] at h; simpa using h
        have := ih (n / 128) i h' (by rw [Nat.pow_succ] at hn; omega)
        simp only [hv, List.getElem_cons_succ, List.length_cons]
        rw [this]
        omega
end P4

set_option maxRecDepth 100000 in
set_option maxHeartbeats 800000 in
theorem walk_WireLengths (a0 : Int) (w0 : (Lit.int .u64 a0).wf = true) (w : World) :
    Calls Try.prog 5 #[.int .u64 a0] w fun e w' => e = .returned (.bool true) ∧ Below w.heap.size w w' := by
  obtain ⟨n, rfl, hn⟩ := u64_of a0 w0
  have HN := Lib.hid hn
  have hle : (P4.venc n).length ≤ 10 := P4.vE_le 9 n
  have hge : 1 ≤ (P4.venc n).length := P4.vE_pos 9 n
  have HL := Lib.hid (show (P4.venc n).length = 1 + P4.gl 8 (n / 128) from P4.vE_succ_len 8 n (by omega))
  have HB := Lib.hid (fun (i : Nat) (h : i < (P4.venc n).length) => P4.hi_bit 9 n i h (by omega))
  have hsz := Lib.hid (Bs.mk_size (P4.venc n))
  clear w0 hn
  go_enter Try.func5, Try.ntmps5
  go_wp2_with fail
  refine (uint_any _ _ HN.out).mono ?_
  rintro r w1 ⟨rfl, hb⟩
  have hl8 : n / 128 < 2 * 128 ^ 8 := by have := HN.out; omega
  have HL8 := Lib.hid hl8
  clear hl8
  obtain ⟨t, ht⟩ : ∃ t, t = Bs.mk (P4.venc n) := ⟨_, rfl⟩
  have HT := Lib.hid ht
  rw [← ht]
  clear ht
  have hs1 : t.size ≤ 10 := by rw [HT.out, hsz.out]; exact hle
  have hs2 : 1 ≤ t.size := by rw [HT.out, hsz.out]; exact hge
  have HB2 := Lib.hid (show ∀ (i : Nat) (h : i < t.size), (128 ≤ (t[i]).toNat ↔ i < t.size - 1) by
    have e := HT.out
    subst e
    intro i h
    have h' : i < (P4.venc n).length := by rw [← hsz.out]; exact h
    have := HB.out i h'
    rw [hsz.out]
    exact this)
  have HG := Lib.hid (show 1 + P4.gl 8 (n / 128) = t.size by rw [HT.out, hsz.out, HL.out])
  have hn64 : n < 18446744073709551616 := HN.out
  clear HB HL hsz hle hge HN
  go_wp2
  go_loop [4, 5] (fun g x => ∃ g' x' r : Nat, g = .int .i64 g' ∧ x = .int .u64 x' ∧ g' ≤ 10 ∧ x' < 18446744073709551616 ∧ x' < 2 * 128 ^ r ∧ g' + P4.gl r x' = t.size) (fun _ x => (intOf x).toNat)
  case atStart => exact ⟨1, n / 128, 8, rfl, Bs.val_int (by omega), by omega, by omega, HL8.out, HG.out⟩
  case round =>
    obtain ⟨g, x, r, rfl, rfl, hg, hx, hxr, hgl⟩ := hrel
    by_cases hx0 : 0 < x
    · obtain ⟨r', h1, h2⟩ := P4.gl_step r x hxr hx0
      have H1 := Lib.hid h1
      have H2 := Lib.hid h2
      have H3 := Lib.hid hgl
      have hg9 : g ≤ 9 := by omega
      clear h1 h2 hgl hxr
      go_wp2
      go_round
      case rel => exact ⟨g + 1, x / 128, r', by go_num, Bs.val_int (by omega), by omega, by omega, H1.out, by rw [← H3.out, H2.out]; omega⟩
      case measure => simp [intOf]; omega
    · have hgt : g = t.size := by
        have : x = 0 := by omega
        subst this
        rw [P4.gl, if_pos rfl] at hgl
        exact hgl
      have hne : ((t.size : Int) != (g : Int)) = false := by rw [hgt]; simp
      clear hgt hgl hxr
      go_wp2
      go_loop [6] (fun i => ∃ i' : Nat, i = .int .i64 i' ∧ i' ≤ t.size) (fun i => t.size - (intOf i).toNat)
      case atStart => exact ⟨0, rfl, Nat.zero_le _⟩
      case round =>
        obtain ⟨i, rfl, hi⟩ := hrel
        by_cases hlt : i < t.size
        · have hbit := HB2.out i hlt
          by_cases hl : i < t.size - 1
          · have hh := hbit.2 hl
            have hl' : (i : Int) < (t.size : Int) - 1 := by omega
            have hd : decide ((128 : Int) ≤ ((t[i].toNat : Nat) : Int)) = true := decide_eq_true (by omega)
            clear hbit
            go_wp2
            go_round
            case rel => exact ⟨i + 1, by go_num, by omega⟩
            case measure => simp [intOf]; omega
          · have hh : ¬ 128 ≤ (t[i]).toNat := fun h => hl (hbit.1 h)
            have hl' : ¬ (i : Int) < (t.size : Int) - 1 := by omega
            have hd : decide ((128 : Int) ≤ ((t[i].toNat : Nat) : Int)) = false := decide_eq_false (by omega)
            clear hbit
            go_wp2
            go_round
            case rel => exact ⟨i + 1, by go_num, by omega⟩
            case measure => simp [intOf]; omega
        · go_wp2_with (go_at_call 10; refine (awake_any _).mono ?_; rintro e w2 ⟨rfl, h7⟩)
          go_ret
          exact ⟨rfl, Bs.sq hb h7⟩
end Go.Proofs.Ythadbaknlipacaa
