/- Plain functions of layer 4 (wire): varints as lists of bytes; what a reader reads. No program in sight. -/
import Derived.Test.YthadbaknlipacaaBase
import Derived.Laws.BitsAllLaws
namespace Go.Proofs.Ythadbaknlipacaa
namespace P4

def vE : Nat → Nat → List UInt8
  | 0, n => [UInt8.ofNat n]
  | k + 1, n => if n < 128 then [UInt8.ofNat n] else UInt8.ofNat (128 + n % 128) :: vE k (n / 128)
def venc (n : Nat) : List UInt8 := vE 9 n
def vD : Nat → Nat → List UInt8 → Nat → Nat × Nat × Nat
  | 0, _, _, _ => (0, 0, 2)
  | _ + 1, _, [], _ => (0, 0, 1)
  | r + 1, i, c :: l, acc =>
    if r = 0 ∧ 1 < c.toNat then (0, 0, 2)
    else if 128 ≤ c.toNat then vD r (i + 1) l (acc + c.toNat % 128 * 128 ^ i)
    else if c.toNat = 0 ∧ 0 < i then (0, 0, 2)
    else (acc + c.toNat % 128 * 128 ^ i, i + 1, 0)
def vdec (l : List UInt8) : Nat × Nat × Nat := vD 10 0 l 0

theorem ofNat_lt {n : Nat} (h : n < 256) : (UInt8.ofNat n).toNat = n := by rw [UInt8.toNat_ofNat', Nat.mod_eq_of_lt h]
theorem vE_pos (r n : Nat) : 1 ≤ (vE r n).length := by
  cases r with
  | zero => exact Nat.le_refl _
  | succ r => unfold vE; split <;> simp
theorem vE_le (r : Nat) : ∀ n, (vE r n).length ≤ r + 1 := by
  induction r with
  | zero => intro n; exact Nat.le_refl _
  | succ r ih => intro n; unfold vE; split
                 · simp
                 · rw [List.length_cons]; have := ih (n / 128); omega
theorem dec_enc (r : Nat) : ∀ (i n acc : Nat) (l : List UInt8), n < 2 * 128 ^ r → (i = 0 ∨ 0 < n) → vD (r + 1) i (vE r n ++ l) acc = (acc + n * 128 ^ i, i + (vE r n).length, 0) := by
  induction r with
  | zero =>
    intro i n acc l hn hi
    have hn2 : n < 2 := by simpa using hn
    have e : (UInt8.ofNat n).toNat = n := ofNat_lt (by omega)
    show (if 0 = 0 ∧ 1 < (UInt8.ofNat n).toNat then _ else _) = _
    rw [e, if_neg (by omega), if_neg (by omega), if_neg (by omega), Nat.mod_eq_of_lt (by omega)]
    rfl
  | succ r ih =>
    intro i n acc l hn hi
    by_cases h : n < 128
    · have e : (UInt8.ofNat n).toNat = n := ofNat_lt (by omega)
      rw [show vE (r + 1) n = [UInt8.ofNat n] from by unfold vE; rw [if_pos h]]
      show (if r + 1 = 0 ∧ 1 < (UInt8.ofNat n).toNat then _ else _) = _
      rw [e, if_neg (by omega), if_neg (by omega), if_neg (by omega), Nat.mod_eq_of_lt h]
      rfl
    · have e : (UInt8.ofNat (128 + n % 128)).toNat = 128 + n % 128 := ofNat_lt (by omega)
      rw [show vE (r + 1) n = UInt8.ofNat (128 + n % 128) :: vE r (n / 128) from by conv => lhs; unfold vE; rw [if_neg h]]
      show (if r + 1 = 0 ∧ 1 < (UInt8.ofNat (128 + n % 128)).toNat then _ else if 128 ≤ (UInt8.ofNat (128 + n % 128)).toNat then vD (r + 1) (i + 1) (vE r (n / 128) ++ l) (acc + (UInt8.ofNat (128 + n % 128)).toNat % 128 * 128 ^ i) else _) = _
      rw [e, if_neg (by omega), if_pos (by omega), ih (i + 1) (n / 128) _ l (by rw [Nat.pow_succ] at hn; omega) (.inr (by omega))]
      rw [show (128 + n % 128) % 128 = n % 128 from by omega, Nat.pow_succ]
      have key : acc + n % 128 * 128 ^ i + n / 128 * (128 ^ i * 128) = acc + n * 128 ^ i := by
        rw [Nat.add_assoc, show n / 128 * (128 ^ i * 128) = (n / 128 * 128) * 128 ^ i from by ac_rfl, ← Nat.add_mul]
        congr 2
        omega
      rw [key, List.length_cons]
      congr 2
      omega
theorem enc_dec (r : Nat) : ∀ (i : Nat) (l : List UInt8) (acc n k : Nat), vD (r + 1) i l acc = (n, k, 0) →
    ∃ m, n = acc + m * 128 ^ i ∧ m < 2 * 128 ^ r ∧ (0 < i → 0 < m) ∧ k = i + (vE r m).length ∧ (vE r m).length ≤ l.length ∧ l.take (vE r m).length = vE r m := by
  induction r with
  | zero =>
    intro i l acc n k h
    match l, h with
    | [], h => simp [vD] at h
    | c :: l, h =>
      simp only [vD] at h
      by_cases h1 : 1 < c.toNat
      · rw [if_pos ⟨trivial, h1⟩] at h; simp at h
      · rw [if_neg (by omega), if_neg (by omega)] at h
        by_cases h2 : c.toNat = 0 ∧ 0 < i
        · rw [if_pos h2] at h; simp at h
        · rw [if_neg h2] at h
          simp only [Prod.mk.injEq] at h
          have ec : UInt8.ofNat c.toNat = c := by simp
          refine ⟨c.toNat, ?_, by omega, by omega, by rw [← h.2.1]; rfl, by simp [vE], by simp [vE]⟩
          rw [← h.1, Nat.mod_eq_of_lt (by omega)]
  | succ r ih =>
    intro i l acc n k h
    match l, h with
    | [], h => simp [vD] at h
    | c :: l, h =>
      have hc := c.toNat_lt
      rw [vD, if_neg (by omega)] at h
      by_cases h2 : 128 ≤ c.toNat
      · rw [if_pos h2] at h
        obtain ⟨m, h3, h4, h5, h6, h7, h8⟩ := ih _ _ _ _ _ h
        have hm : 0 < m := h5 (by omega)
        have em : vE (r + 1) (128 * m + c.toNat % 128) = c :: vE r m := by
          conv => lhs; unfold vE
          rw [if_neg (by omega), show (128 * m + c.toNat % 128) / 128 = m from by omega, show 128 + (128 * m + c.toNat % 128) % 128 = c.toNat from by omega]
          simp
        refine ⟨128 * m + c.toNat % 128, ?_, ?_, by omega, ?_, ?_, ?_⟩
        · rw [h3, Nat.pow_succ, Nat.add_mul, Nat.add_assoc, Nat.add_comm (128 * m * 128 ^ i)]
          congr 2
          ac_rfl
        · rw [Nat.pow_succ]; omega
        · rw [em, h6, List.length_cons]; omega
        · rw [em, List.length_cons, List.length_cons]; omega
        · rw [em, List.length_cons, List.take_succ_cons, h8]
      · rw [if_neg h2] at h
        by_cases h3 : c.toNat = 0 ∧ 0 < i
        · rw [if_pos h3] at h; simp at h
        · rw [if_neg h3] at h
          simp only [Prod.mk.injEq] at h
          have ec : vE (r + 1) c.toNat = [c] := by unfold vE; rw [if_pos (by omega)]; simp
          refine ⟨c.toNat, by rw [← h.1, Nat.mod_eq_of_lt (by omega)], ?_, by omega, by rw [← h.2.1, ec]; rfl, by rw [ec]; simp, by rw [ec]; simp⟩
          have : 128 ^ (r + 1) ≥ 128 := by rw [Nat.pow_succ]; have := Nat.pow_pos (n := r) (show 0 < 128 by decide); omega
          omega

theorem vD_err (r : Nat) : ∀ (i : Nat) (l : List UInt8) (acc : Nat), (vD r i l acc).2.2 = 0 ∨ vD r i l acc = (0, 0, 1) ∨ vD r i l acc = (0, 0, 2) := by
  induction r with
  | zero => intro i l acc; exact .inr (.inr rfl)
  | succ r ih =>
    intro i l acc
    match l with
    | [] => exact .inr (.inl rfl)
    | c :: l =>
      rw [vD]
      split
      · exact .inr (.inr rfl)
      · split
        · exact ih _ _ _
        · split
          · exact .inr (.inr rfl)
          · exact .inl rfl
theorem vdec_enc (n : Nat) (l : List UInt8) (h : n < 18446744073709551616) : vdec (venc n ++ l) = (n, (venc n).length, 0) := by
  have := dec_enc 9 0 n 0 l (by omega) (.inl rfl)
  unfold vdec venc
  rw [this]
  simp
theorem vdec_ok {l : List UInt8} {n k : Nat} (h : vdec l = (n, k, 0)) : n < 18446744073709551616 ∧ k = (venc n).length ∧ k ≤ l.length ∧ l.take k = venc n ∧ 1 ≤ k := by
  obtain ⟨m, h1, h2, _, h3, h4, h5⟩ := enc_dec 9 0 l 0 n k h
  have hm : n = m := by simpa using h1
  subst hm
  have hk : k = (vE 9 n).length := by omega
  have := vE_pos 9 n
  refine ⟨by omega, hk, by omega, by rw [hk]; exact h5, by omega⟩
theorem vdec_err (l : List UInt8) : (vdec l).2.2 = 0 ∨ vdec l = (0, 0, 1) ∨ vdec l = (0, 0, 2) := vD_err 10 0 l 0
end P4
end Go.Proofs.Ythadbaknlipacaa
