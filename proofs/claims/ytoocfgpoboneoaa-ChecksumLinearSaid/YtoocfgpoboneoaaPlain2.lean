/- The plain laws of the CRC: it is linear, and it tells two strings apart whose differing bits lie within 32 consecutive bits. -/
import Derived.Test.YtoocfgpoboneoaaPlain
namespace Go.Proofs.Ytoocfgpoboneoaa
namespace P5

theorem xor_cancel (a b c : Nat) (h : a ^^^ c = b ^^^ c) : a = b := by
  have := congrArg (· ^^^ c) h
  simpa [Nat.xor_assoc] using this
theorem stp_xor (x y : Nat) : stp (x ^^^ y) = stp x ^^^ stp y := by
  have h1 : (x ^^^ y) / 2 = x / 2 ^^^ y / 2 := Nat.xor_div_two
  have h2 : (x ^^^ y) % 2 = x % 2 ^^^ y % 2 := Nat.xor_mod_two_pow (n := 1)
  unfold stp
  rw [h1, h2]
  generalize (2197175160 : Nat) = p
  rcases Nat.mod_two_eq_zero_or_one x with hx | hx <;> rcases Nat.mod_two_eq_zero_or_one y with hy | hy <;> rw [hx, hy]
  · rfl
  · show x / 2 ^^^ y / 2 ^^^ p = x / 2 ^^^ (y / 2 ^^^ p); ac_rfl
  · show x / 2 ^^^ y / 2 ^^^ p = x / 2 ^^^ p ^^^ y / 2; ac_rfl
  · show x / 2 ^^^ y / 2 = (x / 2 ^^^ p) ^^^ (y / 2 ^^^ p)
    rw [show (x / 2 ^^^ p) ^^^ (y / 2 ^^^ p) = (x / 2 ^^^ y / 2) ^^^ (p ^^^ p) from by ac_rfl, Nat.xor_self, Nat.xor_zero]
theorem stp_double (y : Nat) : stp (2 * y) = y := by
  unfold stp; rw [if_neg (by omega)]; omega
theorem stps_xor (k : Nat) : ∀ x y, stps k (x ^^^ y) = stps k x ^^^ stps k y := by
  induction k with
  | zero => intro x y; rfl
  | succ k ih => intro x y; show stps k (stp _) = stps k (stp x) ^^^ stps k (stp y); rw [stp_xor, ih]
theorem stps_add (a b : Nat) : ∀ x, stps (a + b) x = stps b (stps a x) := by
  induction a with
  | zero => intro x; simp [stps]
  | succ a ih => intro x; rw [show a + 1 + b = (a + b) + 1 from by omega]; show stps (a + b) (stp x) = stps b (stps a (stp x)); exact ih _
theorem stps_shift (k : Nat) : ∀ y, stps k (y <<< k) = y := by
  induction k with
  | zero => intro y; rfl
  | succ k ih =>
    intro y
    show stps k (stp _) = y
    rw [Nat.shiftLeft_succ, stp_double, ih]
theorem stp_ne (x : Nat) (h : x < 4294967296) (hx : x ≠ 0) : stp x ≠ 0 := by
  unfold stp
  split
  · intro h0
    have : x / 2 = 2197175160 := xor_cancel _ _ 2197175160 (by rw [h0, Nat.xor_self])
    omega
  · omega
theorem stps_ne (k : Nat) : ∀ x, x < 4294967296 → x ≠ 0 → stps k x ≠ 0 := by
  induction k with
  | zero => intro x _ hx; exact hx
  | succ k ih => intro x h hx; exact ih _ (stp_lt h) (stp_ne x h hx)
/-- The bytes as one number, the first byte least. -/
def num : List UInt8 → Nat
  | [] => 0
  | b :: l => b.toNat ^^^ (num l <<< 8)
theorem crcF_num (l : List UInt8) : ∀ x, crcF l x = stps (8 * l.length) (x ^^^ num l) := by
  induction l with
  | nil => intro x; show x = x ^^^ 0; rw [Nat.xor_zero]
  | cons b l ih =>
    intro x
    show crcF l (stps 8 (x ^^^ b.toNat)) = _
    rw [ih, List.length_cons, show 8 * (l.length + 1) = 8 + 8 * l.length from by omega, stps_add]
    show _ = stps (8 * l.length) (stps 8 (x ^^^ (b.toNat ^^^ (num l <<< 8))))
    rw [← Nat.xor_assoc, stps_xor 8 (x ^^^ b.toNat), stps_shift]
/-- The same checksum of two strings of one length: their exclusive or is brought to nought. -/
theorem crc_eq {l m : List UInt8} (hl : l.length = m.length) (h : crc l = crc m) : stps (8 * l.length) (num l ^^^ num m) = 0 := by
  unfold crc at h
  have h := xor_cancel _ _ _ h
  rw [crcF_num, crcF_num, stps_xor, stps_xor, ← hl, Nat.xor_comm _ (stps _ (num l)), Nat.xor_comm _ (stps _ (num m))] at h
  rw [stps_xor, xor_cancel _ _ _ h, Nat.xor_self]
theorem burst {l m : List UInt8} (hl : l.length = m.length) (p d : Nat) (hp : p ≤ 8 * l.length) (hd : d < 4294967296) (hd0 : d ≠ 0) (h : num m = num l ^^^ (d <<< p)) : crc l ≠ crc m := by
  intro he
  have := crc_eq hl he
  rw [h, ← Nat.xor_assoc, Nat.xor_self, Nat.zero_xor, show 8 * l.length = p + (8 * l.length - p) from by omega, stps_add, stps_shift] at this
  exact stps_ne _ d hd hd0 this

def zip3 : List UInt8 → List UInt8 → List UInt8 → List UInt8
  | a :: l, b :: m, c :: n => (a ^^^ b ^^^ c) :: zip3 l m n
  | _, _, _ => []
theorem num_zip3 : ∀ (l m n : List UInt8), l.length = m.length → l.length = n.length → num (zip3 l m n) = num l ^^^ num m ^^^ num n ∧ (zip3 l m n).length = l.length
  | [], [], [], _, _ => by simp [zip3, num]
  | a :: l, b :: m, c :: n, h1, h2 => by
    have ih := num_zip3 l m n (by simpa using h1) (by simpa using h2)
    constructor
    · show (a ^^^ b ^^^ c).toNat ^^^ (num (zip3 l m n) <<< 8) = _
      rw [ih.1, UInt8.toNat_xor, UInt8.toNat_xor, Nat.shiftLeft_xor_distrib, Nat.shiftLeft_xor_distrib]
      show _ = (a.toNat ^^^ num l <<< 8) ^^^ (b.toNat ^^^ num m <<< 8) ^^^ (c.toNat ^^^ num n <<< 8)
      ac_rfl
    · show (zip3 l m n).length + 1 = l.length + 1
      rw [ih.2]
theorem zip3_snoc : ∀ (l m n : List UInt8) (x y z : UInt8), l.length = m.length → l.length = n.length → zip3 (l ++ [x]) (m ++ [y]) (n ++ [z]) = zip3 l m n ++ [x ^^^ y ^^^ z]
  | [], [], [], _, _, _, _, _ => rfl
  | a :: l, b :: m, c :: n, x, y, z, h1, h2 => by
    have ih := zip3_snoc l m n x y z (by simpa using h1) (by simpa using h2)
    show (a ^^^ b ^^^ c) :: zip3 (l ++ [x]) (m ++ [y]) (n ++ [z]) = _
    rw [ih]; rfl
theorem xor3 (x y z : UInt8) : bits .xor .u8 (bits .xor .u8 (x.toNat : Int) (y.toNat : Int)) (z.toNat : Int) = (((x ^^^ y ^^^ z).toNat : Nat) : Int) := by
  have hx := x.toNat_lt
  have hy := y.toNat_lt
  rw [u8_xor_nat _ _ hx hy, u8_xor_nat _ _ (Nat.xor_lt_two_pow (n := 8) hx hy) z.toNat_lt, UInt8.toNat_xor, UInt8.toNat_xor]
theorem crc_linear (l m n : List UInt8) (h1 : l.length = m.length) (h2 : l.length = n.length) : crc (zip3 l m n) = crc l ^^^ crc m ^^^ crc n := by
  obtain ⟨hn, hl⟩ := num_zip3 l m n h1 h2
  have key : ∀ F A B C G : Nat, F ^^^ (A ^^^ B ^^^ C) ^^^ G = (F ^^^ A ^^^ G) ^^^ (F ^^^ B ^^^ G) ^^^ (F ^^^ C ^^^ G) := by
    intro F A B C G
    have e : (F ^^^ A ^^^ G) ^^^ (F ^^^ B ^^^ G) ^^^ (F ^^^ C ^^^ G) = (F ^^^ F) ^^^ (G ^^^ G) ^^^ (F ^^^ (A ^^^ B ^^^ C) ^^^ G) := by ac_rfl
    rw [e, Nat.xor_self, Nat.xor_self, Nat.xor_self, Nat.zero_xor]
  unfold crc
  rw [crcF_num, crcF_num, crcF_num, crcF_num, hl, ← h1, ← h2, hn]
  simp only [stps_xor]
  exact key _ _ _ _ _

theorem mul_inj (M p q a b : Nat) (hpq : p * q % M = 1 % M) (ha : a < M) (hb : b < M) (h : a * p % M = b * p % M) : a = b := by
  have e : ∀ x, x < M → x * p * q % M = x := by
    intro x hx
    rw [Nat.mul_assoc, Nat.mul_mod, hpq, ← Nat.mul_mod, Nat.mul_one, Nat.mod_eq_of_lt hx]
  rw [← e a ha, ← e b hb, Nat.mul_mod (a * p), h, ← Nat.mul_mod]
theorem fnvB_inj (x : Nat) (c d : UInt8) (hx : x < 18446744073709551616) : fnvB x c = fnvB x d ↔ c = d := by
  constructor
  · intro h
    unfold fnvB at h
    have hc := c.toNat_lt
    have hd := d.toNat_lt
    have h64 : ∀ b : Nat, b < 256 → x ^^^ b < 18446744073709551616 := fun b hb => Nat.xor_lt_two_pow (n := 64) (by omega) (by omega)
    have h := mul_inj 18446744073709551616 1099511628211 14886173955864302971 _ _ (by decide +kernel) (h64 _ hc) (h64 _ hd) h
    have h := xor_cancel c.toNat d.toNat x (by rw [Nat.xor_comm _ x, Nat.xor_comm _ x]; exact h)
    exact UInt8.toNat_inj.1 h
  · rintro rfl; rfl

end P5
end Go.Proofs.Ytoocfgpoboneoaa
