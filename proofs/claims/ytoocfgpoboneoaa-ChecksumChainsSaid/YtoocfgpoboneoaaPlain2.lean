/- The plain laws of the CRC: it is linear, and it tells two strings apart whose differing bits lie within 32 consecutive bits. -/
import Derived.Test.YtoocfgpoboneoaaPlain
namespace Go.Proofs.Ytoocfgpoboneoaa
namespace P5

theorem xor_cancel (a b c : Nat) (h : a ^^^ c = b ^^^ c) : a = b := by
  have := congrArg (· ^^^ c) h
  simpa [Nat.xor_assoc] using this
theorem stp_xor (x y : Nat) : stp (x ^^^ y) = stp x ^^^ stp y := by
  have h1 : (x ^^^ y) / 2 = x / 2 ^^^ y / 2 := Nat.xor_div_two
  have h2 : (x ^^^ y) % 2 = x % 2 ^^^ y % 2 := Nat.xor_mod_two_pow (n := 1)
  unfold stp
  rw [h1, h2]
  generalize (2197175160 : Nat) = p
  rcases Nat.mod_two_eq_zero_or_one x with hx | hx <;> rcases Nat.mod_two_eq_zero_or_one y with hy | hy <;> rw [hx, hy]
  · rfl
  · show x / 2 ^^^ y / 2 ^^^ p = x / 2 ^^^ (y / 2 ^^^ p); ac_rfl
  · show x / 2 ^^^ y / 2 ^^^ p = x / 2 ^^^ p ^^^ y / 2; ac_rfl
  · show x / 2 ^^^ y / 2 = (x / 2 ^^^ p) ^^^ (y / 2 ^^^ p)
    rw [show (x / 2 ^^^ p) ^^^ (y / 2 ^^^ p) = (x / 2 ^^^ y / 2) ^^^ (p ^^^ p) from by ac_rfl, Nat.xor_self, Nat.xor_zero]
theorem stp_double (y : Nat) : stp (2 * y) = y := by
  unfold stp; rw [if_neg (by omega)]; omega
theorem stps_xor (k : Nat) : ∀ x y, stps k (x ^^^ y) = stps k x ^^^ stps k y := by
  induction k with
  | zero => intro x y; rfl
  | succ k ih => intro x y; show stps k (stp _) = stps k (stp x) ^^^ stps k (stp y); rw [stp_xor, ih]
theorem stps_add (a b : Nat) : ∀ x, stps (a + b) x = stps b (stps a x) := by
  induction a with
  | zero => intro x; simp [stps]
  | succ a ih => intro x; rw [show a + 1 + b = (a + b) + 1 from by omega]; show stps (a + b) (stp x) = stps b (stps a (stp x)); exact ih _
theorem stps_shift (k : Nat) : ∀ y, stps k (y <<< k) = y := by
  induction k with
  | zero => intro y; rfl
  | succ k ih =>
    intro y
    show stps k (stp _) = y
    rw [Nat.shiftLeft_succ, stp_double, ih]
theorem stp_ne (x : Nat) (h : x < 4294967296) (hx : x ≠ 0) : stp x ≠ 0 := by
  unfold stp
  split
  · intro h0
    have : x / 2 = 2197175160 := xor_cancel _ _ 2197175160 (by rw [h0, Nat.xor_self])
    omega
  · omega
theorem stps_ne (k : Nat) : ∀ x, x < 4294967296 → x ≠ 0 → stps k x ≠ 0 := by
  induction k with
  | zero => intro x _ hx; exact hx
  | succ k ih => intro x h hx; exact ih _ (stp_lt h) (stp_ne x h hx)
/-- The bytes as one number, the first byte least. -/
def num : List UInt8 → Nat
  | [] => 0
  | b :: l => b.toNat ^^^ (num l <<< 8)
theorem crcF_num (l : List UInt8) : ∀ x, crcF l x = stps (8 * l.length) (x ^^^ num l) := by
  induction l with
  | nil => intro x; show x = x ^^^ 0; rw [Nat.xor_zero]
  | cons b l ih =>
    intro x
    show crcF l (stps 8 (x ^^^ b.toNat)) = _
    rw [ih, List.length_cons, show 8 * (l.length + 1) = 8 + 8 * l.length from by omega, stps_add]
    show _ = stps (8 * l.length) (stps 8 (x ^^^ (b.toNat ^^^ (num l <<< 8))))
    rw [← Nat.xor_assoc, stps_xor 8 (x ^^^ b.toNat), stps_shift]
/-- The same checksum of two strings of one length: their exclusive or is brought to nought. -/
theorem crc_eq {l m : List UInt8} (hl : l.length = m.length) (h : crc l = crc m) : stps (8 * l.length) (num l ^^^ num m) = 0 := by
  unfold crc at h
  have h := xor_cancel _ _ _ h
  rw [crcF_num, crcF_num, stps_xor, stps_xor, ← hl, Nat.xor_comm _ (stps _ (num l)), Nat.xor_comm _ (stps _ (num m))] at h
  rw [stps_xor, xor_cancel _ _ _ h, Nat.xor_self]
theorem burst {l m : List UInt8} (hl : l.length = m.length) (p d : Nat) (hp : p ≤ 8 * l.length) (hd : d < 4294967296) (hd0 : d ≠ 0) (h : num m = num l ^^^ (d <<< p)) : crc l ≠ crc m := by
  intro he
  have := crc_eq hl he
  rw [h, ← Nat.xor_assoc, Nat.xor_self, Nat.zero_xor, show 8 * l.length = p + (8 * l.length - p) from by omega, stps_add, stps_shift] at this
  exact stps_ne _ d hd hd0 this

def zip3 : List UInt8 → List UInt8 → List UInt8 → List UInt8
  | a :: l, b :: m, c :: n => (a ^^^ b ^^^ c) :: zip3 l m n
  | _, _, _ => []
theorem num_zip3 : ∀ (l m n : List UInt8), l.length = m.length → l.length = n.length → num (zip3 l m n) = num l ^^^ num m ^^^ num n ∧ (zip3 l m n).length = l.length
  | [], [], [], _, _ => by simp [zip3, num]
  | a :: l, b :: m, c :: n, h1, h2 => by
    have ih := num_zip3 l m n (by simpa using h1) (by simpa using h2)
    constructor
    · show (a ^^^ b ^^^ c).toNat ^^^ (num (zip3 l m n) <<< 8) = _
      rw [ih.1, UInt8.toNat_xor, UInt8.toNat_xor, Nat.shiftLeft_xor_distrib, Nat.shiftLeft_xor_distrib]
      show _ = (a.toNat ^^^ num l <<< 8) ^^^ (b.toNat ^^^ num m <<< 8) ^^^ (c.toNat ^^^ num n <<< 8)
      ac_rfl
    · show (zip3 l m n).length + 1 = l.length + 1
      rw [ih.2]
theorem zip3_snoc : ∀ (l m n : List UInt8) (x y z : UInt8), l.length = m.length → l.length = n.length → zip3 (l ++ [x]) (m ++ [y]) (n ++ [z]) = zip3 l m n ++ [x ^^^ y ^^^ z]
  | [], [], [], _, _, _, _, _ => rfl
  | a :: l, b :: m, c :: n, x, y, z, h1, h2 => by
    have ih := zip3_snoc l m n x y z (by simpa using h1) (by simpa using h2)
    show (a ^^^ b ^^^ c) :: zip3 (l ++ [x]) (m ++ [y]) (n ++ [z]) = _
    rw [ih]; rfl
theorem xor3 (x y z : UInt8) : bits .xor .u8 (bits .xor .u8 (x.toNat : Int) (y.toNat : Int)) (z.toNat : Int) = (((x ^^^ y ^^^ z).toNat : Nat) : Int) := by
  have hx := x.toNat_lt
  have hy := y.toNat_lt
  rw [u8_xor_nat _ _ hx hy, u8_xor_nat _ _ (Nat.xor_lt_two_pow (n := 8) hx hy) z.toNat_lt, UInt8.toNat_xor, UInt8.toNat_xor]
theorem crc_linear (l m n : List UInt8) (h1 : l.length = m.length) (h2 : l.length = n.length) : crc (zip3 l m n) = crc l ^^^ crc m ^^^ crc n := by
  obtain ⟨hn, hl⟩ := num_zip3 l m n h1 h2
  have key : ∀ F A B C G : Nat, F ^^^ (A ^^^ B ^^^ C) ^^^ G = (F ^^^ A ^^^ G) ^^^ (F ^^^ B ^^^ G) ^^^ (F ^^^ C ^^^ G) := by
    intro F A B C G
    have e : (F ^^^ A ^^^ G) ^^^ (F ^^^ B ^^^ G) ^^^ (F ^^^ C ^^^ G) = (F ^^^ F) ^^^ (G ^^^ G) ^^^ (F ^^^ (A ^^^ B ^^^ C) ^^^ G) := by ac_rfl
    rw [e, Nat.xor_self, Nat.xor_self, Nat.xor_self, Nat.zero_xor]
  unfold crc
  rw [crcF_num, crcF_num, crcF_num, crcF_num, hl, ← h1, ← h2, hn]
  simp only [stps_xor]
  exact key _ _ _ _ _

theorem mul_inj (M p q a b : Nat) (hpq : p * q % M = 1 % M) (ha : a < M) (hb : b < M) (h : a * p % M = b * p % M) : a = b := by
  have e : ∀ x, x < M → x * p * q % M = x := by
    intro x hx
    rw [Nat.mul_assoc, Nat.mul_mod, hpq, ← Nat.mul_mod, Nat.mul_one, Nat.mod_eq_of_lt hx]
  rw [← e a ha, ← e b hb, Nat.mul_mod (a * p), h, ← Nat.mul_mod]
theorem fnvB_inj (x : Nat) (c d : UInt8) (hx : x < 18446744073709551616) : fnvB x c = fnvB x d ↔ c = d := by
  constructor
  · intro h
    unfold fnvB at h
    have hc := c.toNat_lt
    have hd := d.toNat_lt
    have h64 : ∀ b : Nat, b < 256 → x ^^^ b < 18446744073709551616 := fun b hb => Nat.xor_lt_two_pow (n := 64) (by omega) (by omega)
    have h := mul_inj 18446744073709551616 1099511628211 14886173955864302971 _ _ (by decide +kernel) (h64 _ hc) (h64 _ hd) h
    have h := xor_cancel c.toNat d.toNat x (by rw [Nat.xor_comm _ x, Nat.xor_comm _ x]; exact h)
    exact UInt8.toNat_inj.1 h
  · rintro rfl; rfl

/-- What a burst inverts of n bytes: the pattern's first i bits, from bit number a on. -/
def dif (n a p i : Nat) : Nat := ((p % 2 ^ i) <<< a) % 2 ^ (8 * n)
theorem dif_zero (n a p : Nat) : dif n a p 0 = 0 := by simp [dif, Nat.mod_one]
theorem dif_bit (n a p i k : Nat) : (dif n a p i).testBit k = (decide (k < 8 * n) && decide (a ≤ k) && decide (k - a < i) && p.testBit (k - a)) := by
  unfold dif
  rw [Nat.testBit_mod_two_pow, Nat.testBit_shiftLeft, Nat.testBit_mod_two_pow]
  simp [Bool.and_assoc]
theorem dif_set (n a p i : Nat) (hp : p.testBit i = true) (h : a + i < 8 * n) : dif n a p (i + 1) = dif n a p i ^^^ 2 ^ (a + i) := by
  apply Nat.eq_of_testBit_eq
  intro k
  rw [Nat.testBit_xor, dif_bit, dif_bit, Nat.testBit_two_pow]
  by_cases hk : a + i = k
  · subst hk
    simp [h, hp]
  · by_cases ha : a ≤ k
    · have : (k - a < i + 1) = (k - a < i) := by apply propext; omega
      simp [this, hk]
    · simp [ha, hk]
theorem dif_skip (n a p i : Nat) (h : p.testBit i = false ∨ 8 * n ≤ a + i) : dif n a p (i + 1) = dif n a p i := by
  apply Nat.eq_of_testBit_eq
  intro k
  rw [dif_bit, dif_bit]
  by_cases ha : a ≤ k
  · by_cases hk : k - a = i
    · rw [hk]
      rcases h with h | h
      · simp [h]
      · have : ¬ k < 8 * n := by omega
        simp [this]
    · have : (k - a < i + 1) = (k - a < i) := by apply propext; omega
      simp [this]
  · simp [ha]
theorem dif_form (n a p : Nat) (ha : a ≤ 8 * n) (hp : p < 2 ^ 32) : dif n a p 32 = (p % 2 ^ (8 * n - a)) <<< a := by
  apply Nat.eq_of_testBit_eq
  intro k
  rw [dif_bit, Nat.testBit_shiftLeft, Nat.testBit_mod_two_pow]
  by_cases hak : a ≤ k
  · by_cases h32 : k - a < 32
    · by_cases hkn : k < 8 * n
      · have : k - a < 8 * n - a := by omega
        simp [hak, h32, hkn, this]
      · have : ¬ k - a < 8 * n - a := by omega
        simp [hkn, this]
    · have : p.testBit (k - a) = false := Nat.testBit_lt_two_pow (Nat.lt_of_lt_of_le hp (Nat.pow_le_pow_right (by decide) (by omega)))
      simp [this]
  · simp [hak]
/-- One bit inverted. -/
theorem num_flip : ∀ (l : List UInt8) (k : Nat) (h : k / 8 < l.length), num (l.set (k / 8) (l[k / 8] ^^^ UInt8.ofNat (2 ^ (k % 8)))) = num l ^^^ 2 ^ k
  | b :: l, k, h => by
    have hpow : 2 ^ (k % 8) < 256 := Nat.lt_of_lt_of_le (Nat.pow_lt_pow_right (by decide) (Nat.mod_lt k (by decide) : k % 8 < 8)) (by decide)
    by_cases h0 : k / 8 = 0
    · have hk : k % 8 = k := by omega
      rw [hk] at hpow
      have e : (b :: l).set (k / 8) ((b :: l)[k / 8] ^^^ UInt8.ofNat (2 ^ (k % 8))) = (b ^^^ UInt8.ofNat (2 ^ k)) :: l := by
        simp [h0, hk]
      rw [e]
      show (b ^^^ UInt8.ofNat (2 ^ k)).toNat ^^^ (num l <<< 8) = (b.toNat ^^^ (num l <<< 8)) ^^^ 2 ^ k
      rw [UInt8.toNat_xor, UInt8.toNat_ofNat', Nat.mod_eq_of_lt hpow]
      ac_rfl
    · obtain ⟨m, rfl⟩ : ∃ m, k = m + 8 := ⟨k - 8, by omega⟩
      have hm : (m + 8) / 8 = m / 8 + 1 := by omega
      have hl : m / 8 < l.length := by simp at h; omega
      have ih := num_flip l m hl
      have e : (b :: l).set ((m + 8) / 8) ((b :: l)[(m + 8) / 8] ^^^ UInt8.ofNat (2 ^ ((m + 8) % 8))) = b :: l.set (m / 8) (l[m / 8] ^^^ UInt8.ofNat (2 ^ (m % 8))) := by
        simp [hm]
      rw [e]
      show b.toNat ^^^ (num (l.set (m / 8) (l[m / 8] ^^^ UInt8.ofNat (2 ^ (m % 8)))) <<< 8) = (b.toNat ^^^ (num l <<< 8)) ^^^ 2 ^ (m + 8)
      rw [ih, Nat.shiftLeft_xor_distrib, Nat.pow_add, Nat.shiftLeft_eq (2 ^ m)]
      ac_rfl

theorem bit_tmod (p i : Nat) : ((p : Int) / 2 ^ i).tmod 2 = ((p / 2 ^ i % 2 : Nat) : Int) := by
  have e : ((p : Int) / 2 ^ i) = ((p / 2 ^ i : Nat) : Int) := by simp
  rw [e]
  generalize p / 2 ^ i = a
  rw [Int.tmod_eq_emod_of_nonneg (Int.natCast_nonneg _)]
  omega
theorem bit_yes (p i : Nat) (h : p.testBit i = true) : ((p : Int) / 2 ^ i).tmod 2 = 1 := by
  rw [bit_tmod]
  rw [Nat.testBit_eq_decide_div_mod_eq] at h
  have := of_decide_eq_true h
  omega
theorem bit_no (p i : Nat) (h : ¬ p.testBit i = true) : ¬ ((p : Int) / 2 ^ i).tmod 2 = 1 := by
  rw [bit_tmod]
  rw [Nat.testBit_eq_decide_div_mod_eq] at h
  have : ¬ p / 2 ^ i % 2 = 1 := fun e => h (decide_eq_true e)
  omega

theorem dif_hit (n a p i : Nat) (hp : p.testBit i = true) (h : a + i < 8 * n) : dif n a p (i + 1) ≠ 0 := by
  intro h0
  have := dif_bit n a p (i + 1) (a + i)
  rw [h0] at this
  simp [h, hp] at this
theorem flip_val (b : UInt8) (k : Nat) : bits .xor .u8 (b.toNat : Int) (2 ^ (k % 8) % 256) = ((b ^^^ UInt8.ofNat (2 ^ (k % 8))).toNat : Int) := by
  have hpow : 2 ^ (k % 8) < 256 := Nat.lt_of_lt_of_le (Nat.pow_lt_pow_right (by decide) (Nat.mod_lt k (by decide) : k % 8 < 8)) (by decide)
  have e : ((2 : Int) ^ (k % 8) % 256) = ((2 ^ (k % 8) : Nat) : Int) := by
    rw [show ((2 : Int) ^ (k % 8)) = ((2 ^ (k % 8) : Nat) : Int) from by simp]
    generalize 2 ^ (k % 8) = y at *
    omega
  rw [e, u8_xor_nat _ _ b.toNat_lt hpow, UInt8.toNat_xor, UInt8.toNat_ofNat', Nat.mod_eq_of_lt hpow]
theorem le_inj : ∀ (k x y : Nat), x < 256 ^ k → y < 256 ^ k → le k x = le k y → x = y
  | 0, x, y, hx, hy, _ => by simp at hx hy; omega
  | k + 1, x, y, hx, hy, h => by
    have h1 : UInt8.ofNat (x % 256) = UInt8.ofNat (y % 256) ∧ le k (x / 256) = le k (y / 256) := by simpa [le] using h
    have e1 := congrArg UInt8.toNat h1.1
    rw [UInt8.toNat_ofNat', UInt8.toNat_ofNat'] at e1
    have e2 := le_inj k (x / 256) (y / 256) (by rw [Nat.pow_succ] at hx; exact Nat.div_lt_of_lt_mul (by omega)) (by rw [Nat.pow_succ] at hy; exact Nat.div_lt_of_lt_mul (by omega)) h1.2
    omega

theorem linkL_inj {x y : Nat} {l m : List UInt8} (hx : x < 18446744073709551616) (hy : y < 18446744073709551616) (h : linkL x l = linkL y m) : x = y ∧ l = m := by
  unfold linkL at h
  have h1 := List.append_inj h (by rw [le_length, le_length])
  have h2 := List.append_inj h1.2 (by rw [le_length, le_length])
  exact ⟨le_inj 8 _ _ hx hy h1.1, h2.2⟩
theorem chain_lt (x : Nat) (l : List UInt8) : chain x l < 18446744073709551616 := fnv_lt _
def chainF (x : Nat) (l : List (List UInt8)) : Nat := l.foldl chain x
theorem chainF_lt (l : List (List UInt8)) : ∀ {x : Nat}, x < 18446744073709551616 → chainF x l < 18446744073709551616 := by
  unfold chainF
  induction l with
  | nil => intro x h; rw [List.foldl_nil]; exact h
  | cons b l ih => intro x _; rw [List.foldl_cons]; exact ih (chain_lt x b)
theorem chainF_snoc (x : Nat) (l : List (List UInt8)) (s : List UInt8) : chainF x (l ++ [s]) = chain (chainF x l) s := by
  unfold chainF; rw [List.foldl_append, List.foldl_cons, List.foldl_nil]
/-- The strings that are hashed along two chains. -/
def hs : Nat → Nat → List (List UInt8) → List (List UInt8) → List (List UInt8)
  | x, y, s :: l, t :: m => linkL x s :: linkL y t :: hs (chain x s) (chain y t) l m
  | _, _, _, _ => []
theorem hs_length : ∀ (l m : List (List UInt8)) (x y : Nat), l.length = m.length → (hs x y l m).length = 2 * l.length
  | [], [], _, _, _ => rfl
  | s :: l, t :: m, x, y, h => by
    have := hs_length l m (chain x s) (chain y t) (by simpa using h)
    show (hs (chain x s) (chain y t) l m).length + 1 + 1 = 2 * (l.length + 1)
    omega
theorem hs_snoc : ∀ (l m : List (List UInt8)) (x y : Nat) (s t : List UInt8), l.length = m.length → hs x y (l ++ [s]) (m ++ [t]) = hs x y l m ++ [linkL (chainF x l) s, linkL (chainF y m) t]
  | [], [], x, y, s, t, _ => rfl
  | a :: l, b :: m, x, y, s, t, h => by
    have ih := hs_snoc l m (chain x a) (chain y b) s t (by simpa using h)
    show linkL x a :: linkL y b :: hs (chain x a) (chain y b) (l ++ [s]) (m ++ [t]) = linkL x a :: linkL y b :: (hs (chain x a) (chain y b) l m ++ [linkL (chainF x (a :: l)) s, linkL (chainF y (b :: m)) t])
    rw [ih]
    unfold chainF
    rw [List.foldl_cons, List.foldl_cons]
def BadL (l : List (List UInt8)) (i k : Nat) : Prop := ∃ s t, l[i]? = some s ∧ l[k]? = some t ∧ s ≠ t ∧ fnv s = fnv t
theorem chains_law : ∀ (l m : List (List UInt8)) (x y : Nat), l.length = m.length → x < 18446744073709551616 → y < 18446744073709551616 → chainF x l = chainF y m →
    (x = y ∧ l = m) ∨ ∃ i k, k < i ∧ BadL (hs x y l m) i k
  | [], [], x, y, _, _, _, h => .inl ⟨by unfold chainF at h; rw [List.foldl_nil, List.foldl_nil] at h; exact h, rfl⟩
  | s :: l, t :: m, x, y, hl, hx, hy, h => by
    unfold chainF at h
    rw [List.foldl_cons, List.foldl_cons] at h
    rcases chains_law l m (chain x s) (chain y t) (by simpa using hl) (chain_lt _ _) (chain_lt _ _) h with ⟨h1, h2⟩ | ⟨i, k, hk, u, v, h1, h2, h3, h4⟩
    · by_cases he : linkL x s = linkL y t
      · obtain ⟨e1, e2⟩ := linkL_inj hx hy he
        exact .inl ⟨e1, by rw [e2, h2]⟩
      · exact .inr ⟨1, 0, by decide, _, _, rfl, rfl, fun e => he e.symm, by unfold chain at h1; exact h1.symm⟩
    · exact .inr ⟨i + 2, k + 2, by omega, u, v, h1, h2, h3, h4⟩

theorem hs_mem : ∀ (l m : List (List UInt8)) (x y : Nat) (u : List UInt8), u ∈ hs x y l m → ∃ z s, u = linkL z s ∧ (s ∈ l ∨ s ∈ m)
  | [], _, _, _, u, h => by simp [hs] at h
  | _ :: _, [], _, _, u, h => by simp [hs] at h
  | s :: l, t :: m, x, y, u, h => by
    have h : u = linkL x s ∨ u = linkL y t ∨ u ∈ hs (chain x s) (chain y t) l m := by simpa [hs] using h
    rcases h with rfl | rfl | h
    · exact ⟨x, s, rfl, .inl (by simp)⟩
    · exact ⟨y, t, rfl, .inr (by simp)⟩
    · obtain ⟨z, r, e, hr⟩ := hs_mem l m _ _ u h
      exact ⟨z, r, e, hr.imp (fun h => by simp [h]) (fun h => by simp [h])⟩

end P5
end Go.Proofs.Ytoocfgpoboneoaa
