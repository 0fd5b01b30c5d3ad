/- Plain functions of layer 5 (checksum): CRC-32C and FNV-1a on lists of bytes, as numbers; no program in sight. -/
import Derived.Laws.BitsAllLaws
import Derived.Laws.RangeAny
import Derived.Laws.RangeString
namespace Go.Proofs.Ytoocfgpoboneoaa
namespace P5

def stp (x : Nat) : Nat := if x % 2 = 1 then (x / 2) ^^^ 2197175160 else x / 2
def stps : Nat → Nat → Nat
  | 0, x => x
  | n + 1, x => stps n (stp x)
def crcB (x : Nat) (b : UInt8) : Nat := stps 8 (x ^^^ b.toNat)
def crcF (l : List UInt8) (x : Nat) : Nat := l.foldl crcB x
def crc (l : List UInt8) : Nat := crcF l 4294967295 ^^^ 4294967295

theorem stp_lt {x : Nat} (h : x < 4294967296) : stp x < 4294967296 := by
  unfold stp; split
  · exact Nat.xor_lt_two_pow (n := 32) (by omega) (by omega)
  · omega
theorem stps_lt (n : Nat) : ∀ {x : Nat}, x < 4294967296 → stps n x < 4294967296 := by
  induction n with
  | zero => intro x h; exact h
  | succ n ih => intro x h; exact ih (stp_lt h)
theorem stps_succ (n : Nat) : ∀ x, stps (n + 1) x = stp (stps n x) := by
  induction n with
  | zero => intro x; rfl
  | succ n ih => intro x; show stps (n + 1) (stp x) = _; rw [ih]; rfl
theorem xorb_lt {x : Nat} (h : x < 4294967296) (b : UInt8) : x ^^^ b.toNat < 4294967296 :=
  Nat.xor_lt_two_pow (n := 32) (by omega) (by have := b.toNat_lt; omega)
theorem crcB_lt {x : Nat} (h : x < 4294967296) (b : UInt8) : crcB x b < 4294967296 := stps_lt 8 (xorb_lt h b)
theorem crcF_lt (l : List UInt8) : ∀ {x : Nat}, x < 4294967296 → crcF l x < 4294967296 := by
  induction l with
  | nil => intro x h; exact h
  | cons b l ih => intro x h; exact ih (crcB_lt h b)
theorem crcF_append (l m : List UInt8) (x : Nat) : crcF (l ++ m) x = crcF m (crcF l x) := List.foldl_append ..
theorem crcF_snoc (l : List UInt8) (b : UInt8) (x : Nat) : crcF (l ++ [b]) x = crcB (crcF l x) b := by rw [crcF_append]; rfl
theorem crc_lt (l : List UInt8) : crc l < 4294967296 :=
  Nat.xor_lt_two_pow (n := 32) (crcF_lt l (by decide)) (by decide)

def fnvB (x : Nat) (b : UInt8) : Nat := ((x ^^^ b.toNat) * 1099511628211) % 18446744073709551616
def fnvF (l : List UInt8) (x : Nat) : Nat := l.foldl fnvB x
def fnv0 : Nat := 14695981039346656037
def fnv (l : List UInt8) : Nat := fnvF l fnv0
theorem fnvB_lt (x : Nat) (b : UInt8) : fnvB x b < 18446744073709551616 := by unfold fnvB; omega
theorem fnv0_lt : fnv0 < 18446744073709551616 := by unfold fnv0; omega
theorem fnvF_lt (l : List UInt8) : ∀ {x : Nat}, x < 18446744073709551616 → fnvF l x < 18446744073709551616 := by
  unfold fnvF
  induction l with
  | nil => intro x h; rw [List.foldl_nil]; exact h
  | cons b l ih => intro x _; rw [List.foldl_cons]; exact ih (fnvB_lt x b)
theorem fnvF_append (l m : List UInt8) (x : Nat) : fnvF (l ++ m) x = fnvF m (fnvF l x) := by unfold fnvF; rw [List.foldl_append]
theorem fnvF_snoc (l : List UInt8) (b : UInt8) (x : Nat) : fnvF (l ++ [b]) x = fnvB (fnvF l x) b := by rw [fnvF_append]; unfold fnvF; rw [List.foldl_cons, List.foldl_nil]
theorem fnv_lt (l : List UInt8) : fnv l < 18446744073709551616 := fnvF_lt l fnv0_lt

/-- The walk's own spelling. -/
theorem take_snoc (s : ByteArray) (k : Nat) (h : k < s.size) : s.data.toList.take (k + 1) = s.data.toList.take k ++ [s[k]] := by
  rw [List.take_succ_eq_append_getElem (by simpa using h)]; rfl
theorem extract_list (s : ByteArray) (a b : Nat) : (s.extract a b).data.toList = (s.data.toList.take b).drop a := by
  rw [ByteArray.data_extract, Array.toList_extract, List.extract_eq_take_drop, List.drop_take]
theorem fnv_cut (s : ByteArray) (a b : Nat) (h : a ≤ b) (x : Nat) : fnvF (s.extract a b).data.toList (fnvF (s.data.toList.take a) x) = fnvF (s.data.toList.take b) x := by
  rw [extract_list, ← fnvF_append]
  congr 1
  have : s.data.toList.take a = (s.data.toList.take b).take a := by rw [List.take_take, Nat.min_eq_left h]
  rw [this, List.take_append_drop]
theorem take_all (s : ByteArray) (k : Nat) (h : s.size ≤ k) : s.data.toList.take k = s.data.toList :=
  List.take_of_length_le (by simpa using h)
theorem and1 (y : Nat) (h : y < 4294967296) : bits .and .u32 (y : Int) 1 = ((y % 2 : Nat) : Int) := by
  have := u32_and_nat y 1 h (by decide)
  simpa [nat_mask1] using this
theorem xorc (y c : Nat) (h : y < 4294967296) (hc : c < 4294967296) : bits .xor .u32 (y : Int) (c : Int) = ((y ^^^ c : Nat) : Int) := u32_xor_nat y c h hc
theorem step_odd (y : Nat) (h : y < 4294967296) (ht : (bits .and .u32 (y : Int) 1 == 1) = true) :
    bits .xor .u32 ((y : Int) / 2) 2197175160 = ((stp y : Nat) : Int) := by
  rw [and1 y h] at ht
  have h1 : y % 2 = 1 := by have := eq_of_beq ht; omega
  rw [show ((y : Int) / 2) = ((y / 2 : Nat) : Int) from by omega, show (2197175160 : Int) = ((2197175160 : Nat) : Int) from rfl, xorc _ _ (by omega) (by omega)]
  unfold stp; rw [if_pos h1]
theorem step_even (y : Nat) (h : y < 4294967296) (ht : (bits .and .u32 (y : Int) 1 == 1) = false) :
    ((y : Int) / 2) = ((stp y : Nat) : Int) := by
  rw [and1 y h] at ht
  have h1 : ¬ y % 2 = 1 := by have := beq_eq_false_iff_ne.1 ht; omega
  unfold stp; rw [if_neg h1]; omega
theorem step_odd' (y : Nat) (h : y < 4294967296) (ht : ((y : Int) % 2 == 1) = true) :
    bits .xor .u32 ((y : Int) / 2) 2197175160 = ((stp y : Nat) : Int) := by
  have h1 : y % 2 = 1 := by have := eq_of_beq ht; omega
  rw [show ((y : Int) / 2) = ((y / 2 : Nat) : Int) from by omega, show (2197175160 : Int) = ((2197175160 : Nat) : Int) from rfl, xorc _ _ (by omega) (by omega)]
  unfold stp; rw [if_pos h1]
theorem step_even' (y : Nat) (ht : ((y : Int) % 2 == 1) = false) : ((y : Int) / 2) = ((stp y : Nat) : Int) := by
  have h1 : ¬ y % 2 = 1 := by have := beq_eq_false_iff_ne.1 ht; omega
  unfold stp; rw [if_neg h1]; omega
theorem byte32 (x : Nat) (b : UInt8) (h : x < 4294967296) : bits .xor .u32 (x : Int) ((b.toNat : Int) % 4294967296) = ((x ^^^ b.toNat : Nat) : Int) := by
  have hb := b.toNat_lt
  rw [show ((b.toNat : Int) % 4294967296) = (b.toNat : Int) from by omega, xorc _ _ h (by omega)]
/-- The k bytes of a number, least significant first. -/
def le : Nat → Nat → List UInt8
  | 0, _ => []
  | k + 1, n => UInt8.ofNat (n % 256) :: le k (n / 256)
theorem le_length (k : Nat) : ∀ n, (le k n).length = k := by
  induction k with
  | zero => intro n; rfl
  | succ k ih => intro n; simp [le, ih]
theorem le_snoc (k : Nat) : ∀ n, le (k + 1) n = le k n ++ [UInt8.ofNat (n / 256 ^ k % 256)] := by
  induction k with
  | zero => intro n; simp [le]
  | succ k ih =>
    intro n
    rw [show le (k + 2) n = UInt8.ofNat (n % 256) :: le (k + 1) (n / 256) from rfl, ih, Nat.div_div_eq_div_mul, ← Nat.pow_succ']
    rfl
theorem byte_mod (n : Nat) : ((UInt8.ofNat (n % 256)).toNat : Int) = (n : Int) % 256 := by
  rw [UInt8.toNat_ofNat']; omega
theorem div_pow (n j : Nat) : n / 256 ^ (j + 1) = n / 256 ^ j / 256 := by rw [Nat.pow_succ, Nat.div_div_eq_div_mul]
/-- Seal and Open, and the string that extends a chain. -/
def sealL (l : List UInt8) : List UInt8 := le 4 (crc l) ++ l
def linkL (x : Nat) (l : List UInt8) : List UInt8 := le 8 x ++ (le 8 l.length ++ l)
theorem linkL_length (x : Nat) (l : List UInt8) : (linkL x l).length = 16 + l.length := by simp [linkL, le_length]; omega
def chain (x : Nat) (l : List UInt8) : Nat := fnv (linkL x l)
theorem fnv_step (x : Nat) (b : UInt8) (hx : x < 18446744073709551616) :
    IntKind.u64.wrap (bits .xor .u64 (x : Int) (IntKind.u64.wrap (b.toNat : Int)) * 1099511628211) = ((fnvB x b : Nat) : Int) := by
  have hb := b.toNat_lt
  have e1 : IntKind.u64.wrap (b.toNat : Int) = (b.toNat : Int) := by rw [IntKind.wrap_u64]; omega
  rw [e1, u64_xor_nat x b.toNat hx (by omega), IntKind.wrap_u64]
  unfold fnvB
  generalize x ^^^ b.toNat = a
  omega
theorem width_pos (s : ByteArray) (pos : Nat) (h : pos < s.size) : 1 ≤ (Utf8.decode s pos).2 := by
  by_cases ha : (s[pos]'h).toNat < 128
  · rw [decode_ascii s pos h ha]
    exact Nat.le_refl _
  · exact (decode_high s pos h (by omega)).2
theorem crc_fin (l : List UInt8) : bits .xor .u32 IntKind.u32.max ((crcF l 4294967295 : Nat) : Int) = ((crc l : Nat) : Int) := by
  rw [show IntKind.u32.max = ((4294967295 : Nat) : Int) from by decide, xorc _ _ (by decide) (crcF_lt l (by decide)), Nat.xor_comm]; rfl
theorem crc_fin' (l : List UInt8) : bits .xor .u32 ((crcF l 4294967295 : Nat) : Int) 4294967295 = ((crc l : Nat) : Int) := by
  rw [show (4294967295 : Int) = ((4294967295 : Nat) : Int) from rfl, xorc _ _ (crcF_lt l (by decide)) (by decide)]; rfl

end P5
end Go.Proofs.Ytoocfgpoboneoaa
