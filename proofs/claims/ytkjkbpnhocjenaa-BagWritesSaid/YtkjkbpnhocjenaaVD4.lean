/- Part 4 of the texts that a walk of this program rests on: an abstract machine, its soundness, contracts of functions. No statement of the seat is proved in this file. -/
import Derived.Test.YtkjkbpnhocjenaaVD3
import Derived.Sort.Walk0
import Derived.Shelf.Sort.Plain
import Derived.Shelf.Slices.In.SortNone
namespace Go.Proofs.Ytkjkbpnhocjenaa
open Go.X Go.RowKit
set_option linter.unusedSimpArgs false
set_option linter.unusedVariables false
open P5
namespace P5
def ei (n k : Nat) : List UInt8 := le k n ++ List.replicate (8 - k) 0
theorem ei_len {n k : Nat} (h : k ≤ 8) : (ei n k).length = 8 := by simp [ei, le_length]; omega
theorem ei_set {n k : Nat} (h : k < 8) : (ei n k).set k (UInt8.ofNat (n / 256 ^ k % 256)) = ei n (k + 1) := by
  unfold ei
  rw [le_snoc, List.set_append_right _ _ (by rw [le_length]; exact Nat.le_refl _), le_length, Nat.sub_self, show 8 - k = (8 - (k + 1)) + 1 by omega, List.replicate_succ]
  simp
theorem w8 (x : Int) : IntKind.u8.wrap x = x % 256 := by rw [IntKind.wrap_u8]
theorem byteX (n i : Nat) (hi : i < 8) : IntKind.u8.wrap ((n : Int).fdiv (2 ^ min (Int.toNat (8 * (i : Int))) IntKind.u64.bits)) = ((UInt8.ofNat (n / 256 ^ i % 256)).toNat : Int) := by
  rw [show min (Int.toNat (8 * (i : Int))) IntKind.u64.bits = 8 * i by show min _ 64 = _; omega, Int.fdiv_eq_ediv_of_nonneg _ (Int.le_of_lt (Int.pow_pos (by decide))), w8, byte_mod]
  have e : (2 : Int) ^ (8 * i) = ((256 ^ i : Nat) : Int) := by rw [show (256 : Nat) = 2 ^ 8 from rfl, ← Nat.pow_mul]; simp
  rw [e, Int.natCast_ediv]
end P5

set_option maxRecDepth 10000 in
theorem ceight (n k : Nat) (hk : k ≤ 8) :
    Ctr Try.prog 95 [.c (.i .u64 (n : Nat)), .c (.i .i64 (k : Nat))] [] fun v h => v = .a (flatR (rowOf encB8 (ei n k)) 0 8) ∧ h = [] := by
  refine Ctr.mk' tbv mixed Try.func95 rfl rfl rfl (fun _ _ => by kernel_rfl) (by kernel_rfl) (by rfl) (by rfl) (by (repeat' first | refine And.intro ?_ ?_ | exact xeC | fail)) ?_
  repeat' (first | (fail_if_success (with_reducible refine xstp ?_)); first | ((with_reducible refine And.intro (fun (hb : _ = true) => ?_) (fun (hb : _ = false) => ?_)) <;> replace hb := xnC hb <;> (try first | exact xfC | exact bff hb (by assumption) | exact bff (by assumption) hb)) | (with_reducible refine Both.mk ?_ ?_) | ((with_reducible refine And.intro ?_ ?_); focus exact xoC) | ((with_reducible refine Or.inl ⟨?_, ?_, ?_⟩); (focus rfl); focus exact xaC) | ((with_reducible refine xwB ?_ ?_); focus exact xaC) | ((with_reducible refine xwC ?_ ?_); focus exact xaC) | ((with_reducible refine xwD ?_ ?_); focus exact xaC) | ((with_reducible refine xwE ?_ ?_); focus exact xaC) | (with_reducible intro hc; (try simp only [capsP, and_true] at hc); (try exact xfC)) | ((fail_if_success (with_reducible first | refine xgon ?_ | intro _)); (conv => whnf); (fail_if_success (fail_if_success (with_reducible first | refine xstp ?_ | refine Both.mk ?_ ?_ | refine xgon ?_ | intro _)))))
  refine LoopK.mk' {i : Nat // i ≤ k}
    (fun ⟨i, _⟩ => ⟨[(0, .c (.i .u64 (n : Nat))), (4, .c (.pe 0 0 1 0 0)), (5, .c (.pe 1 0 1 0 0)), (7, .c (.i .i64 (k : Nat))), (8, .c (.i .i64 (i : Nat)))], [.one (.row true false 151 1 8 8 (rowOf encB8 (ei 0 0))), .one (.row true false 151 1 8 8 (rowOf encB8 (ei n i)))]⟩) (fun i => k - i.1)
    ⟨⟨0, Nat.zero_le _⟩, [0, 1], ?_⟩ ?_
  · (repeat' first | refine And.intro ?_ ?_ | exact xeC | fail)
    all_goals (
      intro i hi
      rcases (by omega : i = 0 ∨ i = 1 ∨ i = 2 ∨ i = 3 ∨ i = 4 ∨ i = 5 ∨ i = 6 ∨ i = 7) with rfl | rfl | rfl | rfl | rfl | rfl | rfl | rfl <;> rfl)
  rintro ⟨i, hi⟩
  repeat' (first | (fail_if_success (with_reducible refine xstp ?_)); first | ((with_reducible refine And.intro (fun (hb : _ = true) => ?_) (fun (hb : _ = false) => ?_)) <;> replace hb := xnC hb <;> (try first | exact xfC | exact bff hb (by assumption) | exact bff (by assumption) hb)) | (with_reducible refine Both.mk ?_ ?_) | ((with_reducible refine And.intro ?_ ?_); focus exact xoC) | ((with_reducible refine Or.inl ⟨?_, ?_, ?_⟩); (focus rfl); focus exact xaC) | ((with_reducible refine xwB ?_ ?_); focus exact xaC) | ((with_reducible refine xwC ?_ ?_); focus exact xaC) | ((with_reducible refine xwD ?_ ?_); focus exact xaC) | ((with_reducible refine xwE ?_ ?_); focus exact xaC) | (with_reducible intro hc; (try simp only [capsP, and_true] at hc); (try exact xfC)) | ((fail_if_success (with_reducible first | refine xgon ?_ | intro _)); (conv => whnf); (fail_if_success (fail_if_success (with_reducible first | refine xstp ?_ | refine Both.mk ?_ ?_ | refine xgon ?_ | intro _)))))
  · refine ⟨⟨i + 1, by omega⟩, [0, 1], by simp only; omega, ?_⟩
    (repeat' first | refine And.intro ?_ ?_ | exact xeC | fail)
    intro q hq
    simp only [Int.toNat_natCast, Nat.zero_add, rowOf]
    rw [← ei_set (by omega), getD_set _ _ _ _ (by rw [ei_len (by omega)]; omega)]
    by_cases h : q = i
    · rw [if_pos h, if_pos h, encB8, byteX n i (by omega)]
    · rw [if_neg h, if_neg h]
  · obtain rfl : i = k := by omega
    refine FinK.mk ⟨[], _, _, ⟨rfl, rfl⟩, ?_⟩; (repeat' first | refine And.intro ?_ ?_ | exact xeC | fail)

namespace P5
theorem flat_row (l : List UInt8) : ∀ (m e i : Nat), i < m → chunkOf 1 (flatR (rowOf encB8 l) e m) i = encB8 (l.getD (e + i) default)
  | 0, _, _, h => by omega
  | m + 1, e, i, h => by
    unfold flatR
    cases i with
    | zero => rfl
    | succ i =>
      rw [show e + (i + 1) = e + 1 + i by omega, ← flat_row l m (e + 1) i (by omega)]
      simp [chunkOf, rowOf, encB8]
theorem flatRk (l : List UInt8) (σ : List Sg) (N : Nat) : ∀ m e, (flatR (rowOf encB8 l) e m).map (C.rk σ N) = flatR (rowOf encB8 l) e m
  | 0, _ => rfl
  | m + 1, e => by
    unfold flatR
    rw [List.map_append, flatRk l σ N m (e + 1)]
    rfl
theorem seal_row (l : List UInt8) (z : Nat → List C) (i : Nat) (hi : i < 8) : splF 0 8 z 0 (chunkOf 1 (flatR (rowOf encB8 l) 0 8)) i = encB8 (l.getD i default) := by
  unfold splF
  rw [if_neg (by omega), if_pos (by omega), flat_row l 8 0 _ (by omega)]
  congr 2
  omega
theorem ei_take {n k : Nat} : (ei n k).take k = le k n := by
  unfold ei
  rw [List.take_append_of_le_length (by rw [le_length]; exact Nat.le_refl _), List.take_of_length_le (by rw [le_length]; exact Nat.le_refl _)]
end P5

theorem rH41kC0 {σ : List Sg} {H h' : List Fam} {v : T} {K : T → List Fam → Prop} {H' : List Fam} {v' : T} {N : Nat} (hk : K v' H') (hN : H.length = N := by (try simp only [↓List.length_cons, ↓List.length_nil, Nat.reduceAdd]) <;> rfl) (h : givesF σ N H σ h' = some H' := by (try simp (maxSteps := 1000000) only [givesF, setF, updF, Fam.zeroth, Fam.rk, Ck.rk, C.rk, E.rk, T.rk, key, List.map_cons, List.map_nil, List.cons_append, List.nil_append, List.length_cons, List.length_nil, Option.map_some, Option.bind_some, Nat.reduceAdd, Nat.zero_add, Nat.add_zero, Nat.add_sub_cancel_left, Int.toNat_natCast, reps, List.all_cons, List.all_nil, C.flat, List.append_eq, Bool.not_true, Bool.and_true, Bool.or_false, Bool.or_self, Bool.not_false, List.append_nil, Bool.and_self, flatRk]) <;> rfl) (hv : v.rk σ N = v' := by (try simp only [givesF, setF, updF, Fam.zeroth, Fam.rk, Ck.rk, C.rk, E.rk, T.rk, key, List.map_cons, List.map_nil, List.cons_append, List.nil_append, List.length_cons, List.length_nil, Option.map_some, Option.bind_some, Nat.reduceAdd, Nat.zero_add, Nat.add_zero, Nat.add_sub_cancel_left, Int.toNat_natCast, reps, List.all_cons, List.all_nil, C.flat, List.append_eq, Bool.not_true, Bool.and_true, Bool.or_false, Bool.or_self, Bool.not_false, List.append_nil, Bool.and_self, flatRk]) <;> rfl) : RetG σ H h' v K := ret_mk3 hN h hv hk
set_option maxRecDepth 10000 in
theorem cSeal (s : ByteArray) (hs : s.size ≤ 140737488355320) :
    Ctr Try.prog 73 [.c (.s s)] [] fun v h => v = .c (.s (mkS (sealL s.data.toList))) ∧ h = [] := by
  refine Ctr.mk' tbv mixed Try.func73 rfl rfl rfl (fun _ _ => by kernel_rfl) (by kernel_rfl) (by rfl) (by rfl) (by (repeat' first | refine And.intro ?_ ?_ | exact xeC | fail)) ?_
  repeat' (first | (fail_if_success (with_reducible refine xstp ?_)); first | ((with_reducible refine And.intro (fun (hb : _ = true) => ?_) (fun (hb : _ = false) => ?_)) <;> replace hb := xnC hb <;> (try first | exact xfC | exact bff hb (by assumption) | exact bff (by assumption) hb)) | (with_reducible refine Both.mk ?_ ?_) | ((with_reducible refine And.intro ?_ ?_); focus exact xoC) | ((with_reducible refine Or.inl ⟨?_, ?_, ?_⟩); (focus rfl); focus exact xaC) | ((with_reducible refine xwB ?_ ?_); focus exact xaC) | ((with_reducible refine xwC ?_ ?_); focus exact xaC) | ((with_reducible refine xwD ?_ ?_); focus exact xaC) | ((with_reducible refine xwE ?_ ?_); focus exact xaC) | (with_reducible intro hc; (try simp only [capsP, and_true] at hc); (try exact xfC)) | ((fail_if_success (with_reducible first | refine xgon ?_ | intro _)); (conv => whnf); (fail_if_success (fail_if_success (with_reducible first | refine xstp ?_ | refine Both.mk ?_ ?_ | refine xgon ?_ | intro _)))))
  refine xcal (σ := []) (nl := []) (ccrc s (by omega)) ?_
  rintro v h' ⟨rfl, rfl⟩ hcaps
  refine xret ?_
  repeat' (first | (fail_if_success (with_reducible refine xstp ?_)); first | ((with_reducible refine And.intro (fun (hb : _ = true) => ?_) (fun (hb : _ = false) => ?_)) <;> replace hb := xnC hb <;> (try first | exact xfC | exact bff hb (by assumption) | exact bff (by assumption) hb)) | (with_reducible refine Both.mk ?_ ?_) | ((with_reducible refine And.intro ?_ ?_); focus exact xoC) | ((with_reducible refine Or.inl ⟨?_, ?_, ?_⟩); (focus rfl); focus exact xaC) | ((with_reducible refine xwB ?_ ?_); focus exact xaC) | ((with_reducible refine xwC ?_ ?_); focus exact xaC) | ((with_reducible refine xwD ?_ ?_); focus exact xaC) | ((with_reducible refine xwE ?_ ?_); focus exact xaC) | (with_reducible intro hc; (try simp only [capsP, and_true] at hc); (try exact xfC)) | ((fail_if_success (with_reducible first | refine xgon ?_ | intro _)); (conv => whnf); (fail_if_success (fail_if_success (with_reducible first | refine xstp ?_ | refine Both.mk ?_ ?_ | refine xgon ?_ | intro _)))))
  have hw : IntKind.u64.wrap (crc s.data.toList : Nat) = (crc s.data.toList : Nat) := by
    have := crc_lt s.data.toList
    rw [IntKind.wrap_u64]; omega
  rw [hw]
  refine xcal (σ := []) (nl := []) (ceight (crc s.data.toList) 4 (by omega)) ?_
  rintro v h' ⟨rfl, rfl⟩ hcaps
  refine rH41kC0 ?_
  repeat' (first | (fail_if_success (with_reducible refine xstp ?_)); first | ((with_reducible refine And.intro (fun (hb : _ = true) => ?_) (fun (hb : _ = false) => ?_)) <;> replace hb := xnC hb <;> (try first | exact xfC | exact bff hb (by assumption) | exact bff (by assumption) hb)) | (with_reducible refine Both.mk ?_ ?_) | ((with_reducible refine And.intro ?_ ?_); focus exact xoC) | ((with_reducible refine Or.inl ⟨?_, ?_, ?_⟩); (focus rfl); focus exact xaC) | ((with_reducible refine xwB ?_ ?_); focus exact xaC) | ((with_reducible refine xwC ?_ ?_); focus exact xaC) | ((with_reducible refine xwD ?_ ?_); focus exact xaC) | ((with_reducible refine xwE ?_ ?_); focus exact xaC) | (with_reducible intro hc; (try simp only [capsP, and_true] at hc); (try exact xfC)) | ((fail_if_success (with_reducible first | refine xgon ?_ | intro _)); (conv => whnf); (fail_if_success (fail_if_success (with_reducible first | refine xstp ?_ | refine Both.mk ?_ ?_ | refine xgon ?_ | intro _)))))
  refine ⟨⟨rfl, rfl, by decide, fun i hi => ?_⟩, ?_⟩
  · rw [seal_row _ _ _ (show 0 + i < 8 by have : i < 4 := hi; omega)]; rfl
  generalize hB : bytesOf _ _ _ = B
  obtain rfl : B = mkS (le 4 (crc s.data.toList)) := by
    rw [← hB]
    refine (bytesOf_row (ei (crc s.data.toList) 4) _ 0 4 (fun i hi => ?_) (by rw [ei_len (by omega)]; omega)).trans (by rw [List.drop_zero, ei_take])
    refine (seal_row _ _ _ (show 0 + i < 8 by omega)).trans rfl
  have h4 : (mkS (le 4 (crc s.data.toList))).size = 4 := le_length 4 _
  repeat' (first | (fail_if_success (with_reducible refine xstp ?_)); first | ((with_reducible refine And.intro (fun (hb : _ = true) => ?_) (fun (hb : _ = false) => ?_)) <;> replace hb := xnC hb <;> (try first | exact xfC | exact bff hb (by assumption) | exact bff (by assumption) hb)) | (with_reducible refine Both.mk ?_ ?_) | ((with_reducible refine And.intro ?_ ?_); focus exact xoC) | ((with_reducible refine Or.inl ⟨?_, ?_, ?_⟩); (focus rfl); focus exact xaC) | ((with_reducible refine xwB ?_ ?_); focus exact xaC) | ((with_reducible refine xwC ?_ ?_); focus exact xaC) | ((with_reducible refine xwD ?_ ?_); focus exact xaC) | ((with_reducible refine xwE ?_ ?_); focus exact xaC) | (with_reducible intro hc; (try simp only [capsP, and_true] at hc); (try exact xfC)) | ((fail_if_success (with_reducible first | refine xgon ?_ | intro _)); (conv => whnf); (fail_if_success (fail_if_success (with_reducible first | refine xstp ?_ | refine Both.mk ?_ ?_ | refine xgon ?_ | intro _)))))
  rw [← mkS_of s, mkS_append]
  refine FinK.mk ⟨[], _, _, ⟨rfl, rfl⟩, ?_⟩; (repeat' first | refine And.intro ?_ ?_ | exact xeC | fail)

set_option maxRecDepth 10000 in
theorem cBytes (n k : Nat) (hk : k ≤ 8) (hn : n < 18446744073709551616) :
    Ctr Try.prog 76 [.c (.i .u64 (n : Nat)), .c (.i .i64 (k : Nat))] [] fun v h => v = .c (.s (mkS (le k n))) ∧ h = [] := by
  refine Ctr.mk' tbv mixed Try.func76 rfl rfl rfl (fun _ _ => by kernel_rfl) (by kernel_rfl) (by rfl) (by rfl) (by (repeat' first | refine And.intro ?_ ?_ | exact xeC | fail)) ?_
  repeat' (first | (fail_if_success (with_reducible refine xstp ?_)); first | ((with_reducible refine And.intro (fun (hb : _ = true) => ?_) (fun (hb : _ = false) => ?_)) <;> replace hb := xnC hb <;> (try first | exact xfC | exact bff hb (by assumption) | exact bff (by assumption) hb)) | (with_reducible refine Both.mk ?_ ?_) | ((with_reducible refine And.intro ?_ ?_); focus exact xoC) | ((with_reducible refine Or.inl ⟨?_, ?_, ?_⟩); (focus rfl); focus exact xaC) | ((with_reducible refine xwB ?_ ?_); focus exact xaC) | ((with_reducible refine xwC ?_ ?_); focus exact xaC) | ((with_reducible refine xwD ?_ ?_); focus exact xaC) | ((with_reducible refine xwE ?_ ?_); focus exact xaC) | (with_reducible intro hc; (try simp only [capsP, and_true] at hc); (try exact xfC)) | ((fail_if_success (with_reducible first | refine xgon ?_ | intro _)); (conv => whnf); (fail_if_success (fail_if_success (with_reducible first | refine xstp ?_ | refine Both.mk ?_ ?_ | refine xgon ?_ | intro _)))))
  refine LoopK.mk' ({i : Nat // i ≤ k} × Nat)
    (fun ⟨⟨i, _⟩, c⟩ => ⟨[(0, .c (.i .u64 (n / 256 ^ i : Nat))), (1, .c (.i .i64 (k : Nat))), (5, .c (.sl 0 0 1 0 i c)), (6, .c (.i .i64 (i : Nat)))], [.one (.row true false 5 1 i c (rowOf encB8 (le i n)))]⟩) (fun i => k - i.1.1)
    ⟨⟨⟨0, Nat.zero_le _⟩, 0⟩, [9], ?_⟩ ?_
  · (repeat' first | refine And.intro ?_ ?_ | exact xeC | fail)
    simp
  rintro ⟨⟨i, hi⟩, c⟩
  have hb1 : IntKind.u8.wrap (((n / 256 ^ i : Nat) : Int).tmod 256) = ((UInt8.ofNat (n / 256 ^ i % 256)).toNat : Int) := by
    generalize n / 256 ^ i = m
    rw [Int.tmod_eq_emod_of_nonneg (by omega), w8, byte_mod]; omega
  repeat' (first | (fail_if_success (with_reducible refine xstp ?_)); first | ((with_reducible refine And.intro (fun (hb : _ = true) => ?_) (fun (hb : _ = false) => ?_)) <;> replace hb := xnC hb <;> (try first | exact xfC | exact bff hb (by assumption) | exact bff (by assumption) hb)) | (with_reducible refine Both.mk ?_ ?_) | ((with_reducible refine And.intro ?_ ?_); focus exact xoC) | ((with_reducible refine Or.inl ⟨?_, ?_, ?_⟩); (focus rfl); focus exact xaC) | ((with_reducible refine xwB ?_ ?_); focus exact xaC) | ((with_reducible refine xwC ?_ ?_); focus exact xaC) | ((with_reducible refine xwD ?_ ?_); focus exact xaC) | ((with_reducible refine xwE ?_ ?_); focus exact xaC) | (with_reducible intro hc; (try simp only [capsP, and_true] at hc); (try exact xfC)) | ((fail_if_success (with_reducible first | refine xgon ?_ | intro _)); (conv => whnf); (fail_if_success (fail_if_success (with_reducible first | refine xstp ?_ | refine Both.mk ?_ ?_ | refine xgon ?_ | intro _)))))
  · rename_i c2
    refine ⟨⟨⟨i + 1, by omega⟩, c2⟩, [2], by simp only; omega, ?_⟩
    (repeat' first | refine And.intro ?_ ?_ | exact xeC | fail)
    · intro q hq
      have e : le (i + 1) n = le i n ++ [UInt8.ofNat (n / 256 ^ i % 256)] := le_snoc i n
      have hq2 : q < (le i n ++ [UInt8.ofNat (n / 256 ^ i % 256)]).length := by rw [← e, le_length]; exact hq
      have := app_rowG encB8 (le i n) (UInt8.ofNat (n / 256 ^ i % 256)) (fun _ => [.i .u8 (IntKind.u8.wrap (((n / 256 ^ i : Nat) : Int).tmod 256))]) (by rw [hb1]; rfl) q hq2
      rw [le_length] at this
      rw [e, ← this]
      unfold appF
      by_cases h : q < i
      · rw [if_pos h, if_pos h]
      · rw [if_neg h, if_neg h]
        obtain rfl : q = i := by omega
        rw [Nat.sub_self]; rfl
    · rw [div_pow]
      have hm : n / 256 ^ i ≤ n := Nat.div_le_self _ _
      generalize n / 256 ^ i = m at hm
      rw [Int.tdiv_eq_ediv_of_nonneg (by omega), IntKind.wrap_u64]
      omega
  · obtain rfl : i = k := by omega
    refine ⟨⟨rfl, rfl, by omega, fun j hj => rfl⟩, ?_⟩
    generalize hB : bytesOf _ _ _ = B
    obtain rfl : B = mkS (le i n) := by
      rw [← hB, bytesOf_row (le i n) _ 0 i (fun j hj => by rfl) (by rw [le_length]; omega), List.drop_zero, List.take_of_length_le (by rw [le_length]; exact Nat.le_refl _)]
    repeat' (first | (fail_if_success (with_reducible refine xstp ?_)); first | ((with_reducible refine And.intro (fun (hb : _ = true) => ?_) (fun (hb : _ = false) => ?_)) <;> replace hb := xnC hb <;> (try first | exact xfC | exact bff hb (by assumption) | exact bff (by assumption) hb)) | (with_reducible refine Both.mk ?_ ?_) | ((with_reducible refine And.intro ?_ ?_); focus exact xoC) | ((with_reducible refine Or.inl ⟨?_, ?_, ?_⟩); (focus rfl); focus exact xaC) | ((with_reducible refine xwB ?_ ?_); focus exact xaC) | ((with_reducible refine xwC ?_ ?_); focus exact xaC) | ((with_reducible refine xwD ?_ ?_); focus exact xaC) | ((with_reducible refine xwE ?_ ?_); focus exact xaC) | (with_reducible intro hc; (try simp only [capsP, and_true] at hc); (try exact xfC)) | ((fail_if_success (with_reducible first | refine xgon ?_ | intro _)); (conv => whnf); (fail_if_success (fail_if_success (with_reducible first | refine xstp ?_ | refine Both.mk ?_ ?_ | refine xgon ?_ | intro _)))))
    refine FinK.mk ⟨[], _, _, ⟨rfl, rfl⟩, ?_⟩; (repeat' first | refine And.intro ?_ ?_ | exact xeC | fail)

set_option maxRecDepth 10000 in
theorem cSealR (s : ByteArray) (hs : s.size ≤ 140737488355320) :
    Ctr Try.prog 75 [.c (.s s)] [] fun v h => v = .c (.s (mkS (sealL s.data.toList))) ∧ h = [] := by
  refine Ctr.mk' tbv mixed Try.func75 rfl rfl rfl (fun _ _ => by kernel_rfl) (by kernel_rfl) (by rfl) (by rfl) (by (repeat' first | refine And.intro ?_ ?_ | exact xeC | fail)) ?_
  repeat' (first | (fail_if_success (with_reducible refine xstp ?_)); first | ((with_reducible refine And.intro (fun (hb : _ = true) => ?_) (fun (hb : _ = false) => ?_)) <;> replace hb := xnC hb <;> (try first | exact xfC | exact bff hb (by assumption) | exact bff (by assumption) hb)) | (with_reducible refine Both.mk ?_ ?_) | ((with_reducible refine And.intro ?_ ?_); focus exact xoC) | ((with_reducible refine Or.inl ⟨?_, ?_, ?_⟩); (focus rfl); focus exact xaC) | ((with_reducible refine xwB ?_ ?_); focus exact xaC) | ((with_reducible refine xwC ?_ ?_); focus exact xaC) | ((with_reducible refine xwD ?_ ?_); focus exact xaC) | ((with_reducible refine xwE ?_ ?_); focus exact xaC) | (with_reducible intro hc; (try simp only [capsP, and_true] at hc); (try exact xfC)) | ((fail_if_success (with_reducible first | refine xgon ?_ | intro _)); (conv => whnf); (fail_if_success (fail_if_success (with_reducible first | refine xstp ?_ | refine Both.mk ?_ ?_ | refine xgon ?_ | intro _)))))
  refine xcal (σ := []) (nl := []) (ccrcR s (by omega)) ?_
  rintro v h' ⟨rfl, rfl⟩ hcaps
  refine xret ?_
  repeat' (first | (fail_if_success (with_reducible refine xstp ?_)); first | ((with_reducible refine And.intro (fun (hb : _ = true) => ?_) (fun (hb : _ = false) => ?_)) <;> replace hb := xnC hb <;> (try first | exact xfC | exact bff hb (by assumption) | exact bff (by assumption) hb)) | (with_reducible refine Both.mk ?_ ?_) | ((with_reducible refine And.intro ?_ ?_); focus exact xoC) | ((with_reducible refine Or.inl ⟨?_, ?_, ?_⟩); (focus rfl); focus exact xaC) | ((with_reducible refine xwB ?_ ?_); focus exact xaC) | ((with_reducible refine xwC ?_ ?_); focus exact xaC) | ((with_reducible refine xwD ?_ ?_); focus exact xaC) | ((with_reducible refine xwE ?_ ?_); focus exact xaC) | (with_reducible intro hc; (try simp only [capsP, and_true] at hc); (try exact xfC)) | ((fail_if_success (with_reducible first | refine xgon ?_ | intro _)); (conv => whnf); (fail_if_success (fail_if_success (with_reducible first | refine xstp ?_ | refine Both.mk ?_ ?_ | refine xgon ?_ | intro _)))))
  have hlt := crc_lt s.data.toList
  have hw : IntKind.u64.wrap (crc s.data.toList : Nat) = (crc s.data.toList : Nat) := by
    rw [IntKind.wrap_u64]; omega
  rw [hw]
  refine xcal (σ := []) (nl := []) (cBytes (crc s.data.toList) 4 (by omega) (by omega)) ?_
  rintro v h' ⟨rfl, rfl⟩ hcaps
  have h4 : (mkS (le 4 (crc s.data.toList))).size = 4 := le_length 4 _
  refine xret ?_
  repeat' (first | (fail_if_success (with_reducible refine xstp ?_)); first | ((with_reducible refine And.intro (fun (hb : _ = true) => ?_) (fun (hb : _ = false) => ?_)) <;> replace hb := xnC hb <;> (try first | exact xfC | exact bff hb (by assumption) | exact bff (by assumption) hb)) | (with_reducible refine Both.mk ?_ ?_) | ((with_reducible refine And.intro ?_ ?_); focus exact xoC) | ((with_reducible refine Or.inl ⟨?_, ?_, ?_⟩); (focus rfl); focus exact xaC) | ((with_reducible refine xwB ?_ ?_); focus exact xaC) | ((with_reducible refine xwC ?_ ?_); focus exact xaC) | ((with_reducible refine xwD ?_ ?_); focus exact xaC) | ((with_reducible refine xwE ?_ ?_); focus exact xaC) | (with_reducible intro hc; (try simp only [capsP, and_true] at hc); (try exact xfC)) | ((fail_if_success (with_reducible first | refine xgon ?_ | intro _)); (conv => whnf); (fail_if_success (fail_if_success (with_reducible first | refine xstp ?_ | refine Both.mk ?_ ?_ | refine xgon ?_ | intro _)))))
  rw [← mkS_of s, mkS_append]
  refine FinK.mk ⟨[], _, _, ⟨rfl, rfl⟩, ?_⟩; (repeat' first | refine And.intro ?_ ?_ | exact xeC | fail)

/-- What Open gives: the string, the error. -/
def openL (l : List UInt8) : List UInt8 × Nat := if l.length < 4 then ([], 1) else if sealL (l.drop 4) = l then (l.drop 4, 0) else ([], 11)

set_option maxRecDepth 10000 in
theorem cOpen (l : List UInt8) (hs : l.length ≤ 140737488355320) :
    Ctr Try.prog 62 [.c (.s (mkS l))] [] fun v h => v = .t [.c (.s (mkS (openL l).1)), .c (.i .i64 ((openL l).2 : Nat))] ∧ h = [] := by
  refine Ctr.mk' tbv mixed Try.func62 rfl rfl rfl (fun _ _ => by kernel_rfl) (by kernel_rfl) (by rfl) (by rfl) (by (repeat' first | refine And.intro ?_ ?_ | exact xeC | fail)) ?_
  repeat' (first | (fail_if_success (with_reducible refine xstp ?_)); first | ((with_reducible refine And.intro (fun (hb : _ = true) => ?_) (fun (hb : _ = false) => ?_)) <;> replace hb := xnC hb <;> (try first | exact xfC | exact bff hb (by assumption) | exact bff (by assumption) hb)) | (with_reducible refine Both.mk ?_ ?_) | ((with_reducible refine And.intro ?_ ?_); focus exact xoC) | ((with_reducible refine Or.inl ⟨?_, ?_, ?_⟩); (focus rfl); focus exact xaC) | ((with_reducible refine xwB ?_ ?_); focus exact xaC) | ((with_reducible refine xwC ?_ ?_); focus exact xaC) | ((with_reducible refine xwD ?_ ?_); focus exact xaC) | ((with_reducible refine xwE ?_ ?_); focus exact xaC) | (with_reducible intro hc; (try simp only [capsP, and_true] at hc); (try exact xfC)) | ((fail_if_success (with_reducible first | refine xgon ?_ | intro _)); (conv => whnf); (fail_if_success (fail_if_success (with_reducible first | refine xstp ?_ | refine Both.mk ?_ ?_ | refine xgon ?_ | intro _)))))
  · rw [show openL l = ([], 1) by unfold openL; rw [if_pos (by have : (mkS l).size = l.length := rfl; omega)]]
    refine FinK.mk ⟨[], _, _, ⟨rfl, rfl⟩, ?_⟩; (repeat' first | refine And.intro ?_ ?_ | exact xeC | fail)
  have hz : (mkS l).size = l.length := rfl
  have he : (mkS l).extract (Int.toNat 4) (mkS l).size = mkS (l.drop 4) := by
    rw [mkS_ext, hz, List.take_length]; rfl
  rw [he]
  refine xcal (σ := []) (nl := []) (cSeal (mkS (l.drop 4)) (by rw [mkS_size, List.length_drop]; omega)) ?_
  rintro v h' ⟨rfl, rfl⟩ hcaps
  rw [mkS_list]
  refine xret ?_
  repeat' (first | (fail_if_success (with_reducible refine xstp ?_)); first | ((with_reducible refine And.intro (fun (hb : _ = true) => ?_) (fun (hb : _ = false) => ?_)) <;> replace hb := xnC hb <;> (try first | exact xfC | exact bff hb (by assumption) | exact bff (by assumption) hb)) | (with_reducible refine Both.mk ?_ ?_) | ((with_reducible refine And.intro ?_ ?_); focus exact xoC) | ((with_reducible refine Or.inl ⟨?_, ?_, ?_⟩); (focus rfl); focus exact xaC) | ((with_reducible refine xwB ?_ ?_); focus exact xaC) | ((with_reducible refine xwC ?_ ?_); focus exact xaC) | ((with_reducible refine xwD ?_ ?_); focus exact xaC) | ((with_reducible refine xwE ?_ ?_); focus exact xaC) | (with_reducible intro hc; (try simp only [capsP, and_true] at hc); (try exact xfC)) | ((fail_if_success (with_reducible first | refine xgon ?_ | intro _)); (conv => whnf); (fail_if_success (fail_if_success (with_reducible first | refine xstp ?_ | refine Both.mk ?_ ?_ | refine xgon ?_ | intro _)))))
  · have h : ¬ sealL (l.drop 4) = l := fun e => hb (by rw [e])
    rw [show openL l = ([], 11) by unfold openL; rw [if_neg (by omega), if_neg h]]
    refine FinK.mk ⟨[], _, _, ⟨rfl, rfl⟩, ?_⟩; (repeat' first | refine And.intro ?_ ?_ | exact xeC | fail)
  · have h := mkS_inj.1 hb
    rw [show openL l = (l.drop 4, 0) by unfold openL; rw [if_neg (by omega), if_pos h], he]
    refine FinK.mk ⟨[], _, _, ⟨rfl, rfl⟩, ?_⟩; (repeat' first | refine And.intro ?_ ?_ | exact xeC | fail)

end Go.Proofs.Ytkjkbpnhocjenaa


namespace Go.Proofs.Ytkjkbpnhocjenaa
open Go.X
open P4
open P5
structure Rc where
  (at_ : Int) (tp pl : List UInt8)
deriving Inhabited, DecidableEq
def encR (r : Rc) : List C := [.i .i64 r.at_, .s (mkS r.tp), .s (mkS r.pl)]
def isT (l : List UInt8) : Prop := (1 ≤ l.length ∧ l.length ≤ 40) ∧ ∀ b ∈ l, 33 ≤ b.toNat ∧ b.toNat ≤ 126
instance (l : List UInt8) : Decidable (isT l) := by unfold isT; infer_instance
def recB (r : Rc) : List UInt8 := venc r.at_.toNat ++ textL r.tp ++ textL r.pl
def recsB (l : List Rc) : List UInt8 := l.flatMap recB
def conB (l : List Rc) : List UInt8 := venc 1 ++ recsB l
theorem recsB_snoc (l : List Rc) (r : Rc) : recsB (l ++ [r]) = recsB l ++ recB r := by simp [recsB]
theorem conB_snoc (l : List Rc) (r : Rc) : conB (l ++ [r]) = conB l ++ recB r := by simp [conB, recsB_snoc]

/-- A writer: the limit of a chunk, how many records it has, the last time, whether it is closed, the chunks. -/
structure Wr where
  (most : Int) (ad : Nat) (la : Int) (cl : Bool) (L : List (List Rc))
deriving Inhabited
def addE (w : Wr) (r : Rc) : Nat :=
  if w.cl = true then 10 else if ¬ isT r.tp then 5 else if r.at_ < 0 ∨ 1099511627776 < r.at_ then 4 else if 4000 < r.pl.length then 3 else if r.at_ < w.la then 17 else if 4096 ≤ w.ad then 15 else 0
def fitsW (most : Int) (L : List (List Rc)) (r : Rc) : Prop := 0 < L.length ∧ ((conB (L.getD (L.length - 1) default)).length : Int) + (recB r).length ≤ most
instance (most : Int) (L : List (List Rc)) (r : Rc) : Decidable (fitsW most L r) := by unfold fitsW; infer_instance
def putR (most : Int) (L : List (List Rc)) (r : Rc) : List (List Rc) :=
  if fitsW most L r then L.set (L.length - 1) (L.getD (L.length - 1) default ++ [r]) else L ++ [[r]]
def addW (w : Wr) (r : Rc) : Wr := if addE w r = 0 then { w with ad := w.ad + 1, la := r.at_, L := putR w.most w.L r } else w

/-! ### Strings in order -/
theorem bless (x y : List UInt8) : Op.bytesLess x y = decide (x < y) := bytesLess_eq x y

/-! ### Tallies -/
abbrev Tl := List UInt8 × Nat
def talA : List Tl → List UInt8 → Nat → List Tl
  | [], t, n => [(t, n)]
  | (u, m) :: l, t, n => if t < u then (t, n) :: (u, m) :: l else if t = u then (u, m + n) :: l else (u, m) :: talA l t n
def tal (l : List Rc) : List Tl := l.foldl (fun a r => talA a r.tp 1) []
theorem tal_snoc (l : List Rc) (r : Rc) : tal (l ++ [r]) = talA (tal l) r.tp 1 := by simp [tal]
def cntL (l : List Rc) (t : List UInt8) : Nat := (l.filter fun r => r.tp == t).length
/-- The tops are in order. -/
def SrtT (T : List Tl) : Prop := (T.map Prod.fst).Pairwise (· < ·)
theorem lt_irr (a : List UInt8) : ¬ a < a := List.lt_irrefl a
theorem lt_tr {a b c : List UInt8} (h : a < b) (h' : b < c) : a < c := List.lt_trans h h'
theorem lt_tri (a b : List UInt8) : a < b ∨ a = b ∨ b < a := by
  by_cases h : a < b
  · exact .inl h
  · by_cases h' : b < a
    · exact .inr (.inr h')
    · exact .inr (.inl (List.le_antisymm (by simpa using h') (by simpa using h)))
theorem talA_mem {T : List Tl} {t : List UInt8} {n : Nat} (x : List UInt8) : x ∈ (talA T t n).map Prod.fst ↔ x = t ∨ x ∈ T.map Prod.fst := by
  induction T with
  | nil => simp [talA]
  | cons a T ih =>
    obtain ⟨u, m⟩ := a
    unfold talA
    split
    · simp
    · split
      · rename_i h; subst h; simp
      · simp only [List.map_cons, List.mem_cons, ih]
        constructor
        · rintro (h | h | h) <;> simp [h]
        · rintro (h | h | h) <;> simp [h]
theorem talA_srt {T : List Tl} {t : List UInt8} {n : Nat} (h : SrtT T) : SrtT (talA T t n) := by
  induction T with
  | nil => simp [talA, SrtT]
  | cons a T ih =>
    obtain ⟨u, m⟩ := a
    have h' := List.pairwise_cons.1 h
    unfold talA
    split
    · rename_i hlt
      refine List.pairwise_cons.2 ⟨?_, h⟩
      intro x hx
      rcases List.mem_cons.1 hx with rfl | hx
      · exact hlt
      · exact lt_tr hlt (h'.1 x hx)
    · rename_i hnl
      split
      · rename_i e
        subst e
        exact List.pairwise_cons.2 ⟨h'.1, h'.2⟩
      · rename_i hne
        refine List.pairwise_cons.2 ⟨?_, ih h'.2⟩
        intro x hx
        rcases (talA_mem x).1 hx with rfl | hx
        · rcases lt_tri x u with hh | hh | hh
          · exact absurd hh hnl
          · exact absurd hh hne
          · exact hh
        · exact h'.1 x hx
/-- What a list of tallies says of a topic. -/
def getT (T : List Tl) (t : List UInt8) : Nat := match T.find? fun p => p.1 == t with | none => 0 | some p => p.2
theorem getT_talA {T : List Tl} {t : List UInt8} {n : Nat} (h : SrtT T) (x : List UInt8) : getT (talA T t n) x = getT T x + if x = t then n else 0 := by
  induction T with
  | nil =>
    unfold talA getT
    by_cases e : x = t
    · subst e; simp
    · have : (t == x) = false := by rw [beq_eq_false_iff_ne]; exact fun q => e q.symm
      simp [this, e]
  | cons a T ih =>
    obtain ⟨u, m⟩ := a
    have h' := List.pairwise_cons.1 h
    have hno : ∀ y, y < u → T.find? (fun p => p.1 == y) = none := by
      intro y hy
      rw [List.find?_eq_none]
      intro p hp e
      have e : p.1 = y := by simpa using e
      have := h'.1 p.1 (List.mem_map.2 ⟨p, hp, rfl⟩)
      rw [e] at this
      exact lt_irr _ (lt_tr hy this)
    unfold talA
    split
    · rename_i hlt
      unfold getT
      rw [List.find?_cons]
      by_cases e : x = t
      · subst e
        have hu : (u == x) = false := by rw [beq_eq_false_iff_ne]; intro q; subst q; exact lt_irr _ hlt
        rw [List.find?_cons]
        simp [hu, hno x hlt]
      · have : (t == x) = false := by rw [beq_eq_false_iff_ne]; exact fun q => e q.symm
        simp [this, e]
    · split
      · rename_i e0
        subst e0
        unfold getT
        rw [List.find?_cons, List.find?_cons]
        by_cases e : x = t
        · subst e; simp
        · have : (t == x) = false := by rw [beq_eq_false_iff_ne]; exact fun q => e q.symm
          simp [this, e]
      · rename_i hne
        have ih := ih h'.2
        unfold getT at ih ⊢
        rw [List.find?_cons, List.find?_cons]
        by_cases e : u == x
        · have : u = x := by simpa using e
          rw [e]
          simp only
          rw [if_neg (fun q => hne (by rw [this, q]))]
          rfl
        · rw [Bool.not_eq_true] at e
          rw [e]
          exact ih
theorem tal_inv (l : List Rc) : SrtT (tal l) ∧ (∀ t, t ∈ (tal l).map Prod.fst ↔ t ∈ l.map Rc.tp) ∧ ∀ t, getT (tal l) t = cntL l t := by
  suffices ∀ k, k ≤ l.length → SrtT (tal (l.take k)) ∧ (∀ t, t ∈ (tal (l.take k)).map Prod.fst ↔ t ∈ (l.take k).map Rc.tp) ∧ ∀ t, getT (tal (l.take k)) t = cntL (l.take k) t by
    have := this l.length (Nat.le_refl _)
    rwa [List.take_length] at this
  intro k
  induction k with
  | zero => intro _; simp [tal, SrtT, getT, cntL]
  | succ k ih =>
    intro hk
    obtain ⟨h1, h2, h3⟩ := ih (by omega)
    rw [List.take_succ_eq_append_getElem (by omega), tal_snoc]
    refine ⟨talA_srt h1, fun t => ?_, fun t => ?_⟩
    · rw [talA_mem, h2, List.map_append, List.mem_append]
      simp only [List.map_cons, List.map_nil, List.mem_singleton]
      exact Or.comm
    · rw [getT_talA h1, h3]
      simp only [cntL, List.filter_append, List.length_append]
      congr 1
      by_cases e : t = l[k].tp
      · subst e; simp
      · rw [if_neg e, List.filter_cons_of_neg (by simpa using fun q => e q.symm)]; rfl
theorem srt_nodup {T : List Tl} (h : SrtT T) : (T.map Prod.fst).Nodup := h.imp fun {a b} q e => by subst e; exact lt_irr _ q
theorem getT_at {T : List Tl} (h : (T.map Prod.fst).Nodup) {p : Tl} (hp : p ∈ T) : getT T p.1 = p.2 := by
  induction T with
  | nil => cases hp
  | cons a T ih =>
    have h' := List.nodup_cons.1 h
    unfold getT
    rw [List.find?_cons]
    rcases List.mem_cons.1 hp with rfl | hp
    · simp
    · have : (a.1 == p.1) = false := by
        rw [beq_eq_false_iff_ne]; intro e
        exact h'.1 (e ▸ List.mem_map.2 ⟨p, hp, rfl⟩)
      rw [this]
      exact ih h'.2 hp
/-- A sorted list is its topics with what it says of them. -/
theorem tl_eta {T : List Tl} (h : (T.map Prod.fst).Nodup) : T = (T.map Prod.fst).map fun t => (t, getT T t) := by
  rw [List.map_map]
  conv => lhs; rw [← List.map_id T]
  exact List.map_congr_left fun p hp => by simp [getT_at h hp]
/-- Two ordered lists with the same members are equal. -/
theorem srt_ext {A B : List (List UInt8)} (hA : A.Pairwise (· < ·)) (hB : B.Pairwise (· < ·)) (h : ∀ x, x ∈ A ↔ x ∈ B) : A = B := by
  induction A generalizing B with
  | nil =>
    cases B with
    | nil => rfl
    | cons b B => exact absurd ((h b).2 (List.mem_cons_self ..)) (by simp)
  | cons a A ih =>
    cases B with
    | nil => exact absurd ((h a).1 (List.mem_cons_self ..)) (by simp)
    | cons b B =>
      have hA' := List.pairwise_cons.1 hA
      have hB' := List.pairwise_cons.1 hB
      have hab : a = b := by
        rcases List.mem_cons.1 ((h a).1 (List.mem_cons_self ..)) with e | e
        · exact e
        · rcases List.mem_cons.1 ((h b).2 (List.mem_cons_self ..)) with q | q
          · exact q.symm
          · exact absurd (lt_tr (hA'.1 b q) (hB'.1 a e)) (lt_irr _)
      subst hab
      congr 1
      refine ih hA'.2 hB'.2 fun x => ⟨fun hx => ?_, fun hx => ?_⟩
      · rcases List.mem_cons.1 ((h x).1 (List.mem_cons_of_mem _ hx)) with e | e
        · subst e; exact absurd (hA'.1 x hx) (lt_irr _)
        · exact e
      · rcases List.mem_cons.1 ((h x).2 (List.mem_cons_of_mem _ hx)) with e | e
        · subst e; exact absurd (hB'.1 x hx) (lt_irr _)
        · exact e

/-! ### The bytes of a bag -/
def tlB (T : List Tl) : List UInt8 := T.flatMap fun t => textL t.1 ++ venc t.2
def desB (off fi la : Nat) (T : List Tl) : List UInt8 := venc off ++ venc fi ++ venc la ++ venc T.length ++ tlB T
def magic : List UInt8 := [82, 66, 65, 71, 49]
def secB (x : List Rc) : List UInt8 := textL (sealL (conB x))
def secsB (L : List (List Rc)) : List UInt8 := L.flatMap secB
def idxE (off : Nat) (x : List Rc) : List UInt8 := desB off (x.getD 0 default).at_.toNat (x.getD (x.length - 1) default).at_.toNat (tal x)
def idxB (off : Nat) : List (List Rc) → List UInt8
  | [] => []
  | x :: L => idxE off x ++ idxB (off + (secB x).length) L
def indB (L : List (List Rc)) : List UInt8 := venc 2 ++ venc L.length ++ idxB 5 L
def bagB (L : List (List Rc)) : List UInt8 := magic ++ secsB L ++ textL (sealL (indB L)) ++ le 8 (5 + (secsB L).length) ++ magic
theorem secsB_snoc (L : List (List Rc)) (x : List Rc) : secsB (L ++ [x]) = secsB L ++ secB x := by simp [secsB]
theorem idxB_snoc (L : List (List Rc)) (x : List Rc) : ∀ off, idxB off (L ++ [x]) = idxB off L ++ idxE (off + (secsB L).length) x := by
  induction L with
  | nil => intro off; simp [idxB, secsB]
  | cons a L ih =>
    intro off
    simp only [List.cons_append, idxB, ih, List.append_assoc, secsB, List.flatMap_cons, List.length_append, Nat.add_assoc]
end Go.Proofs.Ytkjkbpnhocjenaa


namespace Go.Proofs.Ytkjkbpnhocjenaa
open Go.X
open P4
open P5
def mx : Int := 1099511627776
/-! ### What a reader gives -/
theorem rdU_pos {s : ByteArray} {a e : Nat} (h : (rdU s a e).2.2 = 0) : e = 0 ∧ a + 1 ≤ (rdU s a e).2.1 := by
  unfold rdU at h ⊢
  by_cases he : e = 0
  · rw [if_pos he] at h ⊢
    simp only at h ⊢
    have : vdec (s.data.toList.drop a) = ((vdec (s.data.toList.drop a)).1, (vdec (s.data.toList.drop a)).2.1, 0) := by rw [← h]
    have := (vdec_ok this).2.2.2.2
    exact ⟨he, by omega⟩
  · rw [if_neg he] at h
    exact absurd h he
theorem rdS_pos {s : ByteArray} {a e : Nat} {m : Int} (h : (rdS s a e m).2.2 = 0) : e = 0 ∧ a + 1 ≤ (rdS s a e m).2.1 := by
  rw [rdS_U] at h ⊢
  by_cases hu : (rdU s a e).2.2 = 0
  · rw [if_pos hu] at h ⊢
    split
    · rename_i hq
      rw [if_pos hq] at h
      exact absurd h (by simp)
    · exact rdU_pos hu
  · rw [if_neg hu] at h
    exact absurd h hu
theorem rdT_pos {s : ByteArray} {a e : Nat} {m : Int} (h : (rdT s a e m).2.2 = 0) : e = 0 ∧ a + 1 ≤ (rdT s a e m).2.1 := by
  rw [rdT_U] at h ⊢
  by_cases hu : (rdU s a e).2.2 = 0
  · rw [if_pos hu] at h ⊢
    split
    · rename_i hq
      rw [if_pos hq] at h
      exact absurd h (by simp)
    · rename_i hq
      rw [if_neg hq] at h
      split
      · rename_i hp
        rw [if_pos hp] at h
        exact absurd h (by simp)
      · have := rdU_pos hu
        refine ⟨this.1, ?_⟩
        simp only
        omega
  · rw [if_neg hu] at h
    exact absurd h hu
theorem rdS_mono {s : ByteArray} {a e : Nat} {m : Int} (h : a ≤ s.size) : a ≤ (rdS s a e m).2.1 ∧ (rdS s a e m).2.1 ≤ s.size := ⟨(rdS_le h).2, (rdS_le h).1⟩
theorem rdT_mono {s : ByteArray} {a e : Nat} {m : Int} (h : a ≤ s.size) : a ≤ (rdT s a e m).2.1 ∧ (rdT s a e m).2.1 ≤ s.size := ⟨(rdT_le h).2, (rdT_le h).1⟩
/-! ### Records -/
def rdAt (s : ByteArray) (a e : Nat) : Nat × Nat × Nat := rdS s a e 1099511627776
def rdTp (s : ByteArray) (a e : Nat) : List UInt8 × Nat × Nat := rdT s (rdAt s a e).2.1 (rdAt s a e).2.2 40
def rdPl (s : ByteArray) (a e : Nat) : List UInt8 × Nat × Nat := rdT s (rdTp s a e).2.1 (rdTp s a e).2.2 4000
def rdRec (s : ByteArray) (a e : Nat) : Rc := ⟨((rdAt s a e).1 : Nat), (rdTp s a e).1, (rdPl s a e).1⟩
theorem rdPl_pos {s : ByteArray} {a e : Nat} (h : (rdPl s a e).2.2 = 0) : e = 0 ∧ (rdAt s a e).2.2 = 0 ∧ (rdTp s a e).2.2 = 0 ∧ a + 1 ≤ (rdPl s a e).2.1 := by
  have h1 := rdT_pos h
  have h2 := rdT_pos h1.1
  have h3 := rdS_pos h2.1
  have e1 : (rdPl s a e).2.1 = (rdT s (rdTp s a e).2.1 (rdTp s a e).2.2 4000).2.1 := rfl
  have e2 : (rdTp s a e).2.1 = (rdT s (rdAt s a e).2.1 (rdAt s a e).2.2 40).2.1 := rfl
  have e3 : (rdAt s a e).2.1 = (rdS s a e 1099511627776).2.1 := rfl
  exact ⟨h3.1, h2.1, h1.1, by omega⟩
theorem rdPl_mono {s : ByteArray} {a e : Nat} (h : a ≤ s.size) : a ≤ (rdPl s a e).2.1 ∧ (rdPl s a e).2.1 ≤ s.size ∧ (rdAt s a e).2.1 ≤ s.size ∧ (rdTp s a e).2.1 ≤ s.size := by
  have h1 := rdS_mono (e := e) (m := 1099511627776) h
  have h2 := rdT_mono (e := (rdAt s a e).2.2) (m := 40) (a := (rdAt s a e).2.1) h1.2
  have h3 := rdT_mono (e := (rdTp s a e).2.2) (m := 4000) (a := (rdTp s a e).2.1) h2.2
  have e1 : (rdPl s a e).2.1 = (rdT s (rdTp s a e).2.1 (rdTp s a e).2.2 4000).2.1 := rfl
  have e2 : (rdTp s a e).2.1 = (rdT s (rdAt s a e).2.1 (rdAt s a e).2.2 40).2.1 := rfl
  have e3 : (rdAt s a e).2.1 = (rdS s a e 1099511627776).2.1 := rfl
  omega
theorem rdAt_le (s : ByteArray) (a e : Nat) : ((rdAt s a e).1 : Int) ≤ 1099511627776 := by
  unfold rdAt
  rw [rdS_U]
  split
  · split
    · simp only; omega
    · omega
  · simp only; omega
theorem rdT_len (s : ByteArray) (a e : Nat) (m : Nat) : (rdT s a e m).1.length ≤ m := by
  rw [rdT_U]
  split
  · split
    · simp
    · split
      · simp
      · simp only [List.length_take]; omega
  · simp
/-- The record at a place is one that may follow. -/
def okN (s : ByteArray) (a : Nat) (la : Int) : Prop := (rdPl s a 0).2.2 = 0 ∧ isT (rdTp s a 0).1 ∧ la ≤ ((rdAt s a 0).1 : Nat)
instance (s : ByteArray) (a : Nat) (la : Int) : Decidable (okN s a la) := by unfold okN; infer_instance
def recF (s : ByteArray) : Nat → Nat → Int → Option (List Rc)
  | 0, _, _ => none
  | n + 1, a, la => if s.size ≤ a then some [] else if okN s a la then (recF s n (rdPl s a 0).2.1 ((rdAt s a 0).1 : Nat)).map (rdRec s a 0 :: ·) else none
def recP (s : ByteArray) (a : Nat) (la : Int) : Option (List Rc) := recF s (s.size + 1 - a) a la
theorem recF_fuel {s : ByteArray} : ∀ (n m a : Nat) (la : Int), s.size + 1 ≤ a + n → s.size + 1 ≤ a + m → a ≤ s.size → recF s n a la = recF s m a la
  | 0, m, a, la, h, _, ha => by omega
  | n + 1, 0, a, la, _, h, ha => by omega
  | n + 1, m + 1, a, la, h, h', ha => by
    unfold recF
    split
    · rfl
    · split
      · rename_i ho
        have h1 := rdPl_pos ho.1
        have h2 := rdPl_mono (e := 0) ha
        rw [recF_fuel n m _ _ (by omega) (by omega) h2.2.1]
      · rfl
theorem recP_end {s : ByteArray} {a : Nat} {la : Int} (h : a = s.size) : recP s a la = some [] := by
  unfold recP
  rw [show s.size + 1 - a = 0 + 1 by omega]
  unfold recF
  rw [if_pos (by omega)]
theorem recP_go {s : ByteArray} {a : Nat} {la : Int} (h : a < s.size) (ho : okN s a la) : recP s a la = (recP s (rdPl s a 0).2.1 ((rdAt s a 0).1 : Nat)).map (rdRec s a 0 :: ·) := by
  have h1 := rdPl_pos ho.1
  have h2 := rdPl_mono (e := 0) (Nat.le_of_lt h)
  unfold recP
  rw [show s.size + 1 - a = (s.size - a) + 1 by omega]
  conv => lhs; unfold recF
  rw [if_neg (by omega), if_pos ho, recF_fuel (s.size - a) (s.size + 1 - (rdPl s a 0).2.1) _ _ (by omega) (by omega) h2.2.1]
theorem recP_no {s : ByteArray} {a : Nat} {la : Int} (h : a < s.size) (ho : ¬ okN s a la) : recP s a la = none := by
  unfold recP
  rw [show s.size + 1 - a = (s.size - a) + 1 by omega]
  unfold recF
  rw [if_neg (by omega), if_neg ho]
/-- The records of a chunk's content; none: it is no content. -/
def recL (s : ByteArray) : List Rc := if (rdU s 0 0).1 = 1 ∧ (rdU s 0 0).2.2 = 0 then (recP s (rdU s 0 0).2.1 0).getD [] else []
/-! ### The one text of a string -/
def exaL (l : List UInt8) : List UInt8 × Nat :=
  if endV (mkS l) (rdT (mkS l) 0 0 l.length).2.1 (rdT (mkS l) 0 0 l.length).2.2 = 0 then openL (rdT (mkS l) 0 0 l.length).1 else ([], 2)
/-! ### Entries -/
structure En where
  (off fi la : Nat) (T : List Tl)
deriving Inhabited, DecidableEq
def tlN (s : ByteArray) : Nat → Nat → Nat → List Tl × Nat × Nat
  | 0, a, e => ([], a, e)
  | k + 1, a, e => if e = 0 then (((rdT s a e 40).1, (rdAt s (rdT s a e 40).2.1 (rdT s a e 40).2.2).1) :: (tlN s k (rdAt s (rdT s a e 40).2.1 (rdT s a e 40).2.2).2.1 (rdAt s (rdT s a e 40).2.1 (rdT s a e 40).2.2).2.2).1,
      (tlN s k (rdAt s (rdT s a e 40).2.1 (rdT s a e 40).2.2).2.1 (rdAt s (rdT s a e 40).2.1 (rdT s a e 40).2.2).2.2).2) else ([], a, e)
def sm1 (s : ByteArray) (a e : Nat) : Nat × Nat × Nat := rdAt s a e
def sm2 (s : ByteArray) (a e : Nat) : Nat × Nat × Nat := rdAt s (sm1 s a e).2.1 (sm1 s a e).2.2
def sm3 (s : ByteArray) (a e : Nat) : Nat × Nat × Nat := rdAt s (sm2 s a e).2.1 (sm2 s a e).2.2
def sm4 (s : ByteArray) (a e : Nat) : Nat × Nat × Nat := rdAt s (sm3 s a e).2.1 (sm3 s a e).2.2
def enT (s : ByteArray) (a e : Nat) : List Tl × Nat × Nat := tlN s (sm4 s a e).1 (sm4 s a e).2.1 (sm4 s a e).2.2
def rdEn (s : ByteArray) (a e : Nat) : En := ⟨(sm1 s a e).1, (sm2 s a e).1, (sm3 s a e).1, (enT s a e).1⟩
def enN (s : ByteArray) : Nat → Nat → Nat → List En × Nat × Nat
  | 0, a, e => ([], a, e)
  | k + 1, a, e => if e = 0 then (rdEn s a e :: (enN s k (enT s a e).2.1 (enT s a e).2.2).1, (enN s k (enT s a e).2.1 (enT s a e).2.2).2) else ([], a, e)
/-- The entries of an index, and whether it is exact. -/
def ixL (s : ByteArray) : List En × Bool :=
  if (rdU s 0 0).1 = 2 then ((enN s (rdAt s (rdU s 0 0).2.1 (rdU s 0 0).2.2).1 (rdAt s (rdU s 0 0).2.1 (rdU s 0 0).2.2).2.1 (rdAt s (rdU s 0 0).2.1 (rdU s 0 0).2.2).2.2).1,
    decide (endV s (enN s (rdAt s (rdU s 0 0).2.1 (rdU s 0 0).2.2).1 (rdAt s (rdU s 0 0).2.1 (rdU s 0 0).2.2).2.1 (rdAt s (rdU s 0 0).2.1 (rdU s 0 0).2.2).2.2).2.1 (enN s (rdAt s (rdU s 0 0).2.1 (rdU s 0 0).2.2).1 (rdAt s (rdU s 0 0).2.1 (rdU s 0 0).2.2).2.1 (rdAt s (rdU s 0 0).2.1 (rdU s 0 0).2.2).2.2).2.2 = 0)) else ([], false)
def okT1 (T : List Tl) (i : Nat) : Prop := isT (T.getD i default).1 ∧ (0 < i → (T.getD (i - 1) default).1 < (T.getD i default).1) ∧ 1 ≤ (T.getD i default).2
instance (T : List Tl) (i : Nat) : Decidable (okT1 T i) := by unfold okT1; infer_instance
def okTs (T : List Tl) : Prop := ∀ i, i < T.length → okT1 T i
instance (T : List Tl) : Decidable (okTs T) := by unfold okTs; infer_instance
def okE1 (L : List En) (ix i : Nat) : Prop :=
  ((i = 0 → (L.getD i default).off = 5) ∧ (0 < i → (L.getD (i - 1) default).off < (L.getD i default).off) ∧ (L.getD i default).off < ix) ∧
  ((0 < i → (L.getD (i - 1) default).la ≤ (L.getD i default).fi) ∧ (L.getD i default).fi ≤ (L.getD i default).la ∧ 1 ≤ (L.getD i default).T.length) ∧ okTs (L.getD i default).T
instance (L : List En) (ix i : Nat) : Decidable (okE1 L ix i) := by unfold okE1; infer_instance
def ordE (L : List En) (ix : Nat) : Prop := (L.length = 0 → ix = 5) ∧ ∀ i, i < L.length → okE1 L ix i
instance (L : List En) (ix : Nat) : Decidable (ordE L ix) := by unfold ordE; infer_instance
/-! ### Bags -/
def le8 (l : List UInt8) : Nat := l.foldr (fun b a => b.toNat + 256 * a) 0
/-- A bag: its bytes, where the index begins, the entries. -/
structure Bg where
  (s : List UInt8) (ix : Nat) (L : List En)
deriving Inhabited
def bgA (s : List UInt8) : Nat := le8 ((s.drop (s.length - 13)).take 8)
def bgX (s : List UInt8) : List UInt8 × Nat := exaL ((s.take (s.length - 13)).drop (bgA s))
def bgE (s : List UInt8) : Nat :=
  if s.length < 18 then 1
  else if ¬ (s.take 5 = magic ∧ s.drop (s.length - 5) = magic ∧ 5 ≤ bgA s ∧ bgA s ≤ s.length - 13) then 2
  else if (bgX s).2 ≠ 0 then (bgX s).2
  else if (ixL (mkS (bgX s).1)).2 = true ∧ ordE (ixL (mkS (bgX s).1)).1 (bgA s) then 0 else 2
def bgO (s : List UInt8) : Bg := ⟨s, bgA s, (ixL (mkS (bgX s).1)).1⟩
def endE (b : Bg) (k : Nat) : Nat := if k + 1 < b.L.length then (b.L.getD (k + 1) default).off else b.ix
def chX (b : Bg) (k : Nat) : List UInt8 × Nat := exaL ((b.s.take (endE b k)).drop (b.L.getD k default).off)
def chR1 (b : Bg) (k : Nat) : List Rc := recL (mkS (chX b k).1)
def chOk (b : Bg) (k : Nat) : Prop := 0 < (chR1 b k).length ∧ ((chR1 b k).getD 0 default).at_ = (b.L.getD k default).fi ∧ ((chR1 b k).getD ((chR1 b k).length - 1) default).at_ = (b.L.getD k default).la ∧ tal (chR1 b k) = (b.L.getD k default).T
instance (b : Bg) (k : Nat) : Decidable (chOk b k) := by unfold chOk; infer_instance
def chE (b : Bg) (k : Nat) : Nat := if (chX b k).2 ≠ 0 then (chX b k).2 else if chOk b k then 0 else 2
def chL (b : Bg) (k : Nat) : List Rc := if chE b k = 0 then chR1 b k else []
def allT (b : Bg) : List Tl := (b.L.flatMap En.T).foldl (fun a t => talA a t.1 t.2) []
def hasT (e : En) (t : List UInt8) : Prop := t = [] ∨ t ∈ e.T.map Prod.fst
instance (e : En) (t : List UInt8) : Decidable (hasT e t) := by unfold hasT; infer_instance
def skipE (e : En) (t : List UInt8) (fr un : Int) : Prop := ¬ hasT e t ∨ (e.la : Int) < fr ∨ un ≤ (e.fi : Int)
instance (e : En) (t : List UInt8) (fr un : Int) : Decidable (skipE e t fr un) := by unfold skipE; infer_instance
def selR (t : List UInt8) (fr un : Int) (l : List Rc) : List Rc := l.filter fun r => decide ((t = [] ∨ r.tp = t) ∧ fr ≤ r.at_ ∧ r.at_ < un)
/-- Reading from entry k on: the records, or the first error. -/
def rdB (b : Bg) (t : List UInt8) (fr un : Int) : Nat → Nat → List Rc × Nat
  | 0, _ => ([], 0)
  | n + 1, k => if skipE (b.L.getD k default) t fr un then rdB b t fr un n (k + 1)
    else if chE b k ≠ 0 then ([], chE b k)
    else if (rdB b t fr un n (k + 1)).2 = 0 then (selR t fr un (chL b k) ++ (rdB b t fr un n (k + 1)).1, 0) else ([], (rdB b t fr un n (k + 1)).2)
def readB (b : Bg) (t : List UInt8) (fr un : Int) : List Rc × Nat := rdB b t fr un b.L.length 0
def nxB (b : Bg) (at' : Int) : Option Rc := match b.L.findIdx? fun e => decide (at' ≤ (e.la : Int)) with
  | none => none
  | some k => (chL b k).find? fun r => decide (at' ≤ r.at_)
/-! ### Repair -/
end Go.Proofs.Ytkjkbpnhocjenaa


namespace Go.Proofs.Ytkjkbpnhocjenaa
open Go.X
set_option linter.unusedSimpArgs false
set_option linter.unusedVariables false
open P4
open P5
theorem getB {l : List UInt8} {k : Nat} (h : k < l.length) : (mkS l).get! k = l.getD k default := by
  have h1 := drop_cons (s := mkS l) (k := k) h
  have h2 := drop_consG l h
  have h3 : (mkS l).data.toList.drop k = l.drop k := rfl
  rw [h3, h2] at h1
  exact (List.cons.inj h1).1.symm
theorem isT_no {l : List UInt8} {k : Nat} (h : k < l.length) (hb : (l.getD k default).toNat < 33 ∨ 126 < (l.getD k default).toNat) : ¬ isT l := by
  intro q
  have := q.2 (l.getD k default) (by rw [getD_at h]; exact List.getElem_mem _)
  omega
theorem isT_yes {l : List UInt8} (h : 1 ≤ l.length ∧ l.length ≤ 40) (hb : ∀ k, k < l.length → 33 ≤ (l.getD k default).toNat ∧ (l.getD k default).toNat ≤ 126) : isT l := by
  refine ⟨h, fun b hm => ?_⟩
  obtain ⟨k, hk, e⟩ := List.mem_iff_getElem.1 hm
  have := hb k hk
  rw [getD_at hk, e] at this
  exact this
theorem mkS_nil {l : List UInt8} : (mkS l = { data := #[] }) ↔ l = [] := by
  constructor
  · intro h; exact mkS_inj.1 (h.trans (rfl : _ = mkS []))
  · rintro rfl; rfl
set_option maxRecDepth 10000 in
theorem cisT (l : List UInt8) (hl : l.length ≤ 140737488355328) : Ctr Try.prog 37 [.c (.s (mkS l))] [] fun v h => v = .c (.b (decide (isT l))) ∧ h = [] := by
  have hz : (mkS l).size = l.length := rfl
  have hno : ¬ isT l → decide (isT l) = false := fun h => decide_eq_false h
  refine Ctr.mk' tbv mixed Try.func37 rfl rfl rfl (fun _ _ => by kernel_rfl) (by kernel_rfl) (by rfl) (by rfl) (by (repeat' first | refine And.intro ?_ ?_ | exact xeC | fail)) ?_
  repeat' (first | (fail_if_success (with_reducible refine xstp ?_)); first | ((with_reducible refine And.intro (fun (hb : _ = true) => ?_) (fun (hb : _ = false) => ?_)) <;> replace hb := xnC hb <;> (try first | exact xfC | exact bff hb (by assumption) | exact bff (by assumption) hb)) | (with_reducible refine Both.mk ?_ ?_) | ((with_reducible refine And.intro ?_ ?_); focus exact xoC) | ((with_reducible refine Or.inl ⟨?_, ?_, ?_⟩); (focus rfl); focus exact xaC) | ((with_reducible refine xwB ?_ ?_); focus exact xaC) | ((with_reducible refine xwC ?_ ?_); focus exact xaC) | ((with_reducible refine xwD ?_ ?_); focus exact xaC) | ((with_reducible refine xwE ?_ ?_); focus exact xaC) | (with_reducible intro hc; (try simp only [capsP, and_true] at hc); (try exact xfC)) | ((fail_if_success (with_reducible first | refine xgon ?_ | intro _)); (conv => whnf); (fail_if_success (fail_if_success (with_reducible first | refine xstp ?_ | refine Both.mk ?_ ?_ | refine xgon ?_ | intro _)))))
  · rw [hno (fun h => by have := h.1; rw [mkS_nil.1 hb] at this; simp at this)]
    refine FinK.mk ⟨[], _, _, ⟨rfl, rfl⟩, ?_⟩; (repeat' first | refine And.intro ?_ ?_ | exact xeC | fail)
  · rw [hno (fun h => by have := h.1; omega)]
    refine FinK.mk ⟨[], _, _, ⟨rfl, rfl⟩, ?_⟩; (repeat' first | refine And.intro ?_ ?_ | exact xeC | fail)
  have h2 : 1 ≤ l.length ∧ l.length ≤ 40 := by
    refine ⟨?_, by omega⟩
    rcases Nat.lt_or_ge 0 l.length with h | h
    · exact h
    · have e : l = [] := List.eq_nil_of_length_eq_zero (by omega)
      subst e
      first | (exfalso; omega) | (exfalso; rename_i h0; exact h0 rfl)
  refine LoopK.mk' {i : Nat // i ≤ l.length ∧ ∀ j, j < i → 33 ≤ (l.getD j default).toNat ∧ (l.getD j default).toNat ≤ 126}
    (fun ⟨i, _⟩ => ⟨[(0, .c (.s (mkS l))), (12, .c (.i .i64 (l.length : Nat))), (13, .c (.i .i64 (i : Nat)))], []⟩) (fun k => l.length - k.1)
    ⟨⟨0, Nat.zero_le _, fun j hj => absurd hj (Nat.not_lt_zero _)⟩, [], ?_⟩ ?_
  · (repeat' first | refine And.intro ?_ ?_ | exact xeC | fail)
  rintro ⟨i, hi, hq⟩
  repeat' (first | (fail_if_success (with_reducible refine xstp ?_)); first | ((with_reducible refine And.intro (fun (hb : _ = true) => ?_) (fun (hb : _ = false) => ?_)) <;> replace hb := xnC hb <;> (try first | exact xfC | exact bff hb (by assumption) | exact bff (by assumption) hb)) | (with_reducible refine Both.mk ?_ ?_) | ((with_reducible refine And.intro ?_ ?_); focus exact xoC) | ((with_reducible refine Or.inl ⟨?_, ?_, ?_⟩); (focus rfl); focus exact xaC) | ((with_reducible refine xwB ?_ ?_); focus exact xaC) | ((with_reducible refine xwC ?_ ?_); focus exact xaC) | ((with_reducible refine xwD ?_ ?_); focus exact xaC) | ((with_reducible refine xwE ?_ ?_); focus exact xaC) | (with_reducible intro hc; (try simp only [capsP, and_true] at hc); (try exact xfC)) | ((fail_if_success (with_reducible first | refine xgon ?_ | intro _)); (conv => whnf); (fail_if_success (fail_if_success (with_reducible first | refine xstp ?_ | refine Both.mk ?_ ?_ | refine xgon ?_ | intro _)))))
  all_goals try (
    rw [Int.toNat_natCast, getB (by omega)] at *
    rw [hno (isT_no (k := i) (by omega) (by omega))]
    refine FinK.mk ⟨[], _, _, ⟨rfl, rfl⟩, ?_⟩; (repeat' first | refine And.intro ?_ ?_ | exact xeC | fail)
    done)
  · rw [Int.toNat_natCast, getB (by omega)] at *
    refine ⟨⟨i + 1, by omega, fun j hj => ?_⟩, [], by simp only; omega, ?_⟩
    · rcases Nat.lt_or_ge j i with h | h
      · exact hq j h
      · obtain rfl : j = i := by omega
        omega
    · (repeat' first | refine And.intro ?_ ?_ | exact xeC | fail)
  · obtain rfl : i = l.length := by omega
    rw [show decide (isT l) = true from decide_eq_true (isT_yes h2 hq)]
    refine FinK.mk ⟨[], _, _, ⟨rfl, rfl⟩, ?_⟩; (repeat' first | refine And.intro ?_ ?_ | exact xeC | fail)
set_option maxRecDepth 10000 in
theorem cisTR (l : List UInt8) (hl : l.length ≤ 140737488355328) : Ctr Try.prog 40 [.c (.s (mkS l))] [] fun v h => v = .c (.b (decide (isT l))) ∧ h = [] := by
  have hz : (mkS l).size = l.length := rfl
  have hno : ¬ isT l → decide (isT l) = false := fun h => decide_eq_false h
  refine Ctr.mk' tbv mixed Try.func40 rfl rfl rfl (fun _ _ => by kernel_rfl) (by kernel_rfl) (by rfl) (by rfl) (by (repeat' first | refine And.intro ?_ ?_ | exact xeC | fail)) ?_
  repeat' (first | (fail_if_success (with_reducible refine xstp ?_)); first | ((with_reducible refine And.intro (fun (hb : _ = true) => ?_) (fun (hb : _ = false) => ?_)) <;> replace hb := xnC hb <;> (try first | exact xfC | exact bff hb (by assumption) | exact bff (by assumption) hb)) | (with_reducible refine Both.mk ?_ ?_) | ((with_reducible refine And.intro ?_ ?_); focus exact xoC) | ((with_reducible refine Or.inl ⟨?_, ?_, ?_⟩); (focus rfl); focus exact xaC) | ((with_reducible refine xwB ?_ ?_); focus exact xaC) | ((with_reducible refine xwC ?_ ?_); focus exact xaC) | ((with_reducible refine xwD ?_ ?_); focus exact xaC) | ((with_reducible refine xwE ?_ ?_); focus exact xaC) | (with_reducible intro hc; (try simp only [capsP, and_true] at hc); (try exact xfC)) | ((fail_if_success (with_reducible first | refine xgon ?_ | intro _)); (conv => whnf); (fail_if_success (fail_if_success (with_reducible first | refine xstp ?_ | refine Both.mk ?_ ?_ | refine xgon ?_ | intro _)))))
  · rw [hno (fun h => by have := h.1; omega)]
    refine FinK.mk ⟨[], _, _, ⟨rfl, rfl⟩, ?_⟩; (repeat' first | refine And.intro ?_ ?_ | exact xeC | fail)
  · rw [hno (fun h => by have := h.1; omega)]
    refine FinK.mk ⟨[], _, _, ⟨rfl, rfl⟩, ?_⟩; (repeat' first | refine And.intro ?_ ?_ | exact xeC | fail)
  have h2 : 1 ≤ l.length ∧ l.length ≤ 40 := by
    refine ⟨?_, by omega⟩
    rcases Nat.lt_or_ge 0 l.length with h | h
    · exact h
    · have e : l = [] := List.eq_nil_of_length_eq_zero (by omega)
      subst e
      first | (exfalso; omega) | (exfalso; rename_i h0; exact h0 rfl)
  refine LoopK.mk' {i : Nat // i ≤ l.length ∧ ∀ j, j < i → 33 ≤ (l.getD j default).toNat ∧ (l.getD j default).toNat ≤ 126}
    (fun ⟨i, _⟩ => ⟨[(0, .c (.s (mkS l))), (3, .c (.i .i64 (i : Nat)))], []⟩) (fun k => l.length - k.1)
    ⟨⟨0, Nat.zero_le _, fun j hj => absurd hj (Nat.not_lt_zero _)⟩, [], ?_⟩ ?_
  · (repeat' first | refine And.intro ?_ ?_ | exact xeC | fail)
  rintro ⟨i, hi, hq⟩
  repeat' (first | (fail_if_success (with_reducible refine xstp ?_)); first | ((with_reducible refine And.intro (fun (hb : _ = true) => ?_) (fun (hb : _ = false) => ?_)) <;> replace hb := xnC hb <;> (try first | exact xfC | exact bff hb (by assumption) | exact bff (by assumption) hb)) | (with_reducible refine Both.mk ?_ ?_) | ((with_reducible refine And.intro ?_ ?_); focus exact xoC) | ((with_reducible refine Or.inl ⟨?_, ?_, ?_⟩); (focus rfl); focus exact xaC) | ((with_reducible refine xwB ?_ ?_); focus exact xaC) | ((with_reducible refine xwC ?_ ?_); focus exact xaC) | ((with_reducible refine xwD ?_ ?_); focus exact xaC) | ((with_reducible refine xwE ?_ ?_); focus exact xaC) | (with_reducible intro hc; (try simp only [capsP, and_true] at hc); (try exact xfC)) | ((fail_if_success (with_reducible first | refine xgon ?_ | intro _)); (conv => whnf); (fail_if_success (fail_if_success (with_reducible first | refine xstp ?_ | refine Both.mk ?_ ?_ | refine xgon ?_ | intro _)))))
  all_goals try (
    rw [Int.toNat_natCast, getB (by omega)] at *
    rw [hno (isT_no (k := i) (by omega) (by omega))]
    refine FinK.mk ⟨[], _, _, ⟨rfl, rfl⟩, ?_⟩; (repeat' first | refine And.intro ?_ ?_ | exact xeC | fail)
    done)
  · rw [Int.toNat_natCast, getB (by omega)] at *
    refine ⟨⟨i + 1, by omega, fun j hj => ?_⟩, [], by simp only; omega, ?_⟩
    · rcases Nat.lt_or_ge j i with h | h
      · exact hq j h
      · obtain rfl : j = i := by omega
        omega
    · (repeat' first | refine And.intro ?_ ?_ | exact xeC | fail)
  · obtain rfl : i = l.length := by omega
    rw [show decide (isT l) = true from decide_eq_true (isT_yes h2 hq)]
    refine FinK.mk ⟨[], _, _, ⟨rfl, rfl⟩, ?_⟩; (repeat' first | refine And.intro ?_ ?_ | exact xeC | fail)
theorem u64n {n : Nat} (h : n < 18446744073709551616) : IntKind.u64.wrap (n : Int) = (n : Int) := by rw [IntKind.wrap_u64]; omega
theorem u64z {n : Int} (h : 0 ≤ n) (h' : n < 18446744073709551616) : IntKind.u64.wrap n = (n.toNat : Int) := by rw [IntKind.wrap_u64]; omega
set_option maxRecDepth 10000 in
theorem cnumber (n : Int) (h : 0 ≤ n ∧ n ≤ 9223372036854775807) : Ctr Try.prog 39 [.c (.i .i64 n)] [] fun v h => v = .c (.s (mkS (venc n.toNat))) ∧ h = [] := by
  refine Ctr.mk' tbv mixed Try.func39 rfl rfl rfl (fun _ _ => by kernel_rfl) (by kernel_rfl) (by rfl) (by rfl) (by (repeat' first | refine And.intro ?_ ?_ | exact xeC | fail)) ?_
  repeat' (first | (fail_if_success (with_reducible refine xstp ?_)); first | ((with_reducible refine And.intro (fun (hb : _ = true) => ?_) (fun (hb : _ = false) => ?_)) <;> replace hb := xnC hb <;> (try first | exact xfC | exact bff hb (by assumption) | exact bff (by assumption) hb)) | (with_reducible refine Both.mk ?_ ?_) | ((with_reducible refine And.intro ?_ ?_); focus exact xoC) | ((with_reducible refine Or.inl ⟨?_, ?_, ?_⟩); (focus rfl); focus exact xaC) | ((with_reducible refine xwB ?_ ?_); focus exact xaC) | ((with_reducible refine xwC ?_ ?_); focus exact xaC) | ((with_reducible refine xwD ?_ ?_); focus exact xaC) | ((with_reducible refine xwE ?_ ?_); focus exact xaC) | (with_reducible intro hc; (try simp only [capsP, and_true] at hc); (try exact xfC)) | ((fail_if_success (with_reducible first | refine xgon ?_ | intro _)); (conv => whnf); (fail_if_success (fail_if_success (with_reducible first | refine xstp ?_ | refine Both.mk ?_ ?_ | refine xgon ?_ | intro _)))))
  rw [u64z h.1 (by omega)]
  refine xcal (σ := []) (nl := []) (cUint n.toNat (by omega)) ?_
  rintro v h' ⟨rfl, rfl⟩ hcaps
  refine xret ?_
  repeat' (first | (fail_if_success (with_reducible refine xstp ?_)); first | ((with_reducible refine And.intro (fun (hb : _ = true) => ?_) (fun (hb : _ = false) => ?_)) <;> replace hb := xnC hb <;> (try first | exact xfC | exact bff hb (by assumption) | exact bff (by assumption) hb)) | (with_reducible refine Both.mk ?_ ?_) | ((with_reducible refine And.intro ?_ ?_); focus exact xoC) | ((with_reducible refine Or.inl ⟨?_, ?_, ?_⟩); (focus rfl); focus exact xaC) | ((with_reducible refine xwB ?_ ?_); focus exact xaC) | ((with_reducible refine xwC ?_ ?_); focus exact xaC) | ((with_reducible refine xwD ?_ ?_); focus exact xaC) | ((with_reducible refine xwE ?_ ?_); focus exact xaC) | (with_reducible intro hc; (try simp only [capsP, and_true] at hc); (try exact xfC)) | ((fail_if_success (with_reducible first | refine xgon ?_ | intro _)); (conv => whnf); (fail_if_success (fail_if_success (with_reducible first | refine xstp ?_ | refine Both.mk ?_ ?_ | refine xgon ?_ | intro _)))))
  refine FinK.mk ⟨[], _, _, ⟨rfl, rfl⟩, ?_⟩; (repeat' first | refine And.intro ?_ ?_ | exact xeC | fail)
set_option maxRecDepth 10000 in
theorem ccount (n : Int) (h : 0 ≤ n ∧ n ≤ 9223372036854775807) : Ctr Try.prog 69 [.c (.i .i64 n)] [] fun v h => v = .c (.s (mkS (venc n.toNat))) ∧ h = [] := by
  refine Ctr.mk' tbv mixed Try.func69 rfl rfl rfl (fun _ _ => by kernel_rfl) (by kernel_rfl) (by rfl) (by rfl) (by (repeat' first | refine And.intro ?_ ?_ | exact xeC | fail)) ?_
  repeat' (first | (fail_if_success (with_reducible refine xstp ?_)); first | ((with_reducible refine And.intro (fun (hb : _ = true) => ?_) (fun (hb : _ = false) => ?_)) <;> replace hb := xnC hb <;> (try first | exact xfC | exact bff hb (by assumption) | exact bff (by assumption) hb)) | (with_reducible refine Both.mk ?_ ?_) | ((with_reducible refine And.intro ?_ ?_); focus exact xoC) | ((with_reducible refine Or.inl ⟨?_, ?_, ?_⟩); (focus rfl); focus exact xaC) | ((with_reducible refine xwB ?_ ?_); focus exact xaC) | ((with_reducible refine xwC ?_ ?_); focus exact xaC) | ((with_reducible refine xwD ?_ ?_); focus exact xaC) | ((with_reducible refine xwE ?_ ?_); focus exact xaC) | (with_reducible intro hc; (try simp only [capsP, and_true] at hc); (try exact xfC)) | ((fail_if_success (with_reducible first | refine xgon ?_ | intro _)); (conv => whnf); (fail_if_success (fail_if_success (with_reducible first | refine xstp ?_ | refine Both.mk ?_ ?_ | refine xgon ?_ | intro _)))))
  rw [u64z h.1 (by omega)]
  refine xcal (σ := []) (nl := []) (cUintR n.toNat (by omega)) ?_
  rintro v h' ⟨rfl, rfl⟩ hcaps
  refine xret ?_
  repeat' (first | (fail_if_success (with_reducible refine xstp ?_)); first | ((with_reducible refine And.intro (fun (hb : _ = true) => ?_) (fun (hb : _ = false) => ?_)) <;> replace hb := xnC hb <;> (try first | exact xfC | exact bff hb (by assumption) | exact bff (by assumption) hb)) | (with_reducible refine Both.mk ?_ ?_) | ((with_reducible refine And.intro ?_ ?_); focus exact xoC) | ((with_reducible refine Or.inl ⟨?_, ?_, ?_⟩); (focus rfl); focus exact xaC) | ((with_reducible refine xwB ?_ ?_); focus exact xaC) | ((with_reducible refine xwC ?_ ?_); focus exact xaC) | ((with_reducible refine xwD ?_ ?_); focus exact xaC) | ((with_reducible refine xwE ?_ ?_); focus exact xaC) | (with_reducible intro hc; (try simp only [capsP, and_true] at hc); (try exact xfC)) | ((fail_if_success (with_reducible first | refine xgon ?_ | intro _)); (conv => whnf); (fail_if_success (fail_if_success (with_reducible first | refine xstp ?_ | refine Both.mk ?_ ?_ | refine xgon ?_ | intro _)))))
  refine FinK.mk ⟨[], _, _, ⟨rfl, rfl⟩, ?_⟩; (repeat' first | refine And.intro ?_ ?_ | exact xeC | fail)
def okR (r : Rc) : Prop := isT r.tp ∧ (0 ≤ r.at_ ∧ r.at_ ≤ 1099511627776) ∧ r.pl.length ≤ 4000
instance (r : Rc) : Decidable (okR r) := by unfold okR; infer_instance
theorem textL_len (l : List UInt8) : (textL l).length ≤ 10 + l.length := by
  have := venc_le l.length
  simp only [textL, List.length_append]; omega
theorem recB_len {r : Rc} (h : okR r) : (recB r).length ≤ 4070 := by
  have h1 := venc_le r.at_.toNat
  have h2 := textL_len r.tp
  have h3 := textL_len r.pl
  have h4 := h.1.1
  have h5 := h.2.2
  simp only [recB, List.length_append]; omega
theorem rH41bB0 {σ : List Sg} {H h' : List Fam} {v : T} {K : T → List Fam → Prop} {H' : List Fam} {v' : T} {N : Nat} (hk : K v' H') (hN : H.length = N := by (try simp only [↓List.length_cons, ↓List.length_nil, Nat.reduceAdd]) <;> rfl) (h : givesF σ N H σ h' = some H' := by (try simp (maxSteps := 1000000) only [givesF, setF, updF, Fam.zeroth, Fam.rk, Ck.rk, C.rk, E.rk, T.rk, key, List.map_cons, List.map_nil, List.cons_append, List.nil_append, List.length_cons, List.length_nil, Option.map_some, Option.bind_some, Nat.reduceAdd, Nat.zero_add, Nat.add_zero, Nat.add_sub_cancel_left, Int.toNat_natCast, reps, List.all_cons, List.all_nil, C.flat, List.append_eq, Bool.not_true, Bool.and_true, Bool.or_false, Bool.or_self, Bool.not_false, List.append_nil, Bool.and_self, encR]) <;> rfl) (hv : v.rk σ N = v' := by (try simp only [givesF, setF, updF, Fam.zeroth, Fam.rk, Ck.rk, C.rk, E.rk, T.rk, key, List.map_cons, List.map_nil, List.cons_append, List.nil_append, List.length_cons, List.length_nil, Option.map_some, Option.bind_some, Nat.reduceAdd, Nat.zero_add, Nat.add_zero, Nat.add_sub_cancel_left, Int.toNat_natCast, reps, List.all_cons, List.all_nil, C.flat, List.append_eq, Bool.not_true, Bool.and_true, Bool.or_false, Bool.or_self, Bool.not_false, List.append_nil, Bool.and_self, encR]) <;> rfl) : RetG σ H h' v K := ret_mk3 hN h hv hk
set_option maxRecDepth 10000 in
theorem cencode (r : Rc) (h : okR r) : Ctr Try.prog 38 [.a (encR r)] [] fun v h => v = .c (.s (mkS (recB r))) ∧ h = [] := by
  have h1 := venc_le r.at_.toNat
  have h2 := textL_len r.tp
  have h3 := textL_len r.pl
  have h4 := h.1.1
  have h5 := h.2.2
  have h6 := h.2.1
  have z1 : (mkS (venc r.at_.toNat)).size = (venc r.at_.toNat).length := rfl
  have z2 : (mkS (textL r.tp)).size = (textL r.tp).length := rfl
  have z3 : (mkS (textL r.pl)).size = (textL r.pl).length := rfl
  have z4 : (mkS (venc r.at_.toNat ++ textL r.tp)).size = (venc r.at_.toNat).length + (textL r.tp).length := by rw [mkS_size, List.length_append]
  refine Ctr.mk' tbv mixed Try.func38 rfl rfl rfl (fun _ _ => by kernel_rfl) (by kernel_rfl) (by rfl) (by rfl) (by (repeat' first | refine And.intro ?_ ?_ | exact xeC | fail)) ?_
  repeat' (first | (fail_if_success (with_reducible refine xstp ?_)); first | ((with_reducible refine And.intro (fun (hb : _ = true) => ?_) (fun (hb : _ = false) => ?_)) <;> replace hb := xnC hb <;> (try first | exact xfC | exact bff hb (by assumption) | exact bff (by assumption) hb)) | (with_reducible refine Both.mk ?_ ?_) | ((with_reducible refine And.intro ?_ ?_); focus exact xoC) | ((with_reducible refine Or.inl ⟨?_, ?_, ?_⟩); (focus rfl); focus exact xaC) | ((with_reducible refine xwB ?_ ?_); focus exact xaC) | ((with_reducible refine xwC ?_ ?_); focus exact xaC) | ((with_reducible refine xwD ?_ ?_); focus exact xaC) | ((with_reducible refine xwE ?_ ?_); focus exact xaC) | (with_reducible intro hc; (try simp only [capsP, and_true] at hc); (try exact xfC)) | ((fail_if_success (with_reducible first | refine xgon ?_ | intro _)); (conv => whnf); (fail_if_success (fail_if_success (with_reducible first | refine xstp ?_ | refine Both.mk ?_ ?_ | refine xgon ?_ | intro _)))))
  refine xcal (σ := []) (nl := []) (cnumber r.at_ (by omega)) ?_
  rintro v h' ⟨rfl, rfl⟩ hcaps
  refine rH41bB0 ?_
  repeat' (first | (fail_if_success (with_reducible refine xstp ?_)); first | ((with_reducible refine And.intro (fun (hb : _ = true) => ?_) (fun (hb : _ = false) => ?_)) <;> replace hb := xnC hb <;> (try first | exact xfC | exact bff hb (by assumption) | exact bff (by assumption) hb)) | (with_reducible refine Both.mk ?_ ?_) | ((with_reducible refine And.intro ?_ ?_); focus exact xoC) | ((with_reducible refine Or.inl ⟨?_, ?_, ?_⟩); (focus rfl); focus exact xaC) | ((with_reducible refine xwB ?_ ?_); focus exact xaC) | ((with_reducible refine xwC ?_ ?_); focus exact xaC) | ((with_reducible refine xwD ?_ ?_); focus exact xaC) | ((with_reducible refine xwE ?_ ?_); focus exact xaC) | (with_reducible intro hc; (try simp only [capsP, and_true] at hc); (try exact xfC)) | ((fail_if_success (with_reducible first | refine xgon ?_ | intro _)); (conv => whnf); (fail_if_success (fail_if_success (with_reducible first | refine xstp ?_ | refine Both.mk ?_ ?_ | refine xgon ?_ | intro _)))))
  refine xcal (σ := []) (nl := []) (cText r.tp (by omega)) ?_
  rintro v h' ⟨rfl, rfl⟩ hcaps
  refine rH41bB0 ?_
  repeat' (first | (fail_if_success (with_reducible refine xstp ?_)); first | ((with_reducible refine And.intro (fun (hb : _ = true) => ?_) (fun (hb : _ = false) => ?_)) <;> replace hb := xnC hb <;> (try first | exact xfC | exact bff hb (by assumption) | exact bff (by assumption) hb)) | (with_reducible refine Both.mk ?_ ?_) | ((with_reducible refine And.intro ?_ ?_); focus exact xoC) | ((with_reducible refine Or.inl ⟨?_, ?_, ?_⟩); (focus rfl); focus exact xaC) | ((with_reducible refine xwB ?_ ?_); focus exact xaC) | ((with_reducible refine xwC ?_ ?_); focus exact xaC) | ((with_reducible refine xwD ?_ ?_); focus exact xaC) | ((with_reducible refine xwE ?_ ?_); focus exact xaC) | (with_reducible intro hc; (try simp only [capsP, and_true] at hc); (try exact xfC)) | ((fail_if_success (with_reducible first | refine xgon ?_ | intro _)); (conv => whnf); (fail_if_success (fail_if_success (with_reducible first | refine xstp ?_ | refine Both.mk ?_ ?_ | refine xgon ?_ | intro _)))))
  rw [mkS_append]
  refine xcal (σ := []) (nl := []) (cText r.pl (by omega)) ?_
  rintro v h' ⟨rfl, rfl⟩ hcaps
  refine rH41bB0 ?_
  repeat' (first | (fail_if_success (with_reducible refine xstp ?_)); first | ((with_reducible refine And.intro (fun (hb : _ = true) => ?_) (fun (hb : _ = false) => ?_)) <;> replace hb := xnC hb <;> (try first | exact xfC | exact bff hb (by assumption) | exact bff (by assumption) hb)) | (with_reducible refine Both.mk ?_ ?_) | ((with_reducible refine And.intro ?_ ?_); focus exact xoC) | ((with_reducible refine Or.inl ⟨?_, ?_, ?_⟩); (focus rfl); focus exact xaC) | ((with_reducible refine xwB ?_ ?_); focus exact xaC) | ((with_reducible refine xwC ?_ ?_); focus exact xaC) | ((with_reducible refine xwD ?_ ?_); focus exact xaC) | ((with_reducible refine xwE ?_ ?_); focus exact xaC) | (with_reducible intro hc; (try simp only [capsP, and_true] at hc); (try exact xfC)) | ((fail_if_success (with_reducible first | refine xgon ?_ | intro _)); (conv => whnf); (fail_if_success (fail_if_success (with_reducible first | refine xstp ?_ | refine Both.mk ?_ ?_ | refine xgon ?_ | intro _)))))
  rw [mkS_append]
  refine FinK.mk ⟨[], _, _, ⟨rfl, rfl⟩, ?_⟩; (repeat' first | refine And.intro ?_ ?_ | exact xeC | fail)
abbrev rcR (w : Bool) (l : List Rc) (c : Nat) : Ck := .row w false 34 3 l.length c (rowOf encR l)
theorem recsB_len : ∀ {l : List Rc}, (∀ r ∈ l, okR r) → (recsB l).length ≤ 4070 * l.length
  | [], _ => by simp [recsB]
  | r :: l, h => by
    have h1 := recB_len (h r (List.mem_cons_self ..))
    have h2 := recsB_len (l := l) fun q hq => h q (List.mem_cons_of_mem _ hq)
    simp only [recsB, List.flatMap_cons, List.length_append, List.length_cons] at h2 ⊢
    omega
theorem conB_len {l : List Rc} (h : ∀ r ∈ l, okR r) : (conB l).length ≤ 10 + 4070 * l.length := by
  have h1 := recsB_len h
  have h2 := venc_le 1
  simp only [conB, List.length_append]; omega
set_option maxRecDepth 10000 in
set_option maxHeartbeats 1000000 in
theorem ccontent (wa : Bool) (l : List Rc) (c : Nat) (hl : l.length ≤ 100000) (h : ∀ r ∈ l, okR r) : Ctr Try.prog 42 [.c (.sl 0 0 3 0 l.length c)] [.one (rcR wa l c)] fun v h => v = .c (.s (mkS (conB l))) ∧ h = [.one (rcR wa l c)] := by
  refine Ctr.mk' tbv mixed Try.func42 rfl rfl rfl (fun _ _ => by kernel_rfl) (by kernel_rfl) (by rfl) (by rfl) (by (repeat' first | refine And.intro ?_ ?_ | exact xeC | fail)) ?_
  repeat' (first | (fail_if_success (with_reducible refine xstp ?_)); first | ((with_reducible refine And.intro (fun (hb : _ = true) => ?_) (fun (hb : _ = false) => ?_)) <;> replace hb := xnC hb <;> (try first | exact xfC | exact bff hb (by assumption) | exact bff (by assumption) hb)) | (with_reducible refine Both.mk ?_ ?_) | ((with_reducible refine And.intro ?_ ?_); focus exact xoC) | ((with_reducible refine Or.inl ⟨?_, ?_, ?_⟩); (focus rfl); focus exact xaC) | ((with_reducible refine xwB ?_ ?_); focus exact xaC) | ((with_reducible refine xwC ?_ ?_); focus exact xaC) | ((with_reducible refine xwD ?_ ?_); focus exact xaC) | ((with_reducible refine xwE ?_ ?_); focus exact xaC) | (with_reducible intro hc; (try simp only [capsP, and_true] at hc); (try exact xfC)) | ((fail_if_success (with_reducible first | refine xgon ?_ | intro _)); (conv => whnf); (fail_if_success (fail_if_success (with_reducible first | refine xstp ?_ | refine Both.mk ?_ ?_ | refine xgon ?_ | intro _)))))
  refine xcal (σ := []) (nl := []) (ccount 1 (by omega)) ?_
  rintro v h' ⟨rfl, rfl⟩ hcaps
  refine rH41bB0 ?_
  repeat' (first | (fail_if_success (with_reducible refine xstp ?_)); first | ((with_reducible refine And.intro (fun (hb : _ = true) => ?_) (fun (hb : _ = false) => ?_)) <;> replace hb := xnC hb <;> (try first | exact xfC | exact bff hb (by assumption) | exact bff (by assumption) hb)) | (with_reducible refine Both.mk ?_ ?_) | ((with_reducible refine And.intro ?_ ?_); focus exact xoC) | ((with_reducible refine Or.inl ⟨?_, ?_, ?_⟩); (focus rfl); focus exact xaC) | ((with_reducible refine xwB ?_ ?_); focus exact xaC) | ((with_reducible refine xwC ?_ ?_); focus exact xaC) | ((with_reducible refine xwD ?_ ?_); focus exact xaC) | ((with_reducible refine xwE ?_ ?_); focus exact xaC) | (with_reducible intro hc; (try simp only [capsP, and_true] at hc); (try exact xfC)) | ((fail_if_success (with_reducible first | refine xgon ?_ | intro _)); (conv => whnf); (fail_if_success (fail_if_success (with_reducible first | refine xstp ?_ | refine Both.mk ?_ ?_ | refine xgon ?_ | intro _)))))
  refine LoopK.mk' {i : Nat // i ≤ l.length}
    (fun ⟨i, _⟩ => ⟨[(0, .c (.sl 0 0 3 0 l.length c)), (3, .c (.s (mkS (conB (l.take i))))), (4, .c (.i .i64 (i : Nat)))], [.one (rcR wa l c)]⟩) (fun k => l.length - k.1)
    ⟨⟨0, Nat.zero_le _⟩, [0], ?_⟩ ?_
  · (repeat' first | refine And.intro ?_ ?_ | exact xeC | fail)
  rintro ⟨i, hi⟩
  have hti := conB_len (l := l.take i) fun r hr => h r (List.mem_of_mem_take hr)
  rw [List.length_take] at hti
  have z0 : (mkS (conB (l.take i))).size = (conB (l.take i)).length := rfl
  repeat' (first | (fail_if_success (with_reducible refine xstp ?_)); first | ((with_reducible refine And.intro (fun (hb : _ = true) => ?_) (fun (hb : _ = false) => ?_)) <;> replace hb := xnC hb <;> (try first | exact xfC | exact bff hb (by assumption) | exact bff (by assumption) hb)) | (with_reducible refine Both.mk ?_ ?_) | ((with_reducible refine And.intro ?_ ?_); focus exact xoC) | ((with_reducible refine Or.inl ⟨?_, ?_, ?_⟩); (focus rfl); focus exact xaC) | ((with_reducible refine xwB ?_ ?_); focus exact xaC) | ((with_reducible refine xwC ?_ ?_); focus exact xaC) | ((with_reducible refine xwD ?_ ?_); focus exact xaC) | ((with_reducible refine xwE ?_ ?_); focus exact xaC) | (with_reducible intro hc; (try simp only [capsP, and_true] at hc); (try exact xfC)) | ((fail_if_success (with_reducible first | refine xgon ?_ | intro _)); (conv => whnf); (fail_if_success (fail_if_success (with_reducible first | refine xstp ?_ | refine Both.mk ?_ ?_ | refine xgon ?_ | intro _)))))
  · have hlt : i < l.length := by omega
    have hr := h (l.getD i default) (by rw [getD_at hlt]; exact List.getElem_mem _)
    have hts := take_snocG l hlt
    have h1 := venc_le (l.getD i default).at_.toNat
    have h2 := textL_len (l.getD i default).tp
    have h3 := textL_len (l.getD i default).pl
    have h4 := hr.1.1
    have h5 := hr.2.2
    have h6 := hr.2.1
    have z1 : (mkS (venc (l.getD i default).at_.toNat)).size = (venc (l.getD i default).at_.toNat).length := rfl
    have z2 : (mkS (textL (l.getD i default).tp)).size = (textL (l.getD i default).tp).length := rfl
    have z3 : (mkS (textL (l.getD i default).pl)).size = (textL (l.getD i default).pl).length := rfl
    have z4 : (mkS (conB (l.take i) ++ venc (l.getD i default).at_.toNat)).size = (conB (l.take i)).length + (venc (l.getD i default).at_.toNat).length := by rw [mkS_size, List.length_append]
    have z5 : (mkS (conB (l.take i) ++ venc (l.getD i default).at_.toNat ++ textL (l.getD i default).tp)).size = (conB (l.take i)).length + (venc (l.getD i default).at_.toNat).length + (textL (l.getD i default).tp).length := by rw [mkS_size, List.length_append, List.length_append]
    have e1 : 0 + ((i : Nat) : Int).toNat = i := by omega
    refine xcal (σ := []) (nl := []) (ccount (l.getD i default).at_ (by omega)) ?_
    rintro v h' ⟨rfl, rfl⟩ hcaps
    refine rH41bB0 ?_
    repeat' (first | (fail_if_success (with_reducible refine xstp ?_)); first | ((with_reducible refine And.intro (fun (hb : _ = true) => ?_) (fun (hb : _ = false) => ?_)) <;> replace hb := xnC hb <;> (try first | exact xfC | exact bff hb (by assumption) | exact bff (by assumption) hb)) | (with_reducible refine Both.mk ?_ ?_) | ((with_reducible refine And.intro ?_ ?_); focus exact xoC) | ((with_reducible refine Or.inl ⟨?_, ?_, ?_⟩); (focus rfl); focus exact xaC) | ((with_reducible refine xwB ?_ ?_); focus exact xaC) | ((with_reducible refine xwC ?_ ?_); focus exact xaC) | ((with_reducible refine xwD ?_ ?_); focus exact xaC) | ((with_reducible refine xwE ?_ ?_); focus exact xaC) | (with_reducible intro hc; (try simp only [capsP, and_true] at hc); (try exact xfC)) | ((fail_if_success (with_reducible first | refine xgon ?_ | intro _)); (conv => whnf); (fail_if_success (fail_if_success (with_reducible first | refine xstp ?_ | refine Both.mk ?_ ?_ | refine xgon ?_ | intro _)))))
    rw [mkS_append]
    refine xcal (σ := []) (nl := []) (cTextR (l.getD i default).tp (by omega)) ?_
    rintro v h' ⟨rfl, rfl⟩ hcaps
    refine rH41bB0 ?_
    repeat' (first | (fail_if_success (with_reducible refine xstp ?_)); first | ((with_reducible refine And.intro (fun (hb : _ = true) => ?_) (fun (hb : _ = false) => ?_)) <;> replace hb := xnC hb <;> (try first | exact xfC | exact bff hb (by assumption) | exact bff (by assumption) hb)) | (with_reducible refine Both.mk ?_ ?_) | ((with_reducible refine And.intro ?_ ?_); focus exact xoC) | ((with_reducible refine Or.inl ⟨?_, ?_, ?_⟩); (focus rfl); focus exact xaC) | ((with_reducible refine xwB ?_ ?_); focus exact xaC) | ((with_reducible refine xwC ?_ ?_); focus exact xaC) | ((with_reducible refine xwD ?_ ?_); focus exact xaC) | ((with_reducible refine xwE ?_ ?_); focus exact xaC) | (with_reducible intro hc; (try simp only [capsP, and_true] at hc); (try exact xfC)) | ((fail_if_success (with_reducible first | refine xgon ?_ | intro _)); (conv => whnf); (fail_if_success (fail_if_success (with_reducible first | refine xstp ?_ | refine Both.mk ?_ ?_ | refine xgon ?_ | intro _)))))
    rw [mkS_append]
    refine xcal (σ := []) (nl := []) (cTextR (l.getD i default).pl (by omega)) ?_
    rintro v h' ⟨rfl, rfl⟩ hcaps
    refine rH41bB0 ?_
    repeat' (first | (fail_if_success (with_reducible refine xstp ?_)); first | ((with_reducible refine And.intro (fun (hb : _ = true) => ?_) (fun (hb : _ = false) => ?_)) <;> replace hb := xnC hb <;> (try first | exact xfC | exact bff hb (by assumption) | exact bff (by assumption) hb)) | (with_reducible refine Both.mk ?_ ?_) | ((with_reducible refine And.intro ?_ ?_); focus exact xoC) | ((with_reducible refine Or.inl ⟨?_, ?_, ?_⟩); (focus rfl); focus exact xaC) | ((with_reducible refine xwB ?_ ?_); focus exact xaC) | ((with_reducible refine xwC ?_ ?_); focus exact xaC) | ((with_reducible refine xwD ?_ ?_); focus exact xaC) | ((with_reducible refine xwE ?_ ?_); focus exact xaC) | (with_reducible intro hc; (try simp only [capsP, and_true] at hc); (try exact xfC)) | ((fail_if_success (with_reducible first | refine xgon ?_ | intro _)); (conv => whnf); (fail_if_success (fail_if_success (with_reducible first | refine xstp ?_ | refine Both.mk ?_ ?_ | refine xgon ?_ | intro _)))))
    rw [mkS_append]
    refine ⟨⟨i + 1, by omega⟩, [0], by simp only; omega, ?_⟩
    (repeat' first | refine And.intro ?_ ?_ | exact xeC | fail)
    rw [hts, conB_snoc, recB]
    simp only [List.append_assoc]
  · obtain rfl : i = l.length := by omega
    rw [List.take_length]
    refine FinK.mk ⟨[0], _, _, ⟨rfl, rfl⟩, ?_⟩; (repeat' first | refine And.intro ?_ ?_ | exact xeC | fail)
end Go.Proofs.Ytkjkbpnhocjenaa


namespace Go.Proofs.Ytkjkbpnhocjenaa
open Go.X
set_option linter.unusedSimpArgs false
set_option linter.unusedVariables false
open P4
open P5
/-- A chunk with its records' capacity. -/
structure Ch where
  (l : List Rc) (cap : Nat)
deriving Inhabited
def encCh (F : Nat) (X : List Ch) (k : Nat) : List C := [.sl F k 3 0 (X.getD k default).l.length (X.getD k default).cap, .s (mkS (conB (X.getD k default).l))]
abbrev chR (F : Nat) (X : List Ch) (c : Nat) : Ck := .row true true 73 2 X.length c (encCh F X)
def chC (y : Ch) : Ck := rcR true y.l y.cap
theorem chF : FlatR chC := fun _ => ⟨_, _, _, _, _, _, rfl⟩
abbrev chG (X : List Ch) (k : Nat) : Ck := ixG chC X k
abbrev wrC (w : Wr) (F n c : Nat) : Ck := .cells true [.i .i64 w.most, .i .i64 (w.ad : Nat), .i .i64 w.la, .b w.cl, .sl F 0 2 0 n c]
theorem chG_rk (σ : List Sg) (N : Nat) (X : List Ch) (x : Nat) : (chG X x).rk σ N = chG X x := ixG_rk chF σ N X x
theorem xmC {p : Prop} (h : p := by first | exact fun _ => trivial | exact fun x => ixG_le chF | exact fun x => ixG_bel chF | exact fun x => ixG_belR chF | fail) : p := h
theorem loadAt_if {d : Td} {e o : Nat} {L : List C} {G : Nat → List C} {K : T → Prop} (h : loadAt d L o K) : loadAt d ((fun i => if i = e then L else G i) e) o K := by
  show loadAt d (if e = e then L else G e) o K
  rw [if_pos rfl]; exact h
theorem lay_if {e o : Nat} {L vs ws : List C} {G : Nat → List C} {K : List C → Prop} (h : lay L o vs K) : flatK true ws (lay ((fun i => if i = e then L else G i) e) o vs K) := by
  show lay (if e = e then L else G e) o vs K
  rw [if_pos rfl]; exact h
theorem con1 (r : Rc) : conB [r] = venc (Int.toNat 1) ++ recB r := by simp [conB, recsB]
theorem one_row {r : Rc} {g : Nat → List C} {i : Nat} (hg : g 0 = encR r) (hi : i < [r].length) : g i = rowOf encR [r] i := by
  obtain rfl : i = 0 := by simp at hi; omega
  rw [hg]; rfl
theorem getMap (X : List Ch) (i : Nat) : (X.map Ch.l).getD i default = (X.getD i default).l := by
  simp only [List.getD, List.getElem?_map]
  cases X[i]? <;> rfl
theorem chApp {σ : List Sg} {F F' G : Nat} {X : List Ch} {y : Ch} {g : Nat → List C} (hk : ∀ i, i ≠ X.length → key σ 0 F' i = (F, i)) (hn : key σ 0 F' X.length = (G, 0))
    (hg : g 0 = [.sl G 0 3 0 y.l.length y.cap, .s (mkS (conB y.l))]) : ∀ i, i < (X ++ [y]).length → appF X.length (encCh F X) 0 g i = List.map (C.rk σ 0) (encCh F' (X ++ [y]) i) := by
  intro i hi
  unfold appF
  by_cases h : i < X.length
  · rw [if_pos h]
    have e : (X ++ [y]).getD i default = X.getD i default := by simp [List.getD, List.getElem?_append_left h]
    simp only [encCh, List.map_cons, List.map_nil, C.rk, e, hk i (by omega)]
  · obtain rfl : i = X.length := by simp at hi; omega
    rw [if_neg h, Nat.sub_self, hg]
    have e : (X ++ [y]).getD X.length default = y := by simp [List.getD]
    simp only [encCh, List.map_cons, List.map_nil, C.rk, e, hn]
theorem chSet {σ : List Sg} {F F' G k : Nat} {X : List Ch} {y : Ch} {L L1 : List C} (hk : k < X.length) (h : ∀ i, i ≠ k → key σ 0 F' i = (F, i)) (hn : key σ 0 F' k = (G, 0))
    (hL : L = [.sl G 0 3 0 y.l.length y.cap, .s (mkS (conB y.l))]) (i : Nat) : (if i = k then L else (if i = k then L1 else encCh F X i)) = List.map (C.rk σ 0) (encCh F' (X.set k y) i) := by
  by_cases e : i = k
  · subst e
    rw [if_pos rfl, hL]
    simp only [encCh, List.map_cons, List.map_nil, C.rk, hn, getD_set _ _ _ _ hk, if_pos]
  · rw [if_neg e, if_neg e]
    simp only [encCh, List.map_cons, List.map_nil, C.rk, h i e, getD_set _ _ _ _ hk, if_neg e]
def newW (n : Int) : Wr := ⟨n, 0, 0, false, []⟩
set_option maxRecDepth 10000 in
theorem cNewW (n : Int) :
    Ctr Try.prog 11 [.c (.i .i64 n)] [] fun v h => ((n < 1 ∨ 65536 < n) ∧ v = .t [.c .nilp, .c (.i .i64 4)] ∧ h = []) ∨
      ((1 ≤ n ∧ n ≤ 65536) ∧ v = .t [.c (.p 0 0 0), .c (.i .i64 0)] ∧ h = [.one (wrC (newW n) 1 0 0), .one (chR 2 [] 0), .many (chG [])]) := by
  refine Ctr.mk' tbv mixed Try.func11 rfl rfl rfl (fun _ _ => by kernel_rfl) (by kernel_rfl) (by rfl) (by rfl) (by (repeat' first | refine And.intro ?_ ?_ | exact xeC | fail)) ?_
  repeat' (first | (fail_if_success (with_reducible refine xstp ?_)); first | ((with_reducible refine And.intro (fun (hb : _ = true) => ?_) (fun (hb : _ = false) => ?_)) <;> replace hb := xnC hb <;> (try first | exact xfC | exact bff hb (by assumption) | exact bff (by assumption) hb)) | (with_reducible refine Both.mk ?_ ?_) | ((with_reducible refine And.intro ?_ ?_); focus exact xoC) | ((with_reducible refine Or.inl ⟨?_, ?_, ?_⟩); (focus rfl); focus exact xaC) | ((with_reducible refine xwB ?_ ?_); focus exact xaC) | ((with_reducible refine xwC ?_ ?_); focus exact xaC) | ((with_reducible refine xwD ?_ ?_); focus exact xaC) | ((with_reducible refine xwE ?_ ?_); focus exact xaC) | (with_reducible intro hc; (try simp only [capsP, and_true] at hc); (try exact xfC)) | ((fail_if_success (with_reducible first | refine xgon ?_ | intro _)); (conv => whnf); (fail_if_success (fail_if_success (with_reducible first | refine xstp ?_ | refine Both.mk ?_ ?_ | refine xgon ?_ | intro _)))))
  · refine FinK.mk ⟨[], _, _, .inl ⟨by omega, rfl, rfl⟩, ?_⟩
    (repeat' first | refine And.intro ?_ ?_ | exact xeC | fail)
  · refine FinK.mk ⟨[], _, _, .inl ⟨by omega, rfl, rfl⟩, ?_⟩
    (repeat' first | refine And.intro ?_ ?_ | exact xeC | fail)
  · refine FinK.mk ⟨[0, 99, 98], _, _, .inr ⟨by omega, rfl, rfl⟩, ?_⟩
    (repeat' first | refine And.intro ?_ ?_ | exact xeC | fail)
    all_goals first | (exact xmC) | exact fun x => if_neg (Nat.not_lt_zero x)
theorem rH41bC0 {σ : List Sg} {H h' : List Fam} {v : T} {K : T → List Fam → Prop} {H' : List Fam} {v' : T} {N : Nat} (hk : K v' H') (hN : H.length = N := by (try simp only [↓List.length_cons, ↓List.length_nil, Nat.reduceAdd]) <;> rfl) (h : givesF σ N H σ h' = some H' := by (try simp (maxSteps := 1000000) only [givesF, setF, updF, Fam.zeroth, Fam.rk, Ck.rk, C.rk, E.rk, T.rk, key, List.map_cons, List.map_nil, List.cons_append, List.nil_append, List.length_cons, List.length_nil, Option.map_some, Option.bind_some, Nat.reduceAdd, Nat.zero_add, Nat.add_zero, Nat.add_sub_cancel_left, Int.toNat_natCast, reps, List.all_cons, List.all_nil, C.flat, List.append_eq, Bool.not_true, Bool.and_true, Bool.or_false, Bool.or_self, Bool.not_false, List.append_nil, Bool.and_self, ↓chG_rk, encR]) <;> rfl) (hv : v.rk σ N = v' := by (try simp only [givesF, setF, updF, Fam.zeroth, Fam.rk, Ck.rk, C.rk, E.rk, T.rk, key, List.map_cons, List.map_nil, List.cons_append, List.nil_append, List.length_cons, List.length_nil, Option.map_some, Option.bind_some, Nat.reduceAdd, Nat.zero_add, Nat.add_zero, Nat.add_sub_cancel_left, Int.toNat_natCast, reps, List.all_cons, List.all_nil, C.flat, List.append_eq, Bool.not_true, Bool.and_true, Bool.or_false, Bool.or_self, Bool.not_false, List.append_nil, Bool.and_self, ↓chG_rk, encR]) <;> rfl) : RetG σ H h' v K := ret_mk3 hN h hv hk
theorem cH41bC1 {P : Program} {F : Nat} {args : List T} {H : List Fam} {K : T → List Fam → Prop} {σ : List Sg} {nl : List Fam} {args0 : List T} {h0 : List Fam} {Q : T → List Fam → Prop} {H2 H1 : List Fam} {N n : Nat} (hc : Ctr P F args0 h0 Q) (hk : ∀ v h', Q v h' → capsP h' → RetG σ H2 h' v K) (hap : apart σ = true := by rfl) (hnl : nl.all nilB = true := by rfl) (h1 : H ++ nl = H1 := by first | exact List.append_nil _ | ((try simp only [List.cons_append, List.nil_append]) <;> rfl)) (hN : H1.length = N := by (try simp only [↓List.length_cons, ↓List.length_nil, Nat.reduceAdd]) <;> rfl) (hn : H.length = n := by (try simp only [↓List.length_cons, ↓List.length_nil, Nat.reduceAdd]) <;> rfl) (hH : givesF σ N H1 σ h0 = some H2 := by (try simp (maxSteps := 1000000) only [givesF, setF, updF, Fam.zeroth, Fam.rk, Ck.rk, C.rk, E.rk, T.rk, key, List.map_cons, List.map_nil, List.cons_append, List.nil_append, List.length_cons, List.length_nil, Option.map_some, Option.bind_some, Nat.reduceAdd, Nat.zero_add, Nat.add_zero, Nat.add_sub_cancel_left, Int.toNat_natCast, reps, List.all_cons, List.all_nil, C.flat, List.append_eq, Bool.not_true, Bool.and_true, Bool.or_false, Bool.or_self, Bool.not_false, List.append_nil, Bool.and_self, ↓chG_rk]) <;> rfl) (hle : leS n H1 σ N σ h0 (belsK N (h0.map (Fam.rk σ N)) (argsK n args (args0.map (T.rk σ N)) True)) := by repeat' first | refine And.intro ?_ ?_ | exact xeC | fail) : CallK P F args H K := CallK.mk3 hc hap hnl h1 hN hn hH hle hk
set_option maxRecDepth 10000 in
set_option maxHeartbeats 4000000 in
theorem cAddW (w : Wr) (X : List Ch) (c : Nat) (r : Rc) (hX : X.map Ch.l = w.L) (htp : r.tp.length ≤ 140737488355328)
    (hl : X.length ≤ 100000) (hch : ∀ x ∈ X, x.l.length ≤ 100000 ∧ (conB x.l).length ≤ 1000000) (had : w.ad ≤ 100000) :
    Ctr Try.prog 13 [.c (.p 0 0 0), .a (encR r)] [.one (wrC w 1 X.length c), .one (chR 2 X c), .many (chG X)]
      fun v h => ∃ X' c', X'.map Ch.l = (addW w r).L ∧ v = .c (.i .i64 (addE w r : Nat)) ∧ h = [.one (wrC (addW w r) 3 X'.length c'), .one .no, .one .no, .one (chR 4 X' c'), .many (chG X')] := by
  have hz : (mkS r.pl).size = r.pl.length := rfl
  refine Ctr.mk' tbv mixed Try.func13 rfl rfl rfl (fun _ _ => by kernel_rfl) (by kernel_rfl) (by rfl) (by rfl) (by (repeat' first | refine And.intro ?_ ?_ | exact xeC | fail) <;> (exact xmC)) ?_
  repeat' (first | (fail_if_success (with_reducible refine xstp ?_)); first | ((with_reducible refine And.intro (fun (hb : _ = true) => ?_) (fun (hb : _ = false) => ?_)) <;> replace hb := xnC hb <;> (try first | exact xfC | exact bff hb (by assumption) | exact bff (by assumption) hb)) | (with_reducible refine Both.mk ?_ ?_) | ((with_reducible refine And.intro ?_ ?_); focus exact xoC) | ((with_reducible refine Or.inl ⟨?_, ?_, ?_⟩); (focus rfl); focus exact xaC) | ((with_reducible refine xwB ?_ ?_); focus exact xaC) | ((with_reducible refine xwC ?_ ?_); focus exact xaC) | ((with_reducible refine xwD ?_ ?_); focus exact xaC) | ((with_reducible refine xwE ?_ ?_); focus exact xaC) | (with_reducible intro hc; (try simp only [capsP, and_true] at hc); (try exact xfC)) | ((fail_if_success (with_reducible first | refine xgon ?_ | intro _)); (conv => whnf); (fail_if_success (fail_if_success (with_reducible first | refine xstp ?_ | refine Both.mk ?_ ?_ | refine xgon ?_ | intro _)))))
  · skip
    have hE : addE w r = 10 := (by unfold addE; rw [if_pos (by assumption)])
    have hW : addW w r = w := if_neg (by rw [hE]; decide)
    rw [hE, hW]
    refine FinK.mk ⟨[0, 1, 2, 1, 2], _, _, ⟨X, c, hX, rfl, rfl⟩, ?_⟩
    (repeat' first | refine And.intro ?_ ?_ | exact xeC | fail)
    all_goals (exact xmC)
  have h0 : ¬ w.cl = true := by rw [hb]; decide
  refine cH41bC1 (σ := []) (nl := []) (cisT r.tp htp) ?_
  rintro v h' ⟨rfl, rfl⟩ hcaps
  refine rH41bC0 ?_
  repeat' (first | (fail_if_success (with_reducible refine xstp ?_)); first | ((with_reducible refine And.intro (fun (hb : _ = true) => ?_) (fun (hb : _ = false) => ?_)) <;> replace hb := xnC hb <;> (try first | exact xfC | exact bff hb (by assumption) | exact bff (by assumption) hb)) | (with_reducible refine Both.mk ?_ ?_) | ((with_reducible refine And.intro ?_ ?_); focus exact xoC) | ((with_reducible refine Or.inl ⟨?_, ?_, ?_⟩); (focus rfl); focus exact xaC) | ((with_reducible refine xwB ?_ ?_); focus exact xaC) | ((with_reducible refine xwC ?_ ?_); focus exact xaC) | ((with_reducible refine xwD ?_ ?_); focus exact xaC) | ((with_reducible refine xwE ?_ ?_); focus exact xaC) | (with_reducible intro hc; (try simp only [capsP, and_true] at hc); (try exact xfC)) | ((fail_if_success (with_reducible first | refine xgon ?_ | intro _)); (conv => whnf); (fail_if_success (fail_if_success (with_reducible first | refine xstp ?_ | refine Both.mk ?_ ?_ | refine xgon ?_ | intro _)))))
  · skip
    have hE : addE w r = 5 := (by unfold addE; rw [if_neg h0, if_pos (by assumption)])
    have hW : addW w r = w := if_neg (by rw [hE]; decide)
    rw [hE, hW]
    refine FinK.mk ⟨[0, 1, 2, 1, 2], _, _, ⟨X, c, hX, rfl, rfl⟩, ?_⟩
    (repeat' first | refine And.intro ?_ ?_ | exact xeC | fail)
    all_goals (exact xmC)
  all_goals have h1 : ¬ ¬ isT r.tp := by simpa using ‹isT r.tp›
  · skip
    have hE : addE w r = 4 := (by unfold addE; rw [if_neg h0, if_neg h1, if_pos (by omega)])
    have hW : addW w r = w := if_neg (by rw [hE]; decide)
    rw [hE, hW]
    refine FinK.mk ⟨[0, 1, 2, 1, 2], _, _, ⟨X, c, hX, rfl, rfl⟩, ?_⟩
    (repeat' first | refine And.intro ?_ ?_ | exact xeC | fail)
    all_goals (exact xmC)
  · skip
    have hE : addE w r = 4 := (by unfold addE; rw [if_neg h0, if_neg h1, if_pos (by omega)])
    have hW : addW w r = w := if_neg (by rw [hE]; decide)
    rw [hE, hW]
    refine FinK.mk ⟨[0, 1, 2, 1, 2], _, _, ⟨X, c, hX, rfl, rfl⟩, ?_⟩
    (repeat' first | refine And.intro ?_ ?_ | exact xeC | fail)
    all_goals (exact xmC)
  · skip
    have hE : addE w r = 3 := (by unfold addE; rw [if_neg h0, if_neg h1, if_neg (by omega), if_pos (by omega)])
    have hW : addW w r = w := if_neg (by rw [hE]; decide)
    rw [hE, hW]
    refine FinK.mk ⟨[0, 1, 2, 1, 2], _, _, ⟨X, c, hX, rfl, rfl⟩, ?_⟩
    (repeat' first | refine And.intro ?_ ?_ | exact xeC | fail)
    all_goals (exact xmC)
  · skip
    have hE : addE w r = 17 := (by unfold addE; rw [if_neg h0, if_neg h1, if_neg (by omega), if_neg (by omega), if_pos (by omega)])
    have hW : addW w r = w := if_neg (by rw [hE]; decide)
    rw [hE, hW]
    refine FinK.mk ⟨[0, 1, 2, 1, 2], _, _, ⟨X, c, hX, rfl, rfl⟩, ?_⟩
    (repeat' first | refine And.intro ?_ ?_ | exact xeC | fail)
    all_goals (exact xmC)
  · skip
    have hE : addE w r = 15 := (by unfold addE; rw [if_neg h0, if_neg h1, if_neg (by omega), if_neg (by omega), if_neg (by omega), if_pos (by omega)])
    have hW : addW w r = w := if_neg (by rw [hE]; decide)
    rw [hE, hW]
    refine FinK.mk ⟨[0, 1, 2, 1, 2], _, _, ⟨X, c, hX, rfl, rfl⟩, ?_⟩
    (repeat' first | refine And.intro ?_ ?_ | exact xeC | fail)
    all_goals (exact xmC)
  have hE : addE w r = 0 := by unfold addE; rw [if_neg h0, if_neg h1, if_neg (by omega), if_neg (by omega), if_neg (by omega), if_neg (by omega)]
  have hW : addW w r = { w with ad := w.ad + 1, la := r.at_, L := putR w.most w.L r } := if_pos hE
  rw [hE, hW]
  have hok : okR r := ⟨Decidable.of_not_not h1, by omega, by omega⟩
  have hrl := recB_len hok
  have hrz : (mkS (recB r)).size = (recB r).length := rfl
  have hvz : (mkS (venc (Int.toNat 1))).size ≤ 10 := venc_le 1
  refine cH41bC1 (σ := []) (nl := []) (cencode r hok) ?_
  rintro v h' ⟨rfl, rfl⟩ hcaps
  refine rH41bC0 ?_
  rcases Nat.eq_zero_or_pos X.length with hX0 | hX0
  · have hp : putR w.most w.L r = w.L ++ [[r]] := if_neg (fun h => by have := h.1; rw [← hX] at this; simp at this; omega)
    repeat' (first | (fail_if_success (with_reducible refine xstp ?_)); first | ((with_reducible refine And.intro (fun (hb : _ = true) => ?_) (fun (hb : _ = false) => ?_)) <;> replace hb := xnC hb <;> (try first | exact xfC | exact bff hb (by assumption) | exact bff (by assumption) hb)) | (with_reducible refine Both.mk ?_ ?_) | ((with_reducible refine And.intro ?_ ?_); focus exact xoC) | ((with_reducible refine Or.inl ⟨?_, ?_, ?_⟩); (focus rfl); focus exact xaC) | ((with_reducible refine xwB ?_ ?_); focus exact xaC) | ((with_reducible refine xwC ?_ ?_); focus exact xaC) | ((with_reducible refine xwD ?_ ?_); focus exact xaC) | ((with_reducible refine xwE ?_ ?_); focus exact xaC) | (with_reducible intro hc; (try simp only [capsP, and_true] at hc); (try exact xfC)) | ((fail_if_success (with_reducible first | refine xgon ?_ | intro _)); (conv => whnf); (fail_if_success (fail_if_success (with_reducible first | refine xstp ?_ | refine Both.mk ?_ ?_ | refine xgon ?_ | intro _)))))
    · skip
      refine cH41bC1 (σ := []) (nl := []) (cnumber 1 (by omega)) ?_
      rintro v h' ⟨rfl, rfl⟩ hcaps
      refine rH41bC0 ?_
      repeat' (first | (fail_if_success (with_reducible refine xstp ?_)); first | ((with_reducible refine And.intro (fun (hb : _ = true) => ?_) (fun (hb : _ = false) => ?_)) <;> replace hb := xnC hb <;> (try first | exact xfC | exact bff hb (by assumption) | exact bff (by assumption) hb)) | (with_reducible refine Both.mk ?_ ?_) | ((with_reducible refine And.intro ?_ ?_); focus exact xoC) | ((with_reducible refine Or.inl ⟨?_, ?_, ?_⟩); (focus rfl); focus exact xaC) | ((with_reducible refine xwB ?_ ?_); focus exact xaC) | ((with_reducible refine xwC ?_ ?_); focus exact xaC) | ((with_reducible refine xwD ?_ ?_); focus exact xaC) | ((with_reducible refine xwE ?_ ?_); focus exact xaC) | (with_reducible intro hc; (try simp only [capsP, and_true] at hc); (try exact xfC)) | ((fail_if_success (with_reducible first | refine xgon ?_ | intro _)); (conv => whnf); (fail_if_success (fail_if_success (with_reducible first | refine xstp ?_ | refine Both.mk ?_ ?_ | refine xgon ?_ | intro _)))))
      rw [mkS_append]
      repeat' (first | (fail_if_success (with_reducible refine xstp ?_)); first | ((with_reducible refine And.intro (fun (hb : _ = true) => ?_) (fun (hb : _ = false) => ?_)) <;> replace hb := xnC hb <;> (try first | exact xfC | exact bff hb (by assumption) | exact bff (by assumption) hb)) | (with_reducible refine Both.mk ?_ ?_) | ((with_reducible refine And.intro ?_ ?_); focus exact xoC) | ((with_reducible refine Or.inl ⟨?_, ?_, ?_⟩); (focus rfl); focus exact xaC) | ((with_reducible refine xwB ?_ ?_); focus exact xaC) | ((with_reducible refine xwC ?_ ?_); focus exact xaC) | ((with_reducible refine xwD ?_ ?_); focus exact xaC) | ((with_reducible refine xwE ?_ ?_); focus exact xaC) | (with_reducible intro hc; (try simp only [capsP, and_true] at hc); (try exact xfC)) | ((fail_if_success (with_reducible first | refine xgon ?_ | intro _)); (conv => whnf); (fail_if_success (fail_if_success (with_reducible first | refine xstp ?_ | refine Both.mk ?_ ?_ | refine xgon ?_ | intro _)))))
      rename_i c2
      refine FinK.mk ⟨[0, 1, 2, 6, .adopt 2 X.length 4], _, _, ⟨X ++ [⟨[r], 1⟩], c2, by rw [hp, ← hX]; simp, rfl, rfl⟩, ?_⟩
      (repeat' first | refine And.intro ?_ ?_ | exact xeC | fail)
      all_goals first
        | (exact xmC)
        | (simp; done)
        | exact chApp (G := 4) (y := ⟨[r], 1⟩) (fun i hi => by simp [key, hi]) (by simp [key]) (by rw [con1]; rfl)
        | exact fun x hx => ixG_leA chF hx
        | skip
      refine ixG_leAn chF ?_
      refine ⟨rfl, rfl, rfl, rfl, Nat.le_refl 1, rfl, fun i hi => one_row rfl hi, ?_⟩
      (repeat' first | refine And.intro ?_ ?_ | exact xeC | fail)
      all_goals (exact xmC)
    · skip
      refine cH41bC1 (σ := []) (nl := []) (cnumber 1 (by omega)) ?_
      rintro v h' ⟨rfl, rfl⟩ hcaps
      refine rH41bC0 ?_
      repeat' (first | (fail_if_success (with_reducible refine xstp ?_)); first | ((with_reducible refine And.intro (fun (hb : _ = true) => ?_) (fun (hb : _ = false) => ?_)) <;> replace hb := xnC hb <;> (try first | exact xfC | exact bff hb (by assumption) | exact bff (by assumption) hb)) | (with_reducible refine Both.mk ?_ ?_) | ((with_reducible refine And.intro ?_ ?_); focus exact xoC) | ((with_reducible refine Or.inl ⟨?_, ?_, ?_⟩); (focus rfl); focus exact xaC) | ((with_reducible refine xwB ?_ ?_); focus exact xaC) | ((with_reducible refine xwC ?_ ?_); focus exact xaC) | ((with_reducible refine xwD ?_ ?_); focus exact xaC) | ((with_reducible refine xwE ?_ ?_); focus exact xaC) | (with_reducible intro hc; (try simp only [capsP, and_true] at hc); (try exact xfC)) | ((fail_if_success (with_reducible first | refine xgon ?_ | intro _)); (conv => whnf); (fail_if_success (fail_if_success (with_reducible first | refine xstp ?_ | refine Both.mk ?_ ?_ | refine xgon ?_ | intro _)))))
      rw [mkS_append]
      repeat' (first | (fail_if_success (with_reducible refine xstp ?_)); first | ((with_reducible refine And.intro (fun (hb : _ = true) => ?_) (fun (hb : _ = false) => ?_)) <;> replace hb := xnC hb <;> (try first | exact xfC | exact bff hb (by assumption) | exact bff (by assumption) hb)) | (with_reducible refine Both.mk ?_ ?_) | ((with_reducible refine And.intro ?_ ?_); focus exact xoC) | ((with_reducible refine Or.inl ⟨?_, ?_, ?_⟩); (focus rfl); focus exact xaC) | ((with_reducible refine xwB ?_ ?_); focus exact xaC) | ((with_reducible refine xwC ?_ ?_); focus exact xaC) | ((with_reducible refine xwD ?_ ?_); focus exact xaC) | ((with_reducible refine xwE ?_ ?_); focus exact xaC) | (with_reducible intro hc; (try simp only [capsP, and_true] at hc); (try exact xfC)) | ((fail_if_success (with_reducible first | refine xgon ?_ | intro _)); (conv => whnf); (fail_if_success (fail_if_success (with_reducible first | refine xstp ?_ | refine Both.mk ?_ ?_ | refine xgon ?_ | intro _)))))
      rename_i c2
      refine FinK.mk ⟨[0, 1, 2, 6, .adopt 2 X.length 4], _, _, ⟨X ++ [⟨[r], 1⟩], c2, by rw [hp, ← hX]; simp, rfl, rfl⟩, ?_⟩
      (repeat' first | refine And.intro ?_ ?_ | exact xeC | fail)
      all_goals first
        | (exact xmC)
        | (simp; done)
        | exact chApp (G := 4) (y := ⟨[r], 1⟩) (fun i hi => by simp [key, hi]) (by simp [key]) (by rw [con1]; rfl)
        | exact fun x hx => ixG_leA chF hx
        | skip
      refine ixG_leAn chF ?_
      refine ⟨rfl, rfl, rfl, rfl, Nat.le_refl 1, rfl, fun i hi => one_row rfl hi, ?_⟩
      (repeat' first | refine And.intro ?_ ?_ | exact xeC | fail)
      all_goals (exact xmC)
  · have e1 : 0 + ((X.length : Int) - 1).toNat = X.length - 1 := by omega
    have e2 : ((X.length : Int) - 1).toNat = X.length - 1 := by omega
    have hcx := hch (X.getD (X.length - 1) default) (by rw [getD_at (by omega)]; exact List.getElem_mem _)
    have hcz : (mkS (conB (X.getD (X.length - 1) default).l)).size = (conB (X.getD (X.length - 1) default).l).length := rfl
    rw [← e1] at hcx hcz
    repeat' (first | (fail_if_success (with_reducible refine xstp ?_)); first | ((with_reducible refine And.intro (fun (hb : _ = true) => ?_) (fun (hb : _ = false) => ?_)) <;> replace hb := xnC hb <;> (try first | exact xfC | exact bff hb (by assumption) | exact bff (by assumption) hb)) | (with_reducible refine Both.mk ?_ ?_) | ((with_reducible refine And.intro ?_ ?_); focus exact xoC) | ((with_reducible refine Or.inl ⟨?_, ?_, ?_⟩); (focus rfl); focus exact xaC) | ((with_reducible refine xwB ?_ ?_); focus exact xaC) | ((with_reducible refine xwC ?_ ?_); focus exact xaC) | ((with_reducible refine xwD ?_ ?_); focus exact xaC) | ((with_reducible refine xwE ?_ ?_); focus exact xaC) | (with_reducible intro hc; (try simp only [capsP, and_true] at hc); (try exact xfC)) | ((fail_if_success (with_reducible first | refine xgon ?_ | intro _)); (conv => whnf); (fail_if_success (fail_if_success (with_reducible first | refine xstp ?_ | refine Both.mk ?_ ?_ | refine xgon ?_ | intro _)))))
    · refine ManyK.mk ⟨rcR true (X.getD (0 + ((X.length : Int) - 1).toNat) default).l (X.getD (0 + ((X.length : Int) - 1).toNat) default).cap, ixG_at (by omega), ?_⟩
      repeat' (first | (fail_if_success (with_reducible refine xstp ?_)); first | ((with_reducible refine And.intro (fun (hb : _ = true) => ?_) (fun (hb : _ = false) => ?_)) <;> replace hb := xnC hb <;> (try first | exact xfC | exact bff hb (by assumption) | exact bff (by assumption) hb)) | (with_reducible refine Both.mk ?_ ?_) | ((with_reducible refine And.intro ?_ ?_); focus exact xoC) | ((with_reducible refine Or.inl ⟨?_, ?_, ?_⟩); (focus rfl); focus exact xaC) | ((with_reducible refine xwB ?_ ?_); focus exact xaC) | ((with_reducible refine xwC ?_ ?_); focus exact xaC) | ((with_reducible refine xwD ?_ ?_); focus exact xaC) | ((with_reducible refine xwE ?_ ?_); focus exact xaC) | (with_reducible intro hc; (try simp only [capsP, and_true] at hc); (try exact xfC)) | ((fail_if_success (with_reducible first | refine xgon ?_ | intro _)); (conv => whnf); (fail_if_success (fail_if_success (with_reducible first | refine xstp ?_ | refine Both.mk ?_ ?_ | refine xgon ?_ | intro _)))))
      refine loadAt_if ?_
      repeat' (first | (fail_if_success (with_reducible refine xstp ?_)); first | ((with_reducible refine And.intro (fun (hb : _ = true) => ?_) (fun (hb : _ = false) => ?_)) <;> replace hb := xnC hb <;> (try first | exact xfC | exact bff hb (by assumption) | exact bff (by assumption) hb)) | (with_reducible refine Both.mk ?_ ?_) | ((with_reducible refine And.intro ?_ ?_); focus exact xoC) | ((with_reducible refine Or.inl ⟨?_, ?_, ?_⟩); (focus rfl); focus exact xaC) | ((with_reducible refine xwB ?_ ?_); focus exact xaC) | ((with_reducible refine xwC ?_ ?_); focus exact xaC) | ((with_reducible refine xwD ?_ ?_); focus exact xaC) | ((with_reducible refine xwE ?_ ?_); focus exact xaC) | (with_reducible intro hc; (try simp only [capsP, and_true] at hc); (try exact xfC)) | ((fail_if_success (with_reducible first | refine xgon ?_ | intro _)); (conv => whnf); (fail_if_success (fail_if_success (with_reducible first | refine xstp ?_ | refine Both.mk ?_ ?_ | refine xgon ?_ | intro _)))))
      refine lay_if ?_
      repeat' (first | (fail_if_success (with_reducible refine xstp ?_)); first | ((with_reducible refine And.intro (fun (hb : _ = true) => ?_) (fun (hb : _ = false) => ?_)) <;> replace hb := xnC hb <;> (try first | exact xfC | exact bff hb (by assumption) | exact bff (by assumption) hb)) | (with_reducible refine Both.mk ?_ ?_) | ((with_reducible refine And.intro ?_ ?_); focus exact xoC) | ((with_reducible refine Or.inl ⟨?_, ?_, ?_⟩); (focus rfl); focus exact xaC) | ((with_reducible refine xwB ?_ ?_); focus exact xaC) | ((with_reducible refine xwC ?_ ?_); focus exact xaC) | ((with_reducible refine xwD ?_ ?_); focus exact xaC) | ((with_reducible refine xwE ?_ ?_); focus exact xaC) | (with_reducible intro hc; (try simp only [capsP, and_true] at hc); (try exact xfC)) | ((fail_if_success (with_reducible first | refine xgon ?_ | intro _)); (conv => whnf); (fail_if_success (fail_if_success (with_reducible first | refine xstp ?_ | refine Both.mk ?_ ?_ | refine xgon ?_ | intro _)))))
      rename_i c2
      have hk : X.length - 1 < X.length := by omega
      have hp : putR w.most w.L r = w.L.set (w.L.length - 1) (w.L.getD (w.L.length - 1) default ++ [r]) := if_pos ⟨by rw [← hX, List.length_map]; omega, by rw [← hX, getMap, List.length_map]; rw [e2] at hb; rw [e1] at hcz; omega⟩
      rw [e1, mkS_append, ← conB_snoc]
      refine FinK.mk ⟨[0, 1, 2, 1, .adopt 2 (X.length - 1) 5], _, _, ⟨X.set (X.length - 1) ⟨(X.getD (X.length - 1) default).l ++ [r], c2⟩, c, by rw [hp, ← hX, getMap, List.length_map, List.map_set], rfl, rfl⟩, ?_⟩
      (repeat' first | refine And.intro ?_ ?_ | exact xeC | fail)
      all_goals first
        | (exact xmC)
        | (rw [List.length_set]; exact Nat.le_refl _)
        | (rw [List.length_set]; done)
        | exact fun i _ => chSet (G := 5) hk (fun i hi => by simp [key, hi]) (by simp [key]) (by simp) i
        | exact fun x hx => ixG_leC chF hk hx
        | skip
      refine ixG_leSn chF hk ?_
      refine ⟨rfl, rfl, rfl, rfl, by simp, rfl, app_rowG _ _ _ _ rfl, ?_⟩
      (repeat' first | refine And.intro ?_ ?_ | exact xeC | fail)
      all_goals (exact xmC)
    · have hp : putR w.most w.L r = w.L ++ [[r]] := if_neg (fun h => by have h2 := h.2; rw [← hX, getMap, List.length_map] at h2; rw [e2] at hb; rw [e1] at hcz; omega)
      refine cH41bC1 (σ := []) (nl := []) (cnumber 1 (by omega)) ?_
      rintro v h' ⟨rfl, rfl⟩ hcaps
      refine rH41bC0 ?_
      repeat' (first | (fail_if_success (with_reducible refine xstp ?_)); first | ((with_reducible refine And.intro (fun (hb : _ = true) => ?_) (fun (hb : _ = false) => ?_)) <;> replace hb := xnC hb <;> (try first | exact xfC | exact bff hb (by assumption) | exact bff (by assumption) hb)) | (with_reducible refine Both.mk ?_ ?_) | ((with_reducible refine And.intro ?_ ?_); focus exact xoC) | ((with_reducible refine Or.inl ⟨?_, ?_, ?_⟩); (focus rfl); focus exact xaC) | ((with_reducible refine xwB ?_ ?_); focus exact xaC) | ((with_reducible refine xwC ?_ ?_); focus exact xaC) | ((with_reducible refine xwD ?_ ?_); focus exact xaC) | ((with_reducible refine xwE ?_ ?_); focus exact xaC) | (with_reducible intro hc; (try simp only [capsP, and_true] at hc); (try exact xfC)) | ((fail_if_success (with_reducible first | refine xgon ?_ | intro _)); (conv => whnf); (fail_if_success (fail_if_success (with_reducible first | refine xstp ?_ | refine Both.mk ?_ ?_ | refine xgon ?_ | intro _)))))
      rw [mkS_append]
      repeat' (first | (fail_if_success (with_reducible refine xstp ?_)); first | ((with_reducible refine And.intro (fun (hb : _ = true) => ?_) (fun (hb : _ = false) => ?_)) <;> replace hb := xnC hb <;> (try first | exact xfC | exact bff hb (by assumption) | exact bff (by assumption) hb)) | (with_reducible refine Both.mk ?_ ?_) | ((with_reducible refine And.intro ?_ ?_); focus exact xoC) | ((with_reducible refine Or.inl ⟨?_, ?_, ?_⟩); (focus rfl); focus exact xaC) | ((with_reducible refine xwB ?_ ?_); focus exact xaC) | ((with_reducible refine xwC ?_ ?_); focus exact xaC) | ((with_reducible refine xwD ?_ ?_); focus exact xaC) | ((with_reducible refine xwE ?_ ?_); focus exact xaC) | (with_reducible intro hc; (try simp only [capsP, and_true] at hc); (try exact xfC)) | ((fail_if_success (with_reducible first | refine xgon ?_ | intro _)); (conv => whnf); (fail_if_success (fail_if_success (with_reducible first | refine xstp ?_ | refine Both.mk ?_ ?_ | refine xgon ?_ | intro _)))))
      rename_i c2
      refine FinK.mk ⟨[0, 1, 2, 6, .adopt 2 X.length 4], _, _, ⟨X ++ [⟨[r], 1⟩], c2, by rw [hp, ← hX]; simp, rfl, rfl⟩, ?_⟩
      (repeat' first | refine And.intro ?_ ?_ | exact xeC | fail)
      all_goals first
        | (exact xmC)
        | (simp; done)
        | exact chApp (G := 4) (y := ⟨[r], 1⟩) (fun i hi => by simp [key, hi]) (by simp [key]) (by rw [con1]; rfl)
        | exact fun x hx => ixG_leA chF hx
        | skip
      refine ixG_leAn chF ?_
      refine ⟨rfl, rfl, rfl, rfl, Nat.le_refl 1, rfl, fun i hi => one_row rfl hi, ?_⟩
      (repeat' first | refine And.intro ?_ ?_ | exact xeC | fail)
      all_goals (exact xmC)
    · have hp : putR w.most w.L r = w.L ++ [[r]] := if_neg (fun h => by have h2 := h.2; rw [← hX, getMap, List.length_map] at h2; rw [e2] at hb; rw [e1] at hcz; omega)
      refine cH41bC1 (σ := []) (nl := []) (cnumber 1 (by omega)) ?_
      rintro v h' ⟨rfl, rfl⟩ hcaps
      refine rH41bC0 ?_
      repeat' (first | (fail_if_success (with_reducible refine xstp ?_)); first | ((with_reducible refine And.intro (fun (hb : _ = true) => ?_) (fun (hb : _ = false) => ?_)) <;> replace hb := xnC hb <;> (try first | exact xfC | exact bff hb (by assumption) | exact bff (by assumption) hb)) | (with_reducible refine Both.mk ?_ ?_) | ((with_reducible refine And.intro ?_ ?_); focus exact xoC) | ((with_reducible refine Or.inl ⟨?_, ?_, ?_⟩); (focus rfl); focus exact xaC) | ((with_reducible refine xwB ?_ ?_); focus exact xaC) | ((with_reducible refine xwC ?_ ?_); focus exact xaC) | ((with_reducible refine xwD ?_ ?_); focus exact xaC) | ((with_reducible refine xwE ?_ ?_); focus exact xaC) | (with_reducible intro hc; (try simp only [capsP, and_true] at hc); (try exact xfC)) | ((fail_if_success (with_reducible first | refine xgon ?_ | intro _)); (conv => whnf); (fail_if_success (fail_if_success (with_reducible first | refine xstp ?_ | refine Both.mk ?_ ?_ | refine xgon ?_ | intro _)))))
      rw [mkS_append]
      repeat' (first | (fail_if_success (with_reducible refine xstp ?_)); first | ((with_reducible refine And.intro (fun (hb : _ = true) => ?_) (fun (hb : _ = false) => ?_)) <;> replace hb := xnC hb <;> (try first | exact xfC | exact bff hb (by assumption) | exact bff (by assumption) hb)) | (with_reducible refine Both.mk ?_ ?_) | ((with_reducible refine And.intro ?_ ?_); focus exact xoC) | ((with_reducible refine Or.inl ⟨?_, ?_, ?_⟩); (focus rfl); focus exact xaC) | ((with_reducible refine xwB ?_ ?_); focus exact xaC) | ((with_reducible refine xwC ?_ ?_); focus exact xaC) | ((with_reducible refine xwD ?_ ?_); focus exact xaC) | ((with_reducible refine xwE ?_ ?_); focus exact xaC) | (with_reducible intro hc; (try simp only [capsP, and_true] at hc); (try exact xfC)) | ((fail_if_success (with_reducible first | refine xgon ?_ | intro _)); (conv => whnf); (fail_if_success (fail_if_success (with_reducible first | refine xstp ?_ | refine Both.mk ?_ ?_ | refine xgon ?_ | intro _)))))
      rename_i c2
      refine FinK.mk ⟨[0, 1, 2, 6, .adopt 2 X.length 4], _, _, ⟨X ++ [⟨[r], 1⟩], c2, by rw [hp, ← hX]; simp, rfl, rfl⟩, ?_⟩
      (repeat' first | refine And.intro ?_ ?_ | exact xeC | fail)
      all_goals first
        | (exact xmC)
        | (simp; done)
        | exact chApp (G := 4) (y := ⟨[r], 1⟩) (fun i hi => by simp [key, hi]) (by simp [key]) (by rw [con1]; rfl)
        | exact fun x hx => ixG_leA chF hx
        | skip
      refine ixG_leAn chF ?_
      refine ⟨rfl, rfl, rfl, rfl, Nat.le_refl 1, rfl, fun i hi => one_row rfl hi, ?_⟩
      (repeat' first | refine And.intro ?_ ?_ | exact xeC | fail)
      all_goals (exact xmC)
end Go.Proofs.Ytkjkbpnhocjenaa


namespace Go.Proofs.Ytkjkbpnhocjenaa
open Go.Shelf
def lays190_ren : Go.Shelf.Ren := ⟨fun | 190 => 48 | 125 => 81 | 258 => 80 | 128 => 109 | 129 => 110 | 302 => 100 | 303 => 101 | 304 => 102 | 305 => 103 | 306 => 104 | 307 => 105 | 308 => 106 | 309 => 107 | 310 => 108 | 333 => 112 | 329 => 113 | 330 => 114 | 334 => 115 | 335 => 116 | 336 => 117 | 344 => 118 | n => n, fun | 31 => 45 | 9 => 9 | 3 => 3 | 46 => 82 | 0 => 0 | 51 => 153 | 53 => 81 | 4 => 4 | 183 => 157 | 182 => 156 | 131 => 138 | 5 => 5 | 218 => 167 | 222 => 170 | 228 => 172 | 229 => 173 | n => n, fun | n => n⟩
theorem lays190 : Go.Proofs.Lays.n190 Try.prog lays190_ren := {
  mixed := by kernel_rfl
  f125 := Try.func81.trans (congrArg some (by kernel_rfl))
  f128 := Try.func109.trans (congrArg some (by kernel_rfl))
  f129 := Try.func110.trans (congrArg some (by kernel_rfl))
  f190 := Try.func48.trans (congrArg some (by kernel_rfl))
  f258 := Try.func80.trans (congrArg some (by kernel_rfl))
  f302 := Try.func100.trans (congrArg some (by kernel_rfl))
  f303 := Try.func101.trans (congrArg some (by kernel_rfl))
  f304 := Try.func102.trans (congrArg some (by kernel_rfl))
  f305 := Try.func103.trans (congrArg some (by kernel_rfl))
  f306 := Try.func104.trans (congrArg some (by kernel_rfl))
  f307 := Try.func105.trans (congrArg some (by kernel_rfl))
  f308 := Try.func106.trans (congrArg some (by kernel_rfl))
  f309 := Try.func107.trans (congrArg some (by kernel_rfl))
  f310 := Try.func108.trans (congrArg some (by kernel_rfl))
  f329 := Try.func113.trans (congrArg some (by kernel_rfl))
  f330 := Try.func114.trans (congrArg some (by kernel_rfl))
  f333 := Try.func112.trans (congrArg some (by kernel_rfl))
  f334 := Try.func115.trans (congrArg some (by kernel_rfl))
  f335 := Try.func116.trans (congrArg some (by kernel_rfl))
  f336 := Try.func117.trans (congrArg some (by kernel_rfl))
  f344 := Try.func118.trans (congrArg some (by kernel_rfl))
  t0 := Try.underlying0
  a0 := Try.isAgg0
  z0 := Try.sizeOf0
  v0 := Try.zeroValue0
  t3 := Try.underlying3
  a3 := Try.isAgg3
  z3 := Try.sizeOf3
  v3 := Try.zeroValue3
  t4 := Try.underlying4
  a4 := Try.isAgg4
  z4 := Try.sizeOf4
  v4 := Try.zeroValue4
  t5 := Try.underlying5
  a5 := Try.isAgg5
  z5 := Try.sizeOf5
  v5 := Try.zeroValue5
  t9 := Try.underlying9
  a9 := Try.isAgg9
  z9 := Try.sizeOf9
  v9 := Try.zeroValue9
  t31 := Try.underlying45
  a31 := Try.isAgg45
  z31 := Try.sizeOf45
  v31 := Try.zeroValue45
  t46 := Try.underlying82
  a46 := Try.isAgg82
  z46 := Try.sizeOf82
  v46 := Try.zeroValue82
  t51 := Try.underlying153
  a51 := Try.isAgg153
  z51 := Try.sizeOf153
  v51 := Try.zeroValue153
  t53 := Try.underlying81
  a53 := Try.isAgg81
  z53 := Try.sizeOf81
  v53 := Try.zeroValue81
  t131 := Try.underlying138
  a131 := Try.isAgg138
  z131 := Try.sizeOf138
  v131 := Try.zeroValue138
  t182 := Try.underlying156
  a182 := Try.isAgg156
  z182 := Try.sizeOf156
  v182 := Try.zeroValue156
  t183 := Try.underlying157
  a183 := Try.isAgg157
  z183 := Try.sizeOf157
  v183 := Try.zeroValue157
  t218 := Try.underlying167
  a218 := Try.isAgg167
  z218 := Try.sizeOf167
  v218 := Try.zeroValue167
  t222 := Try.underlying170
  a222 := Try.isAgg170
  z222 := Try.sizeOf170
  v222 := Try.zeroValue170
  t228 := Try.underlying172
  a228 := Try.isAgg172
  z228 := Try.sizeOf172
  v228 := Try.zeroValue172
  t229 := Try.underlying173
  a229 := Try.isAgg173
  z229 := Try.sizeOf173
  v229 := Try.zeroValue173 }
open Go.X
def encSt (l : List UInt8) : List C := [.s (mkS l)]
theorem sortLawS : SortLaw Try.prog 48 encStr (fun l => l.mergeSort fun x y => decide (x ≤ y)) :=
  ⟨fun blk off cap zs w h1 h2 h3 => Any.slices_Sort_string lays190 blk off cap zs w h1 h2 h3, fun p cap w => Any.slices_Sort_string_none lays190 p cap w, fun l => List.length_mergeSort l⟩
def srtS (l : List (List UInt8)) : List (List UInt8) := l.mergeSort fun x y => decide (x ≤ y)
abbrev stR (w : Bool) (l : List (List UInt8)) (c : Nat) : Ck := .row w false 9 1 l.length c (rowOf encSt l)
theorem cSortS (zs : List (List UInt8)) (c : Nat) (hz : zs.length < 4611686018427387904) :
    Ctr Try.prog 48 [.c (.sl 0 0 1 0 zs.length c)] [.one (stR true zs c)] fun v h => v = .t [] ∧ h = [.one (.row true false 9 1 zs.length c (rowOf encSt (srtS zs)))] :=
  sort_ctr sortLawS (fun _ _ => by kernel_rfl) (fun x => .s (mkS x)) (fun _ _ => rfl) (fun _ => rfl) false 9 zs c hz
end Go.Proofs.Ytkjkbpnhocjenaa


namespace Go.Proofs.Ytkjkbpnhocjenaa
open Go.X
abbrev Me := Nat × List UInt8 × Nat
structure MOk (ck : Nat) (M : List Me) (l : List Rc) : Prop where
  ne : ∀ a b, a < b → b < M.length → (M.getD a default).2.1 ≠ (M.getD b default).2.1
  st : ∀ a b, a < b → b < M.length → (M.getD a default).1 ≠ (M.getD b default).1
  lt : ∀ a, a < M.length → (M.getD a default).1 < ck
  cn : ∀ a, a < M.length → (M.getD a default).2.2 = cntL l (M.getD a default).2.1
  al : ∀ t, t ∈ l.map Rc.tp ↔ ∃ a, a < M.length ∧ (M.getD a default).2.1 = t
  le : M.length ≤ l.length
theorem cntL_snoc (l : List Rc) (r : Rc) (t : List UInt8) : cntL (l ++ [r]) t = cntL l t + if t = r.tp then 1 else 0 := by
  simp only [cntL, List.filter_append, List.length_append]
  congr 1
  by_cases e : t = r.tp
  · subst e; simp
  · rw [if_neg e, List.filter_cons_of_neg (by simpa using fun q => e q.symm)]; rfl
theorem cntL_le (l : List Rc) (t : List UInt8) : cntL l t ≤ l.length := List.length_filter_le _ _
theorem cntL_no {l : List Rc} {t : List UInt8} (h : t ∉ l.map Rc.tp) : cntL l t = 0 := by
  unfold cntL
  rw [List.length_eq_zero_iff, List.filter_eq_nil_iff]
  intro r hr e
  exact h (List.mem_map.2 ⟨r, hr, by simpa using e⟩)
theorem MOk.nil : MOk 0 [] [] := ⟨by simp, by simp, by simp, by simp, by simp, by simp⟩
theorem MOk.up {ck : Nat} {M : List Me} {l : List Rc} {r : Rc} (h : MOk ck M l) {i : Nat} (hi : i < M.length) (hk : (M.getD i default).2.1 = r.tp) :
    MOk ck (M.set i ((M.getD i default).1, r.tp, (M.getD i default).2.2 + 1)) (l ++ [r]) := by
  have g1 : ∀ a, ((M.set i ((M.getD i default).1, r.tp, (M.getD i default).2.2 + 1)).getD a default).1 = (M.getD a default).1 := fun a => by
    rw [getD_set _ _ _ _ hi]; split
    · rename_i e; subst e; rfl
    · rfl
  have g2 : ∀ a, ((M.set i ((M.getD i default).1, r.tp, (M.getD i default).2.2 + 1)).getD a default).2.1 = (M.getD a default).2.1 := fun a => by
    rw [getD_set _ _ _ _ hi]; split
    · rename_i e; subst e; exact hk.symm
    · rfl
  refine ⟨fun a b hab hb => ?_, fun a b hab hb => ?_, fun a ha => ?_, fun a ha => ?_, fun t => ?_, ?_⟩
  · rw [List.length_set] at hb
    rw [g2, g2]; exact h.ne a b hab hb
  · rw [List.length_set] at hb
    rw [g1, g1]; exact h.st a b hab hb
  · rw [List.length_set] at ha
    rw [g1]; exact h.lt a ha
  · rw [List.length_set] at ha
    rw [g2, cntL_snoc, getD_set _ _ _ _ hi]
    by_cases e : a = i
    · subst e
      rw [if_pos rfl, if_pos hk]
      have := h.cn a ha
      simp only
      omega
    · rw [if_neg e, if_neg]
      · exact h.cn a ha
      · intro q
        rcases (by omega : a < i ∨ i < a) with hh | hh
        · exact h.ne a i hh hi (q.trans hk.symm)
        · exact h.ne i a hh ha (hk.trans q.symm)
  · rw [List.map_append, List.mem_append, h.al]
    constructor
    · rintro (⟨a, ha, e⟩ | e)
      · exact ⟨a, by rwa [List.length_set], by rw [g2]; exact e⟩
      · refine ⟨i, by rwa [List.length_set], ?_⟩
        rw [g2, hk]
        exact (by simpa using e : t = r.tp).symm
    · rintro ⟨a, ha, e⟩
      rw [List.length_set] at ha
      rw [g2] at e
      exact .inl ⟨a, ha, e⟩
  · rw [List.length_set, List.length_append]
    have := h.le
    omega
theorem getD_sn {α : Type} [Inhabited α] {l : List α} {x : α} {i : Nat} (h : i < (l ++ [x]).length) : (l ++ [x]).getD i default = if i = l.length then x else l.getD i default := by
  split
  · rename_i e; subst e; simp [List.getD]
  · have : i < l.length := by simp at h; omega
    simp [List.getD, List.getElem?_append_left this]
theorem MOk.new {ck : Nat} {M : List Me} {l : List Rc} {r : Rc} (h : MOk ck M l) (hn : ∀ i, i < M.length → (M.getD i default).2.1 ≠ r.tp) : MOk (ck + 1) (M ++ [(ck, r.tp, 1)]) (l ++ [r]) := by
  have hnm : r.tp ∉ l.map Rc.tp := fun hm => by
    obtain ⟨a, ha, e⟩ := (h.al r.tp).1 hm
    exact hn a ha e
  refine ⟨fun a b hab hb => ?_, fun a b hab hb => ?_, fun a ha => ?_, fun a ha => ?_, fun t => ?_, ?_⟩
  · have hb' : b < M.length + 1 := by simpa using hb
    rw [getD_sn (by simp; omega), getD_sn hb, if_neg (show a ≠ M.length by omega)]
    split
    · exact hn a (by omega)
    · exact h.ne a b hab (by omega)
  · have hb' : b < M.length + 1 := by simpa using hb
    rw [getD_sn (by simp; omega), getD_sn hb, if_neg (show a ≠ M.length by omega)]
    split
    · have := h.lt a (by omega)
      simp only
      omega
    · exact h.st a b hab (by omega)
  · have ha' : a < M.length + 1 := by simpa using ha
    rw [getD_sn ha]
    split
    · exact Nat.lt_succ_self _
    · exact Nat.lt_succ_of_lt (h.lt a (by omega))
  · have ha' : a < M.length + 1 := by simpa using ha
    rw [getD_sn ha, cntL_snoc]
    split
    · simp only
      rw [if_pos trivial, cntL_no hnm]
    · rw [if_neg (hn a (by omega))]
      exact h.cn a (by omega)
  · rw [List.map_append, List.mem_append, h.al]
    constructor
    · rintro (⟨a, ha, e⟩ | e)
      · exact ⟨a, by simp; omega, by rw [getD_sn (by simp; omega), if_neg (by omega)]; exact e⟩
      · exact ⟨M.length, by simp, by rw [getD_sn (by simp), if_pos rfl]; exact (by simpa using e : t = r.tp).symm⟩
    · rintro ⟨a, ha, e⟩
      have ha' : a < M.length + 1 := by simpa using ha
      rw [getD_sn ha] at e
      split at e
      · right; simpa using e.symm
      · exact .inl ⟨a, by omega, e⟩
  · have := h.le
    simp; omega
theorem srtS_mem {O : List (List UInt8)} (x : List UInt8) : x ∈ srtS O ↔ x ∈ O := List.mem_mergeSort
theorem srtS_len (O : List (List UInt8)) : (srtS O).length = O.length := List.length_mergeSort _
theorem srtS_pw {O : List (List UInt8)} (hn : O.Nodup) : (srtS O).Pairwise (· < ·) := by
  unfold srtS
  have h1 : (O.mergeSort fun x y => decide (x ≤ y)).Pairwise fun a b => decide (a ≤ b) = true := List.pairwise_mergeSort (fun a b c => by simpa using List.le_trans) (fun a b => by simpa using List.le_total a b) O
  have h2 : (O.mergeSort fun x y => decide (x ≤ y)).Nodup := (List.mergeSort_perm O _).nodup_iff.2 hn
  rw [List.nodup_iff_pairwise_ne] at h2
  refine (h1.and h2).imp fun {a b} h => ?_
  have h3 : a ≤ b := by simpa using h.1
  rcases lt_tri a b with q | q | q
  · exact q
  · exact absurd q h.2
  · exact absurd q (List.not_lt.2 h3)
/-- The topics of the tallies. -/
def tops (l : List Rc) : List (List UInt8) := (tal l).map Prod.fst
theorem tops_of {ck : Nat} {M : List Me} {l : List Rc} (h : MOk ck M l) {O : List (List UInt8)} (hn : O.Nodup) (hO : ∀ t, t ∈ O ↔ ∃ a, a < M.length ∧ (M.getD a default).2.1 = t) : srtS O = tops l := by
  refine srt_ext (srtS_pw hn) (tal_inv l).1 fun x => ?_
  rw [srtS_mem, hO, ← h.al]
  exact ((tal_inv l).2.1 x).symm
theorem tal_at {l : List Rc} {i : Nat} (h : i < (tal l).length) : (tal l).getD i default = ((tops l).getD i default, cntL l ((tops l).getD i default)) := by
  have h1 := srt_nodup (tal_inv l).1
  have e : (tops l).getD i default = ((tal l).getD i default).1 := by
    unfold tops
    simp only [List.getD, List.getElem?_map, List.getElem?_eq_getElem h]
    rfl
  have hm : (tal l).getD i default ∈ tal l := by rw [getD_at h]; exact List.getElem_mem _
  have h2 := getT_at h1 hm
  rw [e, ← (tal_inv l).2.2, h2]
theorem tops_len (l : List Rc) : (tops l).length = (tal l).length := List.length_map _
theorem tops_mem {l : List Rc} {t : List UInt8} (h : t ∈ tops l) : t ∈ l.map Rc.tp := ((tal_inv l).2.1 t).1 h
theorem tal_le (l : List Rc) : (tal l).length ≤ l.length := by
  suffices ∀ k, k ≤ l.length → (tal (l.take k)).length ≤ k by
    have := this l.length (Nat.le_refl _)
    rwa [List.take_length] at this
  have hA : ∀ (T : List Tl) t n, (talA T t n).length ≤ T.length + 1 := by
    intro T t n
    induction T with
    | nil => simp [talA]
    | cons a T ih =>
      obtain ⟨u, m⟩ := a
      unfold talA
      split
      · simp
      · split
        · simp
        · simp only [List.length_cons]; omega
  intro k
  induction k with
  | zero => intro _; simp [tal]
  | succ k ih =>
    intro hk
    have := ih (by omega)
    rw [List.take_succ_eq_append_getElem (by omega), tal_snoc]
    have := hA (tal (l.take k)) l[k].tp 1
    omega
end Go.Proofs.Ytkjkbpnhocjenaa


namespace Go.Proofs.Ytkjkbpnhocjenaa
open Go.X
set_option linter.unusedSimpArgs false
set_option linter.unusedVariables false
open P4
open P5
def encRh (F : Nat) (X : List Ch) (k : Nat) : List C := [.sl F k 3 0 (X.getD k default).l.length (X.getD k default).cap]
abbrev rhR (F : Nat) (X : List Ch) (c : Nat) : Ck := .row true true 77 1 X.length c (encRh F X)
abbrev rwC (w : Wr) (F n c : Nat) : Ck := .cells true [.i .i64 w.most, .sl F 0 1 0 n c, .i .i64 (w.ad : Nat), .b w.cl]
theorem encRh_rk1 (a b : Nat) (r : List Sg) (N : Nat) (X : List Ch) (i : Nat) : List.map (C.rk (Sg.whole a :: Sg.whole b :: r) N) (encRh 1 X i) = encRh b X i := rfl
def lastR (L : List (List Rc)) : Rc := if 0 < L.length then (L.getD (L.length - 1) default).getD ((L.getD (L.length - 1) default).length - 1) default else ⟨0, [], []⟩
theorem rhApp {σ : List Sg} {F F' G : Nat} {X : List Ch} {y : Ch} {g : Nat → List C} (hk : ∀ i, i ≠ X.length → key σ 0 F' i = (F, i)) (hn : key σ 0 F' X.length = (G, 0))
    (hg : g 0 = [.sl G 0 3 0 y.l.length y.cap]) : ∀ i, i < (X ++ [y]).length → appF X.length (encRh F X) 0 g i = List.map (C.rk σ 0) (encRh F' (X ++ [y]) i) := by
  intro i hi
  unfold appF
  by_cases h : i < X.length
  · rw [if_pos h]
    have e : (X ++ [y]).getD i default = X.getD i default := by simp [List.getD, List.getElem?_append_left h]
    simp only [encRh, List.map_cons, List.map_nil, C.rk, e, hk i (by omega)]
  · obtain rfl : i = X.length := by simp at hi; omega
    rw [if_neg h, Nat.sub_self, hg]
    have e : (X ++ [y]).getD X.length default = y := by simp [List.getD]
    simp only [encRh, List.map_cons, List.map_nil, C.rk, e, hn]
theorem rhSet {σ : List Sg} {F F' G k : Nat} {X : List Ch} {y : Ch} {L : List C} (hk : k < X.length) (h : ∀ i, i ≠ k → key σ 0 F' i = (F, i)) (hn : key σ 0 F' k = (G, 0))
    (hL : L = [.sl G 0 3 0 y.l.length y.cap]) (i : Nat) : (if i = k then L else encRh F X i) = List.map (C.rk σ 0) (encRh F' (X.set k y) i) := by
  by_cases e : i = k
  · subst e
    rw [if_pos rfl, hL]
    simp only [encRh, List.map_cons, List.map_nil, C.rk, hn, getD_set _ _ _ _ hk, if_pos]
  · rw [if_neg e]
    simp only [encRh, List.map_cons, List.map_nil, C.rk, h i e, getD_set _ _ _ _ hk, if_neg e]
set_option maxRecDepth 10000 in
theorem cNewWR (n : Int) :
    Ctr Try.prog 12 [.c (.i .i64 n)] [] fun v h => ((n < 1 ∨ 65536 < n) ∧ v = .t [.c .nilp, .c (.i .i64 4)] ∧ h = []) ∨
      ((1 ≤ n ∧ n ≤ 65536) ∧ v = .t [.c (.p 0 0 0), .c (.i .i64 0)] ∧ h = [.one (rwC (newW n) 1 0 0), .one (rhR 2 [] 0), .many (chG [])]) := by
  refine Ctr.mk' tbv mixed Try.func12 rfl rfl rfl (fun _ _ => by kernel_rfl) (by kernel_rfl) (by rfl) (by rfl) (by (repeat' first | refine And.intro ?_ ?_ | exact xeC | fail)) ?_
  repeat' (first | (fail_if_success (with_reducible refine xstp ?_)); first | ((with_reducible refine And.intro (fun (hb : _ = true) => ?_) (fun (hb : _ = false) => ?_)) <;> replace hb := xnC hb <;> (try first | exact xfC | exact bff hb (by assumption) | exact bff (by assumption) hb)) | (with_reducible refine Both.mk ?_ ?_) | ((with_reducible refine And.intro ?_ ?_); focus exact xoC) | ((with_reducible refine Or.inl ⟨?_, ?_, ?_⟩); (focus rfl); focus exact xaC) | ((with_reducible refine xwB ?_ ?_); focus exact xaC) | ((with_reducible refine xwC ?_ ?_); focus exact xaC) | ((with_reducible refine xwD ?_ ?_); focus exact xaC) | ((with_reducible refine xwE ?_ ?_); focus exact xaC) | (with_reducible intro hc; (try simp only [capsP, and_true] at hc); (try exact xfC)) | ((fail_if_success (with_reducible first | refine xgon ?_ | intro _)); (conv => whnf); (fail_if_success (fail_if_success (with_reducible first | refine xstp ?_ | refine Both.mk ?_ ?_ | refine xgon ?_ | intro _)))))
  · refine FinK.mk ⟨[], _, _, .inl ⟨by omega, rfl, rfl⟩, ?_⟩
    (repeat' first | refine And.intro ?_ ?_ | exact xeC | fail)
  · refine FinK.mk ⟨[], _, _, .inl ⟨by omega, rfl, rfl⟩, ?_⟩
    (repeat' first | refine And.intro ?_ ?_ | exact xeC | fail)
  · refine FinK.mk ⟨[0, 99, 98], _, _, .inr ⟨by omega, rfl, rfl⟩, ?_⟩
    (repeat' first | refine And.intro ?_ ?_ | exact xeC | fail)
    all_goals first | (exact xmC) | exact fun x => if_neg (Nat.not_lt_zero x)
theorem lastR_map {X : List Ch} (h : 0 < X.length) : lastR (X.map Ch.l) = (X.getD (X.length - 1) default).l.getD ((X.getD (X.length - 1) default).l.length - 1) default := by
  unfold lastR
  rw [if_pos (by rw [List.length_map]; exact h), getMap, List.length_map]
set_option maxRecDepth 10000 in
theorem clast (X : List Ch) (c : Nat) (hX : ∀ x ∈ X, 0 < x.l.length) (hl : X.length ≤ 100000) (hll : ∀ x ∈ X, x.l.length ≤ 100000) :
    Ctr Try.prog 41 [.c (.sl 0 0 1 0 X.length c)] [.one (rhR 1 X c), .many (chG X)]
      fun v h => v = .t [.a (encR (lastR (X.map Ch.l))), .c (.b (decide (0 < X.length)))] ∧ h = [.one (rhR 1 X c), .many (chG X)] := by
  refine Ctr.mk' tbv mixed Try.func41 rfl rfl rfl (fun _ _ => by kernel_rfl) (by kernel_rfl) (by rfl) (by rfl) (by (repeat' first | refine And.intro ?_ ?_ | exact xeC | fail) <;> (exact xmC)) ?_
  rcases Nat.eq_zero_or_pos X.length with h0 | h0
  · skip
    repeat' (first | (fail_if_success (with_reducible refine xstp ?_)); first | ((with_reducible refine And.intro (fun (hb : _ = true) => ?_) (fun (hb : _ = false) => ?_)) <;> replace hb := xnC hb <;> (try first | exact xfC | exact bff hb (by assumption) | exact bff (by assumption) hb)) | (with_reducible refine Both.mk ?_ ?_) | ((with_reducible refine And.intro ?_ ?_); focus exact xoC) | ((with_reducible refine Or.inl ⟨?_, ?_, ?_⟩); (focus rfl); focus exact xaC) | ((with_reducible refine xwB ?_ ?_); focus exact xaC) | ((with_reducible refine xwC ?_ ?_); focus exact xaC) | ((with_reducible refine xwD ?_ ?_); focus exact xaC) | ((with_reducible refine xwE ?_ ?_); focus exact xaC) | (with_reducible intro hc; (try simp only [capsP, and_true] at hc); (try exact xfC)) | ((fail_if_success (with_reducible first | refine xgon ?_ | intro _)); (conv => whnf); (fail_if_success (fail_if_success (with_reducible first | refine xstp ?_ | refine Both.mk ?_ ?_ | refine xgon ?_ | intro _)))))
    · rw [show lastR (X.map Ch.l) = ⟨0, [], []⟩ from if_neg (by rw [List.length_map]; omega), decide_eq_false (show ¬ 0 < X.length by omega)]
      refine FinK.mk ⟨[0, 1], _, _, ⟨rfl, rfl⟩, ?_⟩; (repeat' first | refine And.intro ?_ ?_ | exact xeC | fail)
      all_goals (exact xmC)
  · have e1 : 0 + ((X.length : Int) - 1).toNat = X.length - 1 := by omega
    have hxl := hX (X.getD (X.length - 1) default) (by rw [getD_at (by omega)]; exact List.getElem_mem _)
    have hxm := hll (X.getD (X.length - 1) default) (by rw [getD_at (by omega)]; exact List.getElem_mem _)
    rw [lastR_map h0]
    rw [← e1] at hxl hxm
    repeat' (first | (fail_if_success (with_reducible refine xstp ?_)); first | ((with_reducible refine And.intro (fun (hb : _ = true) => ?_) (fun (hb : _ = false) => ?_)) <;> replace hb := xnC hb <;> (try first | exact xfC | exact bff hb (by assumption) | exact bff (by assumption) hb)) | (with_reducible refine Both.mk ?_ ?_) | ((with_reducible refine And.intro ?_ ?_); focus exact xoC) | ((with_reducible refine Or.inl ⟨?_, ?_, ?_⟩); (focus rfl); focus exact xaC) | ((with_reducible refine xwB ?_ ?_); focus exact xaC) | ((with_reducible refine xwC ?_ ?_); focus exact xaC) | ((with_reducible refine xwD ?_ ?_); focus exact xaC) | ((with_reducible refine xwE ?_ ?_); focus exact xaC) | (with_reducible intro hc; (try simp only [capsP, and_true] at hc); (try exact xfC)) | ((fail_if_success (with_reducible first | refine xgon ?_ | intro _)); (conv => whnf); (fail_if_success (fail_if_success (with_reducible first | refine xstp ?_ | refine Both.mk ?_ ?_ | refine xgon ?_ | intro _)))))
    refine ManyK.mk ⟨rcR true (X.getD (0 + ((X.length : Int) - 1).toNat) default).l (X.getD (0 + ((X.length : Int) - 1).toNat) default).cap, ixG_at (by omega), ?_⟩
    repeat' (first | (fail_if_success (with_reducible refine xstp ?_)); first | ((with_reducible refine And.intro (fun (hb : _ = true) => ?_) (fun (hb : _ = false) => ?_)) <;> replace hb := xnC hb <;> (try first | exact xfC | exact bff hb (by assumption) | exact bff (by assumption) hb)) | (with_reducible refine Both.mk ?_ ?_) | ((with_reducible refine And.intro ?_ ?_); focus exact xoC) | ((with_reducible refine Or.inl ⟨?_, ?_, ?_⟩); (focus rfl); focus exact xaC) | ((with_reducible refine xwB ?_ ?_); focus exact xaC) | ((with_reducible refine xwC ?_ ?_); focus exact xaC) | ((with_reducible refine xwD ?_ ?_); focus exact xaC) | ((with_reducible refine xwE ?_ ?_); focus exact xaC) | (with_reducible intro hc; (try simp only [capsP, and_true] at hc); (try exact xfC)) | ((fail_if_success (with_reducible first | refine xgon ?_ | intro _)); (conv => whnf); (fail_if_success (fail_if_success (with_reducible first | refine xstp ?_ | refine Both.mk ?_ ?_ | refine xgon ?_ | intro _)))))
    rw [decide_eq_true h0]
    rw [e1] at hxl hxm
    have e3 : 0 + (((X.getD (X.length - 1) default).l.length : Int) - 1).toNat = (X.getD (X.length - 1) default).l.length - 1 := by omega
    rw [e1, e3]
    refine ManyK.mk ⟨rcR true (X.getD (X.length - 1) default).l (X.getD (X.length - 1) default).cap, ixG_at (by omega), ?_⟩
    repeat' (first | (fail_if_success (with_reducible refine xstp ?_)); first | ((with_reducible refine And.intro (fun (hb : _ = true) => ?_) (fun (hb : _ = false) => ?_)) <;> replace hb := xnC hb <;> (try first | exact xfC | exact bff hb (by assumption) | exact bff (by assumption) hb)) | (with_reducible refine Both.mk ?_ ?_) | ((with_reducible refine And.intro ?_ ?_); focus exact xoC) | ((with_reducible refine Or.inl ⟨?_, ?_, ?_⟩); (focus rfl); focus exact xaC) | ((with_reducible refine xwB ?_ ?_); focus exact xaC) | ((with_reducible refine xwC ?_ ?_); focus exact xaC) | ((with_reducible refine xwD ?_ ?_); focus exact xaC) | ((with_reducible refine xwE ?_ ?_); focus exact xaC) | (with_reducible intro hc; (try simp only [capsP, and_true] at hc); (try exact xfC)) | ((fail_if_success (with_reducible first | refine xgon ?_ | intro _)); (conv => whnf); (fail_if_success (fail_if_success (with_reducible first | refine xstp ?_ | refine Both.mk ?_ ?_ | refine xgon ?_ | intro _)))))
    refine FinK.mk ⟨[0, 1], _, _, ⟨rfl, rfl⟩, ?_⟩; (repeat' first | refine And.intro ?_ ?_ | exact xeC | fail)
    all_goals (exact xmC)
theorem cH41bD0 {P : Program} {F : Nat} {args : List T} {H : List Fam} {K : T → List Fam → Prop} {σ : List Sg} {nl : List Fam} {args0 : List T} {h0 : List Fam} {Q : T → List Fam → Prop} {H2 H1 : List Fam} {N n : Nat} (hc : Ctr P F args0 h0 Q) (hk : ∀ v h', Q v h' → capsP h' → RetG σ H2 h' v K) (hap : apart σ = true := by rfl) (hnl : nl.all nilB = true := by rfl) (h1 : H ++ nl = H1 := by first | exact List.append_nil _ | ((try simp only [List.cons_append, List.nil_append]) <;> rfl)) (hN : H1.length = N := by (try simp only [↓List.length_cons, ↓List.length_nil, Nat.reduceAdd]) <;> rfl) (hn : H.length = n := by (try simp only [↓List.length_cons, ↓List.length_nil, Nat.reduceAdd]) <;> rfl) (hH : givesF σ N H1 σ h0 = some H2 := by (try simp (maxSteps := 1000000) only [givesF, setF, updF, Fam.zeroth, Fam.rk, Ck.rk, C.rk, E.rk, T.rk, key, List.map_cons, List.map_nil, List.cons_append, List.nil_append, List.length_cons, List.length_nil, Option.map_some, Option.bind_some, Nat.reduceAdd, Nat.zero_add, Nat.add_zero, Nat.add_sub_cancel_left, Int.toNat_natCast, reps, List.all_cons, List.all_nil, C.flat, List.append_eq, Bool.not_true, Bool.and_true, Bool.or_false, Bool.or_self, Bool.not_false, List.append_nil, Bool.and_self, ↓chG_rk]) <;> rfl) (hle : leS n H1 σ N σ h0 (belsK N (h0.map (Fam.rk σ N)) (argsK n args (args0.map (T.rk σ N)) True)) := by repeat' first | refine And.intro ?_ ?_ | exact xeC | fail) : CallK P F args H K := CallK.mk3 hc hap hnl h1 hN hn hH hle hk
set_option maxRecDepth 10000 in
set_option maxHeartbeats 4000000 in
theorem cAddR (w : Wr) (X : List Ch) (c : Nat) (r : Rc) (hX : X.map Ch.l = w.L) (htp : r.tp.length ≤ 140737488355328) (hla : w.la = (lastR w.L).at_)
    (hl : X.length ≤ 100000) (hch : ∀ x ∈ X, 0 < x.l.length ∧ x.l.length ≤ 50000 ∧ ∀ q ∈ x.l, okR q) (had : w.ad ≤ 100000) :
    Ctr Try.prog 14 [.c (.p 0 0 0), .a (encR r)] [.one (rwC w 1 X.length c), .one (rhR 2 X c), .many (chG X)]
      fun v h => ∃ X' c', X'.map Ch.l = (addW w r).L ∧ v = .c (.i .i64 (addE w r : Nat)) ∧ h = [.one (rwC (addW w r) 3 X'.length c'), .one .no, .one .no, .one (rhR 4 X' c'), .many (chG X')] := by
  have hz : (mkS r.pl).size = r.pl.length := rfl
  refine Ctr.mk' tbv mixed Try.func14 rfl rfl rfl (fun _ _ => by kernel_rfl) (by kernel_rfl) (by rfl) (by rfl) (by (repeat' first | refine And.intro ?_ ?_ | exact xeC | fail) <;> (exact xmC)) ?_
  repeat' (first | (fail_if_success (with_reducible refine xstp ?_)); first | ((with_reducible refine And.intro (fun (hb : _ = true) => ?_) (fun (hb : _ = false) => ?_)) <;> replace hb := xnC hb <;> (try first | exact xfC | exact bff hb (by assumption) | exact bff (by assumption) hb)) | (with_reducible refine Both.mk ?_ ?_) | ((with_reducible refine And.intro ?_ ?_); focus exact xoC) | ((with_reducible refine Or.inl ⟨?_, ?_, ?_⟩); (focus rfl); focus exact xaC) | ((with_reducible refine xwB ?_ ?_); focus exact xaC) | ((with_reducible refine xwC ?_ ?_); focus exact xaC) | ((with_reducible refine xwD ?_ ?_); focus exact xaC) | ((with_reducible refine xwE ?_ ?_); focus exact xaC) | (with_reducible intro hc; (try simp only [capsP, and_true] at hc); (try exact xfC)) | ((fail_if_success (with_reducible first | refine xgon ?_ | intro _)); (conv => whnf); (fail_if_success (fail_if_success (with_reducible first | refine xstp ?_ | refine Both.mk ?_ ?_ | refine xgon ?_ | intro _)))))
  · skip
    have hE : addE w r = 10 := (by unfold addE; rw [if_pos (by assumption)])
    have hW : addW w r = w := if_neg (by rw [hE]; decide)
    rw [hE, hW]
    refine FinK.mk ⟨[0, 1, 2, 1, 2], _, _, ⟨X, c, hX, rfl, rfl⟩, ?_⟩
    (repeat' first | refine And.intro ?_ ?_ | exact xeC | fail)
    all_goals (exact xmC)
  have h0 : ¬ w.cl = true := by rw [hb]; decide
  refine cH41bD0 (σ := []) (nl := []) (cisTR r.tp htp) ?_
  rintro v h' ⟨rfl, rfl⟩ hcaps
  refine ret_mk3 (by (try simp only [↓List.length_cons, ↓List.length_nil, Nat.reduceAdd]); rfl) (by (try simp (maxSteps := 1000000) only [givesF, setF, updF, Fam.zeroth, Fam.rk, Ck.rk, C.rk, E.rk, T.rk, key, List.map_cons, List.map_nil, List.cons_append, List.nil_append, List.length_cons, List.length_nil, Option.map_some, Option.bind_some, Nat.reduceAdd, Nat.zero_add, Nat.add_zero, Nat.add_sub_cancel_left, Int.toNat_natCast, reps, List.all_cons, List.all_nil, C.flat, List.append_eq, Bool.not_true, Bool.and_true, Bool.or_false, Bool.or_self, Bool.not_false, List.append_nil, Bool.and_self, ↓chG_rk, encR]); rfl) (by (try simp only [givesF, setF, updF, Fam.zeroth, Fam.rk, Ck.rk, C.rk, E.rk, T.rk, key, List.map_cons, List.map_nil, List.cons_append, List.nil_append, List.length_cons, List.length_nil, Option.map_some, Option.bind_some, Nat.reduceAdd, Nat.zero_add, Nat.add_zero, Nat.add_sub_cancel_left, Int.toNat_natCast, reps, List.all_cons, List.all_nil, C.flat, List.append_eq, Bool.not_true, Bool.and_true, Bool.or_false, Bool.or_self, Bool.not_false, List.append_nil, Bool.and_self, ↓chG_rk, encR]); rfl) ?_
  repeat' (first | (fail_if_success (with_reducible refine xstp ?_)); first | ((with_reducible refine And.intro (fun (hb : _ = true) => ?_) (fun (hb : _ = false) => ?_)) <;> replace hb := xnC hb <;> (try first | exact xfC | exact bff hb (by assumption) | exact bff (by assumption) hb)) | (with_reducible refine Both.mk ?_ ?_) | ((with_reducible refine And.intro ?_ ?_); focus exact xoC) | ((with_reducible refine Or.inl ⟨?_, ?_, ?_⟩); (focus rfl); focus exact xaC) | ((with_reducible refine xwB ?_ ?_); focus exact xaC) | ((with_reducible refine xwC ?_ ?_); focus exact xaC) | ((with_reducible refine xwD ?_ ?_); focus exact xaC) | ((with_reducible refine xwE ?_ ?_); focus exact xaC) | (with_reducible intro hc; (try simp only [capsP, and_true] at hc); (try exact xfC)) | ((fail_if_success (with_reducible first | refine xgon ?_ | intro _)); (conv => whnf); (fail_if_success (fail_if_success (with_reducible first | refine xstp ?_ | refine Both.mk ?_ ?_ | refine xgon ?_ | intro _)))))
  · skip
    have hE : addE w r = 5 := (by unfold addE; rw [if_neg h0, if_pos (by assumption)])
    have hW : addW w r = w := if_neg (by rw [hE]; decide)
    rw [hE, hW]
    refine FinK.mk ⟨[0, 1, 2, 1, 2], _, _, ⟨X, c, hX, rfl, rfl⟩, ?_⟩
    (repeat' first | refine And.intro ?_ ?_ | exact xeC | fail)
    all_goals (exact xmC)
  all_goals have h1 : ¬ ¬ isT r.tp := by simpa using ‹isT r.tp›
  · skip
    have hE : addE w r = 4 := (by unfold addE; rw [if_neg h0, if_neg h1, if_pos (by omega)])
    have hW : addW w r = w := if_neg (by rw [hE]; decide)
    rw [hE, hW]
    refine FinK.mk ⟨[0, 1, 2, 1, 2], _, _, ⟨X, c, hX, rfl, rfl⟩, ?_⟩
    (repeat' first | refine And.intro ?_ ?_ | exact xeC | fail)
    all_goals (exact xmC)
  · skip
    have hE : addE w r = 4 := (by unfold addE; rw [if_neg h0, if_neg h1, if_pos (by omega)])
    have hW : addW w r = w := if_neg (by rw [hE]; decide)
    rw [hE, hW]
    refine FinK.mk ⟨[0, 1, 2, 1, 2], _, _, ⟨X, c, hX, rfl, rfl⟩, ?_⟩
    (repeat' first | refine And.intro ?_ ?_ | exact xeC | fail)
    all_goals (exact xmC)
  · skip
    have hE : addE w r = 3 := (by unfold addE; rw [if_neg h0, if_neg h1, if_neg (by omega), if_pos (by omega)])
    have hW : addW w r = w := if_neg (by rw [hE]; decide)
    rw [hE, hW]
    refine FinK.mk ⟨[0, 1, 2, 1, 2], _, _, ⟨X, c, hX, rfl, rfl⟩, ?_⟩
    (repeat' first | refine And.intro ?_ ?_ | exact xeC | fail)
    all_goals (exact xmC)
  refine cH41bD0 (σ := [.whole 1, .whole 2]) (nl := []) (clast X c (fun x hx => (hch x hx).1) hl (fun x hx => by have := (hch x hx).2.1; omega)) ?_ (hle := by (repeat' first | refine And.intro ?_ ?_ | exact xeC | fail) <;> (exact xmC))
  rintro v h' ⟨rfl, rfl⟩ hcaps
  rw [hX]
  refine ret_mk3 (by (try simp only [↓List.length_cons, ↓List.length_nil, Nat.reduceAdd]); rfl) (by (try simp (maxSteps := 1000000) only [givesF, setF, updF, Fam.zeroth, Fam.rk, Ck.rk, C.rk, E.rk, T.rk, key, List.map_cons, List.map_nil, List.cons_append, List.nil_append, List.length_cons, List.length_nil, Option.map_some, Option.bind_some, Nat.reduceAdd, Nat.zero_add, Nat.add_zero, Nat.add_sub_cancel_left, Int.toNat_natCast, reps, List.all_cons, List.all_nil, C.flat, List.append_eq, Bool.not_true, Bool.and_true, Bool.or_false, Bool.or_self, Bool.not_false, List.append_nil, Bool.and_self, ↓chG_rk, encR, encRh_rk1]); rfl) (by (try simp only [givesF, setF, updF, Fam.zeroth, Fam.rk, Ck.rk, C.rk, E.rk, T.rk, key, List.map_cons, List.map_nil, List.cons_append, List.nil_append, List.length_cons, List.length_nil, Option.map_some, Option.bind_some, Nat.reduceAdd, Nat.zero_add, Nat.add_zero, Nat.add_sub_cancel_left, Int.toNat_natCast, reps, List.all_cons, List.all_nil, C.flat, List.append_eq, Bool.not_true, Bool.and_true, Bool.or_false, Bool.or_self, Bool.not_false, List.append_nil, Bool.and_self, ↓chG_rk, encR, encRh_rk1]); rfl) ?_
  rcases Nat.eq_zero_or_pos X.length with hX0 | hX0
  · have hla0 : w.la = 0 := by
      rw [hla, ← hX]
      unfold lastR
      rw [if_neg (by rw [List.length_map]; omega)]
    rw [decide_eq_false (show ¬ 0 < X.length by omega)]
    repeat' (first | (fail_if_success (with_reducible refine xstp ?_)); first | ((with_reducible refine And.intro (fun (hb : _ = true) => ?_) (fun (hb : _ = false) => ?_)) <;> replace hb := xnC hb <;> (try first | exact xfC | exact bff hb (by assumption) | exact bff (by assumption) hb)) | (with_reducible refine Both.mk ?_ ?_) | ((with_reducible refine And.intro ?_ ?_); focus exact xoC) | ((with_reducible refine Or.inl ⟨?_, ?_, ?_⟩); (focus rfl); focus exact xaC) | ((with_reducible refine xwB ?_ ?_); focus exact xaC) | ((with_reducible refine xwC ?_ ?_); focus exact xaC) | ((with_reducible refine xwD ?_ ?_); focus exact xaC) | ((with_reducible refine xwE ?_ ?_); focus exact xaC) | (with_reducible intro hc; (try simp only [capsP, and_true] at hc); (try exact xfC)) | ((fail_if_success (with_reducible first | refine xgon ?_ | intro _)); (conv => whnf); (fail_if_success (fail_if_success (with_reducible first | refine xstp ?_ | refine Both.mk ?_ ?_ | refine xgon ?_ | intro _)))))
    · skip
      have hE : addE w r = 15 := (by unfold addE; rw [if_neg h0, if_neg h1, if_neg (by omega), if_neg (by omega), if_neg (by omega), if_pos (by omega)])
      have hW : addW w r = w := if_neg (by rw [hE]; decide)
      rw [hE, hW]
      refine FinK.mk ⟨[0, 1, 2, 1, 2], _, _, ⟨X, c, hX, rfl, rfl⟩, ?_⟩
      (repeat' first | refine And.intro ?_ ?_ | exact xeC | fail)
      all_goals (exact xmC)
    have hE : addE w r = 0 := by unfold addE; rw [if_neg h0, if_neg h1, if_neg (by omega), if_neg (by omega), if_neg (by omega), if_neg (by omega)]
    have hW : addW w r = { w with ad := w.ad + 1, la := r.at_, L := putR w.most w.L r } := if_pos hE
    rw [hE, hW]
    have hp : putR w.most w.L r = w.L ++ [[r]] := if_neg (fun h => by have := h.1; rw [← hX] at this; simp at this; omega)
    rename_i c2
    refine FinK.mk ⟨[0, 1, 2, 7, .adopt 2 X.length 5], _, _, ⟨X ++ [⟨[r], 1⟩], c2, by rw [hp, ← hX]; simp, rfl, rfl⟩, ?_⟩
    (repeat' first | refine And.intro ?_ ?_ | exact xeC | fail)
    all_goals first
      | (exact xmC)
      | (simp; done)
      | exact rhApp (G := 5) (y := ⟨[r], 1⟩) (fun i hi => by simp [key, hi]) (by simp [key]) rfl
      | exact fun x hx => ixG_leA chF hx
      | skip
    refine ixG_leAn chF ?_
    refine ⟨rfl, rfl, rfl, rfl, Nat.le_refl 1, rfl, fun i hi => one_row rfl hi, ?_⟩
    (repeat' first | refine And.intro ?_ ?_ | exact xeC | fail)
    all_goals (exact xmC)
  · rw [decide_eq_true hX0]
    have e1 : 0 + ((X.length : Int) - 1).toNat = X.length - 1 := by omega
    have e2 : ((X.length : Int) - 1).toNat = X.length - 1 := by omega
    have hcx := hch (X.getD (X.length - 1) default) (by rw [getD_at (by omega)]; exact List.getElem_mem _)
    rw [← e1] at hcx
    repeat' (first | (fail_if_success (with_reducible refine xstp ?_)); first | ((with_reducible refine And.intro (fun (hb : _ = true) => ?_) (fun (hb : _ = false) => ?_)) <;> replace hb := xnC hb <;> (try first | exact xfC | exact bff hb (by assumption) | exact bff (by assumption) hb)) | (with_reducible refine Both.mk ?_ ?_) | ((with_reducible refine And.intro ?_ ?_); focus exact xoC) | ((with_reducible refine Or.inl ⟨?_, ?_, ?_⟩); (focus rfl); focus exact xaC) | ((with_reducible refine xwB ?_ ?_); focus exact xaC) | ((with_reducible refine xwC ?_ ?_); focus exact xaC) | ((with_reducible refine xwD ?_ ?_); focus exact xaC) | ((with_reducible refine xwE ?_ ?_); focus exact xaC) | (with_reducible intro hc; (try simp only [capsP, and_true] at hc); (try exact xfC)) | ((fail_if_success (with_reducible first | refine xgon ?_ | intro _)); (conv => whnf); (fail_if_success (fail_if_success (with_reducible first | refine xstp ?_ | refine Both.mk ?_ ?_ | refine xgon ?_ | intro _)))))
    · skip
      have hE : addE w r = 17 := (by unfold addE; rw [if_neg h0, if_neg h1, if_neg (by omega), if_neg (by omega), if_pos (by omega)])
      have hW : addW w r = w := if_neg (by rw [hE]; decide)
      rw [hE, hW]
      refine FinK.mk ⟨[0, 1, 2, 1, 2], _, _, ⟨X, c, hX, rfl, rfl⟩, ?_⟩
      (repeat' first | refine And.intro ?_ ?_ | exact xeC | fail)
      all_goals (exact xmC)
    · skip
      have hE : addE w r = 15 := (by unfold addE; rw [if_neg h0, if_neg h1, if_neg (by omega), if_neg (by omega), if_neg (by omega), if_pos (by omega)])
      have hW : addW w r = w := if_neg (by rw [hE]; decide)
      rw [hE, hW]
      refine FinK.mk ⟨[0, 1, 2, 1, 2], _, _, ⟨X, c, hX, rfl, rfl⟩, ?_⟩
      (repeat' first | refine And.intro ?_ ?_ | exact xeC | fail)
      all_goals (exact xmC)
    have hE : addE w r = 0 := by unfold addE; rw [if_neg h0, if_neg h1, if_neg (by omega), if_neg (by omega), if_neg (by omega), if_neg (by omega)]
    have hW : addW w r = { w with ad := w.ad + 1, la := r.at_, L := putR w.most w.L r } := if_pos hE
    rw [hE, hW]
    refine ManyK.mk ⟨rcR true (X.getD (0 + ((X.length : Int) - 1).toNat) default).l (X.getD (0 + ((X.length : Int) - 1).toNat) default).cap, ixG_at (by omega), ?_⟩
    repeat' (first | (fail_if_success (with_reducible refine xstp ?_)); first | ((with_reducible refine And.intro (fun (hb : _ = true) => ?_) (fun (hb : _ = false) => ?_)) <;> replace hb := xnC hb <;> (try first | exact xfC | exact bff hb (by assumption) | exact bff (by assumption) hb)) | (with_reducible refine Both.mk ?_ ?_) | ((with_reducible refine And.intro ?_ ?_); focus exact xoC) | ((with_reducible refine Or.inl ⟨?_, ?_, ?_⟩); (focus rfl); focus exact xaC) | ((with_reducible refine xwB ?_ ?_); focus exact xaC) | ((with_reducible refine xwC ?_ ?_); focus exact xaC) | ((with_reducible refine xwD ?_ ?_); focus exact xaC) | ((with_reducible refine xwE ?_ ?_); focus exact xaC) | (with_reducible intro hc; (try simp only [capsP, and_true] at hc); (try exact xfC)) | ((fail_if_success (with_reducible first | refine xgon ?_ | intro _)); (conv => whnf); (fail_if_success (fail_if_success (with_reducible first | refine xstp ?_ | refine Both.mk ?_ ?_ | refine xgon ?_ | intro _)))))
    rename_i c2
    rw [e1] at hcx ⊢
    have hok : okR r := ⟨Decidable.of_not_not h1, by omega, by omega⟩
    have hokL : ∀ q ∈ (X.getD (X.length - 1) default).l ++ [r], okR q := fun q hq => by
      rcases List.mem_append.1 hq with h | h
      · exact hcx.2.2 q h
      · rw [List.mem_singleton.1 h]; exact hok
    have hcl := conB_len hokL
    have hl1 : ((X.getD (X.length - 1) default).l ++ [r]).length ≤ 100000 := by rw [List.length_append, List.length_singleton]; omega
    rw [List.length_append, List.length_singleton] at hcl
    have hcz : (mkS (conB ((X.getD (X.length - 1) default).l ++ [r]))).size = (conB ((X.getD (X.length - 1) default).l ++ [r])).length := rfl
    refine cH41bD0 (σ := [.whole 7]) (nl := []) (ccontent true ((X.getD (X.length - 1) default).l ++ [r]) c2 hl1 hokL) ?_ (hle := by (repeat' first | refine And.intro ?_ ?_ | exact xeC | fail) <;> (first | (simp; done) | (intro i hi; simp only [Nat.zero_add]; exact app_rowG encR (X.getD (X.length - 1) default).l r _ rfl i hi)))
    rintro v h' ⟨rfl, rfl⟩ hcaps
    refine ret_mk3 (by (try simp only [↓List.length_cons, ↓List.length_nil, Nat.reduceAdd]); rfl) (by (try simp (maxSteps := 1000000) only [givesF, setF, updF, Fam.zeroth, Fam.rk, Ck.rk, C.rk, E.rk, T.rk, key, List.map_cons, List.map_nil, List.cons_append, List.nil_append, List.length_cons, List.length_nil, Option.map_some, Option.bind_some, Nat.reduceAdd, Nat.zero_add, Nat.add_zero, Nat.add_sub_cancel_left, Int.toNat_natCast, reps, List.all_cons, List.all_nil, C.flat, List.append_eq, Bool.not_true, Bool.and_true, Bool.or_false, Bool.or_self, Bool.not_false, List.append_nil, Bool.and_self, ↓chG_rk, encR]); rfl) (by (try simp only [givesF, setF, updF, Fam.zeroth, Fam.rk, Ck.rk, C.rk, E.rk, T.rk, key, List.map_cons, List.map_nil, List.cons_append, List.nil_append, List.length_cons, List.length_nil, Option.map_some, Option.bind_some, Nat.reduceAdd, Nat.zero_add, Nat.add_zero, Nat.add_sub_cancel_left, Int.toNat_natCast, reps, List.all_cons, List.all_nil, C.flat, List.append_eq, Bool.not_true, Bool.and_true, Bool.or_false, Bool.or_self, Bool.not_false, List.append_nil, Bool.and_self, ↓chG_rk, encR]); rfl) ?_
    have hcz2 : (conB ((X.getD (X.length - 1) default).l ++ [r])).length = (conB (X.getD (X.length - 1) default).l).length + (recB r).length := by rw [conB_snoc, List.length_append]
    repeat' (first | (fail_if_success (with_reducible refine xstp ?_)); first | ((with_reducible refine And.intro (fun (hb : _ = true) => ?_) (fun (hb : _ = false) => ?_)) <;> replace hb := xnC hb <;> (try first | exact xfC | exact bff hb (by assumption) | exact bff (by assumption) hb)) | (with_reducible refine Both.mk ?_ ?_) | ((with_reducible refine And.intro ?_ ?_); focus exact xoC) | ((with_reducible refine Or.inl ⟨?_, ?_, ?_⟩); (focus rfl); focus exact xaC) | ((with_reducible refine xwB ?_ ?_); focus exact xaC) | ((with_reducible refine xwC ?_ ?_); focus exact xaC) | ((with_reducible refine xwD ?_ ?_); focus exact xaC) | ((with_reducible refine xwE ?_ ?_); focus exact xaC) | (with_reducible intro hc; (try simp only [capsP, and_true] at hc); (try exact xfC)) | ((fail_if_success (with_reducible first | refine xgon ?_ | intro _)); (conv => whnf); (fail_if_success (fail_if_success (with_reducible first | refine xstp ?_ | refine Both.mk ?_ ?_ | refine xgon ?_ | intro _)))))
    · have hk : X.length - 1 < X.length := by omega
      have hp : putR w.most w.L r = w.L.set (w.L.length - 1) (w.L.getD (w.L.length - 1) default ++ [r]) := if_pos ⟨by rw [← hX, List.length_map]; omega, by rw [← hX, getMap, List.length_map]; omega⟩
      rw [e1]
      refine FinK.mk ⟨[0, 1, 2, 1, .adopt 2 (X.length - 1) 7], _, _, ⟨X.set (X.length - 1) ⟨(X.getD (X.length - 1) default).l ++ [r], c2⟩, c, by rw [hp, ← hX, getMap, List.length_map, List.map_set], rfl, rfl⟩, ?_⟩
      (repeat' first | refine And.intro ?_ ?_ | exact xeC | fail)
      all_goals first
        | (exact xmC)
        | (rw [List.length_set]; exact Nat.le_refl _)
        | (rw [List.length_set]; done)
        | exact fun i _ => rhSet (G := 7) hk (fun i hi => by simp [key, hi]) (by simp [key]) (by simp) i
        | exact fun x hx => ixG_leS chF hk hx
        | skip
      refine ixG_leSn chF hk ?_
      refine ⟨rfl, rfl, rfl, rfl, Nat.le_refl _, rfl, fun _ _ => rfl, ?_⟩
      (repeat' first | refine And.intro ?_ ?_ | exact xeC | fail)
      all_goals (exact xmC)
    · have hp : putR w.most w.L r = w.L ++ [[r]] := if_neg (fun h => by have h2 := h.2; rw [← hX, getMap, List.length_map] at h2; omega)
      rename_i c2
      refine FinK.mk ⟨[0, 1, 2, 10, .adopt 2 X.length 8], _, _, ⟨X ++ [⟨[r], 1⟩], c2, by rw [hp, ← hX]; simp, rfl, rfl⟩, ?_⟩
      (repeat' first | refine And.intro ?_ ?_ | exact xeC | fail)
      all_goals first
        | (exact xmC)
        | (simp; done)
        | exact rhApp (G := 8) (y := ⟨[r], 1⟩) (fun i hi => by simp [key, hi]) (by simp [key]) rfl
        | exact fun x hx => ixG_leA chF hx
        | skip
      refine ixG_leAn chF ?_
      refine ⟨rfl, rfl, rfl, rfl, Nat.le_refl 1, rfl, fun i hi => one_row rfl hi, ?_⟩
      (repeat' first | refine And.intro ?_ ?_ | exact xeC | fail)
      all_goals (exact xmC)
end Go.Proofs.Ytkjkbpnhocjenaa


namespace Go.Proofs.Ytkjkbpnhocjenaa
open Go.X
set_option linter.unusedSimpArgs false
set_option linter.unusedVariables false
open P4
open P5
abbrev mpR (ck : Nat) (M : List Me) : Ck := .map true false ck M.length fun i => ((M.getD i default).1, .s (mkS (M.getD i default).2.1), .c (.i .i64 ((M.getD i default).2.2 : Nat)))
def encNt (n : Nat) : List C := [.i .i64 (n : Nat)]
abbrev ntR (w : Bool) (l : List Nat) (c : Nat) : Ck := .row w false 3 1 l.length c (rowOf encNt l)
abbrev enC (off fi la : Int) (F G n c c2 : Nat) : List C := [.i .i64 off, .i .i64 fi, .i .i64 la, .sl F 0 1 0 n c, .sl G 0 1 0 n c2]
def cnts (l : List Rc) : List Nat := (tal l).map Prod.snd
theorem nodup_leN : ∀ (n : Nat) (S : List Nat), S.Nodup → (∀ k ∈ S, k < n) → S.length ≤ n
  | 0, S, _, h => by
    cases S with
    | nil => exact Nat.le_refl _
    | cons a S => exact absurd (h a (List.mem_cons_self ..)) (Nat.not_lt_zero _)
  | n + 1, S, hn, h => by
    by_cases hm : n ∈ S
    · have h1 := nodup_leN n (S.erase n) (hn.erase n) (fun k hk => by
        have := (hn.mem_erase_iff).1 hk
        have := h k this.2
        omega)
      rw [List.length_erase_of_mem hm] at h1
      omega
    · have := nodup_leN n S hn (fun k hk => by
        have := h k hk
        have : k ≠ n := fun e => hm (e ▸ hk)
        omega)
      omega
theorem mpSet {M : List Me} {b : Nat} (hb : b < M.length) {t : List UInt8} (j : Nat) (_ : j < (M.set b ((M.getD b default).1, t, (M.getD b default).2.2 + 1)).length) :
    (if j = b then ((M.getD b default).1, Key.s (mkS t), E.c (.i .i64 (((M.getD b default).2.2 : Nat) + 1 : Int))) else ((M.getD j default).1, Key.s (mkS (M.getD j default).2.1), E.c (.i .i64 ((M.getD j default).2.2 : Nat)))) =
      (((M.set b ((M.getD b default).1, t, (M.getD b default).2.2 + 1)).getD j default).1, Key.s (mkS ((M.set b ((M.getD b default).1, t, (M.getD b default).2.2 + 1)).getD j default).2.1), E.c (.i .i64 (((M.set b ((M.getD b default).1, t, (M.getD b default).2.2 + 1)).getD j default).2.2 : Nat))) := by
  rw [getD_set _ _ _ _ hb]
  by_cases e : j = b
  · subst e; rw [if_pos rfl, if_pos rfl]; rfl
  · rw [if_neg e, if_neg e]
theorem mpNew {M : List Me} {ck : Nat} {t : List UInt8} (j : Nat) (hj : j < (M ++ [(ck, t, 1)]).length) :
    (if j = M.length then (ck, Key.s (mkS t), E.c (.i .i64 (0 + 1))) else ((M.getD j default).1, Key.s (mkS (M.getD j default).2.1), E.c (.i .i64 ((M.getD j default).2.2 : Nat)))) =
      (((M ++ [(ck, t, 1)]).getD j default).1, Key.s (mkS ((M ++ [(ck, t, 1)]).getD j default).2.1), E.c (.i .i64 (((M ++ [(ck, t, 1)]).getD j default).2.2 : Nat))) := by
  rw [getD_sn hj]
  by_cases e : j = M.length
  · subst e; rw [if_pos rfl, if_pos rfl]; rfl
  · rw [if_neg e, if_neg e]
set_option maxRecDepth 10000 in
set_option maxHeartbeats 4000000 in
theorem centryOf (off : Int) (l : List Rc) (c : Nat) (hl : 0 < l.length ∧ l.length ≤ 100000) (ht : ∀ r ∈ l, r.tp.length ≤ 40) :
    Ctr Try.prog 72 [.c (.i .i64 off), .c (.sl 0 0 3 0 l.length c)] [.one (rcR true l c)]
      fun v h => ∃ c1 c2, v = .a (enC off (l.getD 0 default).at_ (l.getD (l.length - 1) default).at_ 1 2 (tal l).length c1 c2) ∧ h = [.one (rcR true l c), .one (stR true (tops l) c1), .one (ntR true (cnts l) c2)] := by
  have e1 : 0 + ((l.length : Int) - 1).toNat = l.length - 1 := by omega
  have e0 : 0 + Int.toNat 0 = 0 := rfl
  refine Ctr.mk' tbv mixed Try.func72 rfl rfl rfl (fun _ _ => by kernel_rfl) (by kernel_rfl) (by rfl) (by rfl) (by (repeat' first | refine And.intro ?_ ?_ | exact xeC | fail)) ?_
  repeat' (first | (fail_if_success (with_reducible refine xstp ?_)); first | ((with_reducible refine And.intro (fun (hb : _ = true) => ?_) (fun (hb : _ = false) => ?_)) <;> replace hb := xnC hb <;> (try first | exact xfC | exact bff hb (by assumption) | exact bff (by assumption) hb)) | (with_reducible refine Both.mk ?_ ?_) | ((with_reducible refine And.intro ?_ ?_); focus exact xoC) | ((with_reducible refine Or.inl ⟨?_, ?_, ?_⟩); (focus rfl); focus exact xaC) | ((with_reducible refine xwB ?_ ?_); focus exact xaC) | ((with_reducible refine xwC ?_ ?_); focus exact xaC) | ((with_reducible refine xwD ?_ ?_); focus exact xaC) | ((with_reducible refine xwE ?_ ?_); focus exact xaC) | (with_reducible intro hc; (try simp only [capsP, and_true] at hc); (try exact xfC)) | ((fail_if_success (with_reducible first | refine xgon ?_ | intro _)); (conv => whnf); (fail_if_success (fail_if_success (with_reducible first | refine xstp ?_ | refine Both.mk ?_ ?_ | refine xgon ?_ | intro _)))))
  all_goals (
    rw [e1, e0]
    refine LoopK.mk' {p : Nat × Nat × List Me // p.1 ≤ l.length ∧ MOk p.2.1 p.2.2 (l.take p.1)}
      (fun ⟨(i, ck, M), _⟩ => ⟨[(4, .c (.p 1 0 0)), (5, .c (.p 2 0 0)), (6, .c (.mp 3 0)), (26, .c (.sl 0 0 3 0 l.length c)), (27, .c (.i .i64 (l.length : Nat))), (28, .c (.i .i64 (i : Nat)))],
        [.one (rcR true l c), .one (.cells true [.i .i64 0, .i .i64 0, .i .i64 0, .nils, .nils]), .one (.cells true [.i .i64 off, .i .i64 (l.getD 0 default).at_, .i .i64 (l.getD (l.length - 1) default).at_, .nils, .nils]), .one (mpR ck M)]⟩) (fun p => l.length - p.1.1)
      ⟨⟨(0, 0, []), Nat.zero_le _, MOk.nil⟩, [0, 1, 2, 3], ?_⟩ ?_
    · (repeat' first | refine And.intro ?_ ?_ | exact xeC | fail)
      all_goals (intro i hi; exact absurd hi (Nat.not_lt_zero i)))
  all_goals (
    rintro ⟨⟨i, ck, M⟩, hi, hM⟩
    simp only at hi hM
    have hML := hM.le
    rw [List.length_take] at hML
    repeat' (first | (fail_if_success (with_reducible refine xstp ?_)); first | ((with_reducible refine And.intro (fun (hb : _ = true) => ?_) (fun (hb : _ = false) => ?_)) <;> replace hb := xnC hb <;> (try first | exact xfC | exact bff hb (by assumption) | exact bff (by assumption) hb)) | (with_reducible refine Both.mk ?_ ?_) | ((with_reducible refine And.intro ?_ ?_); focus exact xoC) | ((with_reducible refine Or.inl ⟨?_, ?_, ?_⟩); (focus rfl); focus exact xaC) | ((with_reducible refine xwB ?_ ?_); focus exact xaC) | ((with_reducible refine xwC ?_ ?_); focus exact xaC) | ((with_reducible refine xwD ?_ ?_); focus exact xaC) | ((with_reducible refine xwE ?_ ?_); focus exact xaC) | (with_reducible intro hc; (try simp only [capsP, and_true] at hc); (try exact xfC)) | ((fail_if_success (with_reducible first | refine xgon ?_ | intro _)); (conv => whnf); (fail_if_success (fail_if_success (with_reducible first | refine xstp ?_ | refine Both.mk ?_ ?_ | refine xgon ?_ | intro _)))))
    · rename_i a ha
      have hlt : i < l.length := by omega
      have hts := take_snocG l hlt
      have e2 : 0 + ((i : Nat) : Int).toNat = i := by omega
      have hca := hM.cn a ha
      have hcl := cntL_le (l.take i) (M.getD a default).2.1
      rw [List.length_take] at hcl
      have hk : (M.getD a default).2.1 = (l.getD i default).tp := by rw [e2] at hc; exact mkS_inj.1 (Key.s.inj hc)
      repeat' (first | (fail_if_success (with_reducible refine xstp ?_)); first | ((with_reducible refine And.intro (fun (hb : _ = true) => ?_) (fun (hb : _ = false) => ?_)) <;> replace hb := xnC hb <;> (try first | exact xfC | exact bff hb (by assumption) | exact bff (by assumption) hb)) | (with_reducible refine Both.mk ?_ ?_) | ((with_reducible refine And.intro ?_ ?_); focus exact xoC) | ((with_reducible refine Or.inl ⟨?_, ?_, ?_⟩); (focus rfl); focus exact xaC) | ((with_reducible refine xwB ?_ ?_); focus exact xaC) | ((with_reducible refine xwC ?_ ?_); focus exact xaC) | ((with_reducible refine xwD ?_ ?_); focus exact xaC) | ((with_reducible refine xwE ?_ ?_); focus exact xaC) | (with_reducible intro hc; (try simp only [capsP, and_true] at hc); (try exact xfC)) | ((fail_if_success (with_reducible first | refine xgon ?_ | intro _)); (conv => whnf); (fail_if_success (fail_if_success (with_reducible first | refine xstp ?_ | refine Both.mk ?_ ?_ | refine xgon ?_ | intro _)))))
      · rename_i b hb2
        have hk2 : (M.getD b default).2.1 = (l.getD i default).tp := by rw [e2] at hc; exact mkS_inj.1 (Key.s.inj hc)
        obtain rfl : b = a := by
          rcases (by omega : a < b ∨ b < a ∨ b = a) with h | h | h
          · exact absurd (hk.trans hk2.symm) (hM.ne a b h hb2)
          · exact absurd (hk2.trans hk.symm) (hM.ne b a h ha)
          · exact h
        have hM' := hM.up (r := l.getD i default) ha hk
        rw [← hts] at hM'
        refine ⟨⟨(i + 1, ck, M.set b ((M.getD b default).1, (l.getD i default).tp, (M.getD b default).2.2 + 1)), by omega, hM'⟩, [0, 1, 2, 3], by simp only; omega, ?_⟩
        rw [e2]
        (repeat' first | refine And.intro ?_ ?_ | exact xeC | fail)
        all_goals first
          | exact List.length_set.symm
          | exact mpSet ha
      · exact absurd hk (fun h => hc a ha (by rw [e2, h]))
    · rename_i a ha
      rename (∀ i_1, _ → _ ≠ _) => hno
      exact absurd hc (hno a ha)
    · have hlt : i < l.length := by omega
      have hts := take_snocG l hlt
      have e2 : 0 + ((i : Nat) : Int).toNat = i := by omega
      have hM' := hM.new (r := l.getD i default) (fun a ha h => hc a ha (by rw [e2, h]))
      rw [← hts] at hM'
      refine ⟨⟨(i + 1, ck + 1, M ++ [(ck, (l.getD i default).tp, 1)]), by omega, hM'⟩, [0, 1, 2, 3], by simp only; omega, ?_⟩
      rw [e2]
      (repeat' first | refine And.intro ?_ ?_ | exact xeC | fail)
      all_goals first
        | exact mpNew
        | (simp; done)
    · obtain rfl : i = l.length := by omega
      rw [List.take_length] at hM
      refine LoopK.mk' {p : List Nat × Nat // p.1.Nodup ∧ ∀ q ∈ p.1, q < M.length}
        (fun ⟨(Q, c1), _⟩ => ⟨[(4, .c (.p 1 0 0)), (5, .c (.p 2 0 0)), (6, .c (.mp 3 0)), (39, .c (.p 4 0 0))],
          [.one (rcR true l c), .one (.cells true [.i .i64 0, .i .i64 0, .i .i64 0, .nils, .nils]), .one (.cells true [.i .i64 off, .i .i64 (l.getD 0 default).at_, .i .i64 (l.getD (l.length - 1) default).at_, .sl 5 0 1 0 (Q.map fun q => (M.getD q default).2.1).length c1, .nils]), .one (mpR ck M), .one (.iter 3 0 ck (Q.map fun q => (M.getD q default).1)), .one (stR true (Q.map fun q => (M.getD q default).2.1) c1)]⟩) (fun p => M.length - p.1.1.length)
        ⟨⟨([], 0), by simp, by simp⟩, [0, 1, 2, 3, 4, 99], ?_⟩ ?_
      · (repeat' first | refine And.intro ?_ ?_ | exact xeC | fail)
        all_goals (intro i hi; exact absurd hi (Nat.not_lt_zero i))
      rintro ⟨⟨Q, c1⟩, hQ, hQl⟩
      simp only at hQ hQl
      have hQn := nodup_leN _ _ hQ hQl
      have hlm : (Q.map fun q => (M.getD q default).2.1).length = Q.length := List.length_map _
      repeat' (first | (fail_if_success (with_reducible refine xstp ?_)); first | ((with_reducible refine And.intro (fun (hb : _ = true) => ?_) (fun (hb : _ = false) => ?_)) <;> replace hb := xnC hb <;> (try first | exact xfC | exact bff hb (by assumption) | exact bff (by assumption) hb)) | (with_reducible refine Both.mk ?_ ?_) | ((with_reducible refine And.intro ?_ ?_); focus exact xoC) | ((with_reducible refine Or.inl ⟨?_, ?_, ?_⟩); (focus rfl); focus exact xaC) | ((with_reducible refine xwB ?_ ?_); focus exact xaC) | ((with_reducible refine xwC ?_ ?_); focus exact xaC) | ((with_reducible refine xwD ?_ ?_); focus exact xaC) | ((with_reducible refine xwE ?_ ?_); focus exact xaC) | (with_reducible intro hc; (try simp only [capsP, and_true] at hc); (try exact xfC)) | ((fail_if_success (with_reducible first | refine xgon ?_ | intro _)); (conv => whnf); (fail_if_success (fail_if_success (with_reducible first | refine xstp ?_ | refine Both.mk ?_ ?_ | refine xgon ?_ | intro _)))))
      · rename_i i hi2
        have hiQ : i ∉ Q := fun h => hc (List.mem_map.2 ⟨i, h, rfl⟩)
        have hQ' : (Q ++ [i]).Nodup := List.nodup_append.2 ⟨hQ, by simp, fun a ha b hb e => hiQ (by rw [List.mem_singleton.1 hb] at e; exact e ▸ ha)⟩
        have hQl' : ∀ q ∈ Q ++ [i], q < M.length := fun q hq => by
          rcases List.mem_append.1 hq with hq | hq
          · exact hQl q hq
          · rw [List.mem_singleton.1 hq]; exact hi2
        have hQn' := nodup_leN _ _ hQ' hQl'
        rw [List.length_append, List.length_singleton] at hQn'
        refine ⟨i, hi2, List.getLast?_concat, ?_⟩
        repeat' (first | (fail_if_success (with_reducible refine xstp ?_)); first | ((with_reducible refine And.intro (fun (hb : _ = true) => ?_) (fun (hb : _ = false) => ?_)) <;> replace hb := xnC hb <;> (try first | exact xfC | exact bff hb (by assumption) | exact bff (by assumption) hb)) | (with_reducible refine Both.mk ?_ ?_) | ((with_reducible refine And.intro ?_ ?_); focus exact xoC) | ((with_reducible refine Or.inl ⟨?_, ?_, ?_⟩); (focus rfl); focus exact xaC) | ((with_reducible refine xwB ?_ ?_); focus exact xaC) | ((with_reducible refine xwC ?_ ?_); focus exact xaC) | ((with_reducible refine xwD ?_ ?_); focus exact xaC) | ((with_reducible refine xwE ?_ ?_); focus exact xaC) | (with_reducible intro hc; (try simp only [capsP, and_true] at hc); (try exact xfC)) | ((fail_if_success (with_reducible first | refine xgon ?_ | intro _)); (conv => whnf); (fail_if_success (fail_if_success (with_reducible first | refine xstp ?_ | refine Both.mk ?_ ?_ | refine xgon ?_ | intro _)))))
        rename_i c2
        refine ⟨⟨(Q ++ [i], c2), hQ', hQl'⟩, [0, 1, 2, 3, 4, 7], by simp only [List.length_append, List.length_singleton]; omega, ?_⟩
        have hlm2 : ((Q ++ [i]).map fun q => (M.getD q default).2.1).length = Q.length + 1 := by rw [List.length_map, List.length_append, List.length_singleton]
        (repeat' first | refine And.intro ?_ ?_ | exact xeC | fail)
        all_goals first
          | omega
          | (rw [List.map_append]; rfl)
          | (intro j hj
             rw [List.map_append] at hj ⊢
             exact app_rowG encSt (Q.map fun q => (M.getD q default).2.1) (M.getD i default).2.1 _ rfl j hj)
      · have hall : ∀ i, i < M.length → i ∈ Q := fun i hi => by
          obtain ⟨q, hq, e⟩ := List.mem_map.1 (hc i hi)
          have hq2 := hQl q hq
          rcases (by omega : i < q ∨ q < i ∨ i = q) with h | h | h
          · exact absurd e.symm (hM.st i q h hq2)
          · exact absurd e (hM.st q i h hi)
          · exact h ▸ hq
        have hnd : (Q.map fun q => (M.getD q default).2.1).Nodup := by
          rw [List.nodup_iff_pairwise_ne, List.pairwise_map]
          rw [List.nodup_iff_pairwise_ne] at hQ
          refine hQ.imp_of_mem ?_
          intro a b ha hb hab e
          have ha' := hQl a ha
          have hb' := hQl b hb
          rcases (by omega : a < b ∨ b < a) with h | h
          · exact hM.ne a b h hb' e
          · exact hM.ne b a h ha' e.symm
        have hsl : srtS (Q.map fun q => (M.getD q default).2.1) = tops l := by
          refine tops_of hM hnd fun t => ?_
          constructor
          · intro hx
            obtain ⟨q, hq, e⟩ := List.mem_map.1 hx
            exact ⟨q, hQl q hq, e⟩
          · rintro ⟨i, hi, e⟩
            exact List.mem_map.2 ⟨i, hall i hi, e⟩
        have htl : (Q.map fun q => (M.getD q default).2.1).length = (tops l).length := by rw [← hsl, srtS_len]
        refine xcal (σ := [.whole 5]) (nl := []) (cSortS (Q.map fun q => (M.getD q default).2.1) c1 (by rw [List.length_map]; omega)) ?_
        rintro v h' ⟨rfl, rfl⟩ hcaps
        rw [hsl, htl]
        refine xret ?_
        repeat' (first | (fail_if_success (with_reducible refine xstp ?_)); first | ((with_reducible refine And.intro (fun (hb : _ = true) => ?_) (fun (hb : _ = false) => ?_)) <;> replace hb := xnC hb <;> (try first | exact xfC | exact bff hb (by assumption) | exact bff (by assumption) hb)) | (with_reducible refine Both.mk ?_ ?_) | ((with_reducible refine And.intro ?_ ?_); focus exact xoC) | ((with_reducible refine Or.inl ⟨?_, ?_, ?_⟩); (focus rfl); focus exact xaC) | ((with_reducible refine xwB ?_ ?_); focus exact xaC) | ((with_reducible refine xwC ?_ ?_); focus exact xaC) | ((with_reducible refine xwD ?_ ?_); focus exact xaC) | ((with_reducible refine xwE ?_ ?_); focus exact xaC) | (with_reducible intro hc; (try simp only [capsP, and_true] at hc); (try exact xfC)) | ((fail_if_success (with_reducible first | refine xgon ?_ | intro _)); (conv => whnf); (fail_if_success (fail_if_success (with_reducible first | refine xstp ?_ | refine Both.mk ?_ ?_ | refine xgon ?_ | intro _)))))
        have htn := tops_len l
        have htal := tal_le l
        have hcn : (cnts l).length = (tal l).length := List.length_map _
        refine LoopK.mk' {p : Nat × Nat // p.1 ≤ (tops l).length}
          (fun ⟨(i, c2), _⟩ => ⟨[(4, .c (.p 1 0 0)), (5, .c (.p 2 0 0)), (6, .c (.mp 3 0)), (54, .c (.sl 4 0 1 0 (tops l).length c1)), (55, .c (.i .i64 ((tops l).length : Nat))), (56, .c (.i .i64 (i : Nat)))],
            [.one (rcR true l c), .one (.cells true [.i .i64 0, .i .i64 0, .i .i64 0, .nils, .nils]), .one (.cells true [.i .i64 off, .i .i64 (l.getD 0 default).at_, .i .i64 (l.getD (l.length - 1) default).at_, .sl 4 0 1 0 (tops l).length c1, .sl 5 0 1 0 ((cnts l).take i).length c2]), .one (mpR ck M), .one (stR true (tops l) c1), .one (ntR true ((cnts l).take i) c2)]⟩) (fun p => (tops l).length - p.1.1)
          ⟨⟨(0, 0), Nat.zero_le _⟩, [0, 1, 2, 3, 5, 99], ?_⟩ ?_
        · (repeat' first | refine And.intro ?_ ?_ | exact xeC | fail)
          all_goals first
            | exact htl
            | (intro i hi; exact absurd hi (Nat.not_lt_zero i))
            | skip
        rintro ⟨⟨i, c2⟩, hi3⟩
        simp only at hi3
        have hti : ((cnts l).take i).length = i := by rw [List.length_take]; omega
        repeat' (first | (fail_if_success (with_reducible refine xstp ?_)); first | ((with_reducible refine And.intro (fun (hb : _ = true) => ?_) (fun (hb : _ = false) => ?_)) <;> replace hb := xnC hb <;> (try first | exact xfC | exact bff hb (by assumption) | exact bff (by assumption) hb)) | (with_reducible refine Both.mk ?_ ?_) | ((with_reducible refine And.intro ?_ ?_); focus exact xoC) | ((with_reducible refine Or.inl ⟨?_, ?_, ?_⟩); (focus rfl); focus exact xaC) | ((with_reducible refine xwB ?_ ?_); focus exact xaC) | ((with_reducible refine xwC ?_ ?_); focus exact xaC) | ((with_reducible refine xwD ?_ ?_); focus exact xaC) | ((with_reducible refine xwE ?_ ?_); focus exact xaC) | (with_reducible intro hc; (try simp only [capsP, and_true] at hc); (try exact xfC)) | ((fail_if_success (with_reducible first | refine xgon ?_ | intro _)); (conv => whnf); (fail_if_success (fail_if_success (with_reducible first | refine xstp ?_ | refine Both.mk ?_ ?_ | refine xgon ?_ | intro _)))))
        · rename_i a ha hkk _ c3
          have hlt : i < (tops l).length := by omega
          have e2 : 0 + ((i : Nat) : Int).toNat = i := by omega
          rw [e2] at hkk
          have hk := mkS_inj.1 (Key.s.inj hkk)
          have hcv : (M.getD a default).2.2 = (cnts l).getD i default := by
            rw [hM.cn a ha, hk]
            have h1 := tal_at (l := l) (i := i) (by omega)
            have h2 : (cnts l).getD i default = ((tal l).getD i default).2 := by
              unfold cnts
              simp only [List.getD, List.getElem?_map, List.getElem?_eq_getElem (show i < (tal l).length by omega)]
              rfl
            rw [h2, h1]
          have hts := take_snocG (cnts l) (k := i) (by omega)
          refine ⟨⟨(i + 1, c3), by simp only; omega⟩, [0, 1, 2, 3, 4, 7], by simp only; omega, ?_⟩
          rw [hcv]
          simp only [hts]
          (repeat' first | refine And.intro ?_ ?_ | exact xeC | fail)
          all_goals first | omega | (simp only [List.length_append, List.length_singleton]; done) | (rw [List.length_append, List.length_singleton]; omega) | (intro i hi; (first | refine app_rowG _ _ _ _ ?_ i hi | refine app_row _ _ _ ?_ i hi); first | rfl | (simp only [Int.toNat_natCast, Nat.zero_add]; rfl))
        · exfalso
          have hm := tops_mem (l := l) (t := (tops l).getD i default) (by rw [getD_at (by omega)]; exact List.getElem_mem _)
          obtain ⟨a, ha, e⟩ := (hM.al _).1 hm
          rename (∀ i_1, _ → _ ≠ _) => hno
          exact hno a ha (by rw [e]; congr 3; omega)
        · obtain rfl : i = (tops l).length := by omega
          have hta : (cnts l).take (tops l).length = cnts l := List.take_of_length_le (by omega)
          rw [hta]
          refine FinK.mk ⟨[0, 4, 5], _, _, ⟨c1, c2, rfl, rfl⟩, ?_⟩
          (repeat' first | refine And.intro ?_ ?_ | exact xeC | fail)
          all_goals first
            | omega
            | skip)
theorem tlB_snoc (T : List Tl) (t : Tl) : tlB (T ++ [t]) = tlB T ++ (textL t.1 ++ venc t.2) := by simp [tlB]
theorem tlB_len : ∀ {T : List Tl}, (∀ t ∈ T, t.1.length ≤ 40) → (tlB T).length ≤ 60 * T.length
  | [], _ => by simp [tlB]
  | t :: T, h => by
    have h1 := textL_len t.1
    have h2 := h t (List.mem_cons_self ..)
    have h3 := venc_le t.2
    have h4 := tlB_len (T := T) fun q hq => h q (List.mem_cons_of_mem _ hq)
    simp only [tlB, List.flatMap_cons, List.length_append, List.length_cons] at h4 ⊢
    omega
theorem desB_len {off fi la : Nat} {T : List Tl} (h : ∀ t ∈ T, t.1.length ≤ 40) : (desB off fi la T).length ≤ 40 + 60 * T.length := by
  have h1 := venc_le off
  have h2 := venc_le fi
  have h3 := venc_le la
  have h4 := venc_le T.length
  have h5 := tlB_len h
  simp only [desB, List.length_append]
  omega
def desH (a b c d : Nat) : List UInt8 := venc a ++ venc b ++ venc c ++ venc d
theorem desH_len (a b c d : Nat) : (desH a b c d).length ≤ 40 := by
  have h1 := venc_le a
  have h2 := venc_le b
  have h3 := venc_le c
  have h4 := venc_le d
  simp only [desH, List.length_append]
  omega
set_option maxRecDepth 10000 in
set_option maxHeartbeats 4000000 in
theorem cdescribe (off fi la : Int) (U : List Tl) (w1 w2 : Bool) (c c2 : Nat) (h1 : 0 ≤ off ∧ off ≤ 9223372036854775807) (h2 : 0 ≤ fi ∧ fi ≤ 9223372036854775807) (h3 : 0 ≤ la ∧ la ≤ 9223372036854775807)
    (hT : U.length ≤ 100000) (ht : ∀ t ∈ U, t.1.length ≤ 40 ∧ t.2 ≤ 9223372036854775807) :
    Ctr Try.prog 71 [.a (enC off fi la 0 1 U.length c c2)] [.one (stR w1 (U.map Prod.fst) c), .one (ntR w2 (U.map Prod.snd) c2)]
      fun v h => v = .c (.s (mkS (desB off.toNat fi.toNat la.toNat U))) ∧ h = [.one (stR w1 (U.map Prod.fst) c), .one (ntR w2 (U.map Prod.snd) c2)] := by
  have hl1 : (U.map Prod.fst).length = U.length := List.length_map _
  have hl2 : (U.map Prod.snd).length = U.length := List.length_map _
  have z : ∀ l : List UInt8, (mkS l).size = l.length := fun _ => rfl
  have v1 := venc_le off.toNat
  have v2 := venc_le fi.toNat
  have v3 := venc_le la.toNat
  have v4 := venc_le U.length
  rw [← z] at v1 v2 v3 v4
  have z1 : (mkS (venc off.toNat ++ venc fi.toNat)).size = (mkS (venc off.toNat)).size + (mkS (venc fi.toNat)).size := by simp only [z, List.length_append]
  have z2 : (mkS (venc off.toNat ++ venc fi.toNat ++ venc la.toNat)).size = (mkS (venc off.toNat)).size + (mkS (venc fi.toNat)).size + (mkS (venc la.toNat)).size := by simp only [z, List.length_append]
  refine Ctr.mk' tbv mixed Try.func71 rfl rfl rfl (fun _ _ => by kernel_rfl) (by kernel_rfl) (by rfl) (by rfl) (by (repeat' first | refine And.intro ?_ ?_ | exact xeC | fail)) ?_
  repeat' (first | (fail_if_success (with_reducible refine xstp ?_)); first | ((with_reducible refine And.intro (fun (hb : _ = true) => ?_) (fun (hb : _ = false) => ?_)) <;> replace hb := xnC hb <;> (try first | exact xfC | exact bff hb (by assumption) | exact bff (by assumption) hb)) | (with_reducible refine Both.mk ?_ ?_) | ((with_reducible refine And.intro ?_ ?_); focus exact xoC) | ((with_reducible refine Or.inl ⟨?_, ?_, ?_⟩); (focus rfl); focus exact xaC) | ((with_reducible refine xwB ?_ ?_); focus exact xaC) | ((with_reducible refine xwC ?_ ?_); focus exact xaC) | ((with_reducible refine xwD ?_ ?_); focus exact xaC) | ((with_reducible refine xwE ?_ ?_); focus exact xaC) | (with_reducible intro hc; (try simp only [capsP, and_true] at hc); (try exact xfC)) | ((fail_if_success (with_reducible first | refine xgon ?_ | intro _)); (conv => whnf); (fail_if_success (fail_if_success (with_reducible first | refine xstp ?_ | refine Both.mk ?_ ?_ | refine xgon ?_ | intro _)))))
  refine xcal (σ := []) (nl := []) (cnumber off h1) ?_
  rintro v h' ⟨rfl, rfl⟩ hcaps
  refine xret ?_
  repeat' (first | (fail_if_success (with_reducible refine xstp ?_)); first | ((with_reducible refine And.intro (fun (hb : _ = true) => ?_) (fun (hb : _ = false) => ?_)) <;> replace hb := xnC hb <;> (try first | exact xfC | exact bff hb (by assumption) | exact bff (by assumption) hb)) | (with_reducible refine Both.mk ?_ ?_) | ((with_reducible refine And.intro ?_ ?_); focus exact xoC) | ((with_reducible refine Or.inl ⟨?_, ?_, ?_⟩); (focus rfl); focus exact xaC) | ((with_reducible refine xwB ?_ ?_); focus exact xaC) | ((with_reducible refine xwC ?_ ?_); focus exact xaC) | ((with_reducible refine xwD ?_ ?_); focus exact xaC) | ((with_reducible refine xwE ?_ ?_); focus exact xaC) | (with_reducible intro hc; (try simp only [capsP, and_true] at hc); (try exact xfC)) | ((fail_if_success (with_reducible first | refine xgon ?_ | intro _)); (conv => whnf); (fail_if_success (fail_if_success (with_reducible first | refine xstp ?_ | refine Both.mk ?_ ?_ | refine xgon ?_ | intro _)))))
  refine xcal (σ := []) (nl := []) (cnumber fi h2) ?_
  rintro v h' ⟨rfl, rfl⟩ hcaps
  refine xret ?_
  repeat' (first | (fail_if_success (with_reducible refine xstp ?_)); first | ((with_reducible refine And.intro (fun (hb : _ = true) => ?_) (fun (hb : _ = false) => ?_)) <;> replace hb := xnC hb <;> (try first | exact xfC | exact bff hb (by assumption) | exact bff (by assumption) hb)) | (with_reducible refine Both.mk ?_ ?_) | ((with_reducible refine And.intro ?_ ?_); focus exact xoC) | ((with_reducible refine Or.inl ⟨?_, ?_, ?_⟩); (focus rfl); focus exact xaC) | ((with_reducible refine xwB ?_ ?_); focus exact xaC) | ((with_reducible refine xwC ?_ ?_); focus exact xaC) | ((with_reducible refine xwD ?_ ?_); focus exact xaC) | ((with_reducible refine xwE ?_ ?_); focus exact xaC) | (with_reducible intro hc; (try simp only [capsP, and_true] at hc); (try exact xfC)) | ((fail_if_success (with_reducible first | refine xgon ?_ | intro _)); (conv => whnf); (fail_if_success (fail_if_success (with_reducible first | refine xstp ?_ | refine Both.mk ?_ ?_ | refine xgon ?_ | intro _)))))
  rw [mkS_append]
  refine xcal (σ := []) (nl := []) (cnumber la h3) ?_
  rintro v h' ⟨rfl, rfl⟩ hcaps
  refine xret ?_
  repeat' (first | (fail_if_success (with_reducible refine xstp ?_)); first | ((with_reducible refine And.intro (fun (hb : _ = true) => ?_) (fun (hb : _ = false) => ?_)) <;> replace hb := xnC hb <;> (try first | exact xfC | exact bff hb (by assumption) | exact bff (by assumption) hb)) | (with_reducible refine Both.mk ?_ ?_) | ((with_reducible refine And.intro ?_ ?_); focus exact xoC) | ((with_reducible refine Or.inl ⟨?_, ?_, ?_⟩); (focus rfl); focus exact xaC) | ((with_reducible refine xwB ?_ ?_); focus exact xaC) | ((with_reducible refine xwC ?_ ?_); focus exact xaC) | ((with_reducible refine xwD ?_ ?_); focus exact xaC) | ((with_reducible refine xwE ?_ ?_); focus exact xaC) | (with_reducible intro hc; (try simp only [capsP, and_true] at hc); (try exact xfC)) | ((fail_if_success (with_reducible first | refine xgon ?_ | intro _)); (conv => whnf); (fail_if_success (fail_if_success (with_reducible first | refine xstp ?_ | refine Both.mk ?_ ?_ | refine xgon ?_ | intro _)))))
  rw [mkS_append]
  refine xcal (σ := []) (nl := []) (cnumber (U.length : Nat) (by omega)) ?_
  rintro v h' ⟨rfl, rfl⟩ hcaps
  refine xret ?_
  repeat' (first | (fail_if_success (with_reducible refine xstp ?_)); first | ((with_reducible refine And.intro (fun (hb : _ = true) => ?_) (fun (hb : _ = false) => ?_)) <;> replace hb := xnC hb <;> (try first | exact xfC | exact bff hb (by assumption) | exact bff (by assumption) hb)) | (with_reducible refine Both.mk ?_ ?_) | ((with_reducible refine And.intro ?_ ?_); focus exact xoC) | ((with_reducible refine Or.inl ⟨?_, ?_, ?_⟩); (focus rfl); focus exact xaC) | ((with_reducible refine xwB ?_ ?_); focus exact xaC) | ((with_reducible refine xwC ?_ ?_); focus exact xaC) | ((with_reducible refine xwD ?_ ?_); focus exact xaC) | ((with_reducible refine xwE ?_ ?_); focus exact xaC) | (with_reducible intro hc; (try simp only [capsP, and_true] at hc); (try exact xfC)) | ((fail_if_success (with_reducible first | refine xgon ?_ | intro _)); (conv => whnf); (fail_if_success (fail_if_success (with_reducible first | refine xstp ?_ | refine Both.mk ?_ ?_ | refine xgon ?_ | intro _)))))
  rw [mkS_append]
  refine LoopK.mk' {i : Nat // i ≤ U.length}
    (fun ⟨i, _⟩ => ⟨[(1, .c (.p 2 0 0)), (3, .c (.s (mkS (desH off.toNat fi.toNat la.toNat U.length ++ tlB (U.take i))))), (23, .c (.sl 0 0 1 0 U.length c)), (24, .c (.i .i64 (U.length : Nat))), (25, .c (.i .i64 (i : Nat)))], [.one (stR w1 (U.map Prod.fst) c), .one (ntR w2 (U.map Prod.snd) c2), .one (.cells true (enC off fi la 0 1 U.length c c2))]⟩) (fun k => U.length - k.1)
    ⟨⟨0, Nat.zero_le _⟩, [0, 1, 2], ?_⟩ ?_
  · (repeat' first | refine And.intro ?_ ?_ | exact xeC | fail)
    rw [List.take_zero]
    simp [desH, tlB]
  rintro ⟨i, hi⟩
  have htk := tlB_len (T := U.take i) fun t h => (ht t (List.mem_of_mem_take h)).1
  rw [List.length_take] at htk
  have hdh := desH_len off.toNat fi.toNat la.toNat U.length
  have z3 : (mkS (desH off.toNat fi.toNat la.toNat U.length ++ tlB (U.take i))).size = (desH off.toNat fi.toNat la.toNat U.length).length + (tlB (U.take i)).length := by simp only [z, List.length_append]
  repeat' (first | (fail_if_success (with_reducible refine xstp ?_)); first | ((with_reducible refine And.intro (fun (hb : _ = true) => ?_) (fun (hb : _ = false) => ?_)) <;> replace hb := xnC hb <;> (try first | exact xfC | exact bff hb (by assumption) | exact bff (by assumption) hb)) | (with_reducible refine Both.mk ?_ ?_) | ((with_reducible refine And.intro ?_ ?_); focus exact xoC) | ((with_reducible refine Or.inl ⟨?_, ?_, ?_⟩); (focus rfl); focus exact xaC) | ((with_reducible refine xwB ?_ ?_); focus exact xaC) | ((with_reducible refine xwC ?_ ?_); focus exact xaC) | ((with_reducible refine xwD ?_ ?_); focus exact xaC) | ((with_reducible refine xwE ?_ ?_); focus exact xaC) | (with_reducible intro hc; (try simp only [capsP, and_true] at hc); (try exact xfC)) | ((fail_if_success (with_reducible first | refine xgon ?_ | intro _)); (conv => whnf); (fail_if_success (fail_if_success (with_reducible first | refine xstp ?_ | refine Both.mk ?_ ?_ | refine xgon ?_ | intro _)))))
  · have hlt : i < U.length := by omega
    have hts := take_snocG U hlt
    have hti := ht (U.getD i default) (by rw [getD_at hlt]; exact List.getElem_mem _)
    have e2 : 0 + ((i : Nat) : Int).toNat = i := by omega
    have m1 : (U.map Prod.fst).getD i default = (U.getD i default).1 := by simp only [List.getD, List.getElem?_map, List.getElem?_eq_getElem hlt]; rfl
    have m2 : (U.map Prod.snd).getD i default = (U.getD i default).2 := by simp only [List.getD, List.getElem?_map, List.getElem?_eq_getElem hlt]; rfl
    have w3 := textL_len (U.getD i default).1
    have w4 := venc_le (U.getD i default).2
    rw [← z] at w3 w4
    rw [e2, m1]
    refine xcal (σ := []) (nl := []) (cText (U.getD i default).1 (by omega)) ?_
    rintro v h' ⟨rfl, rfl⟩ hcaps
    refine xret ?_
    repeat' (first | (fail_if_success (with_reducible refine xstp ?_)); first | ((with_reducible refine And.intro (fun (hb : _ = true) => ?_) (fun (hb : _ = false) => ?_)) <;> replace hb := xnC hb <;> (try first | exact xfC | exact bff hb (by assumption) | exact bff (by assumption) hb)) | (with_reducible refine Both.mk ?_ ?_) | ((with_reducible refine And.intro ?_ ?_); focus exact xoC) | ((with_reducible refine Or.inl ⟨?_, ?_, ?_⟩); (focus rfl); focus exact xaC) | ((with_reducible refine xwB ?_ ?_); focus exact xaC) | ((with_reducible refine xwC ?_ ?_); focus exact xaC) | ((with_reducible refine xwD ?_ ?_); focus exact xaC) | ((with_reducible refine xwE ?_ ?_); focus exact xaC) | (with_reducible intro hc; (try simp only [capsP, and_true] at hc); (try exact xfC)) | ((fail_if_success (with_reducible first | refine xgon ?_ | intro _)); (conv => whnf); (fail_if_success (fail_if_success (with_reducible first | refine xstp ?_ | refine Both.mk ?_ ?_ | refine xgon ?_ | intro _)))))
    rw [m2]
    refine xcal (σ := []) (nl := []) (cnumber ((U.getD i default).2 : Nat) (by omega)) ?_
    rintro v h' ⟨rfl, rfl⟩ hcaps
    refine xret ?_
    repeat' (first | (fail_if_success (with_reducible refine xstp ?_)); first | ((with_reducible refine And.intro (fun (hb : _ = true) => ?_) (fun (hb : _ = false) => ?_)) <;> replace hb := xnC hb <;> (try first | exact xfC | exact bff hb (by assumption) | exact bff (by assumption) hb)) | (with_reducible refine Both.mk ?_ ?_) | ((with_reducible refine And.intro ?_ ?_); focus exact xoC) | ((with_reducible refine Or.inl ⟨?_, ?_, ?_⟩); (focus rfl); focus exact xaC) | ((with_reducible refine xwB ?_ ?_); focus exact xaC) | ((with_reducible refine xwC ?_ ?_); focus exact xaC) | ((with_reducible refine xwD ?_ ?_); focus exact xaC) | ((with_reducible refine xwE ?_ ?_); focus exact xaC) | (with_reducible intro hc; (try simp only [capsP, and_true] at hc); (try exact xfC)) | ((fail_if_success (with_reducible first | refine xgon ?_ | intro _)); (conv => whnf); (fail_if_success (fail_if_success (with_reducible first | refine xstp ?_ | refine Both.mk ?_ ?_ | refine xgon ?_ | intro _)))))
    rw [mkS_append]
    have z4 : (mkS (textL (U.getD i default).1 ++ venc (U.getD i default).2)).size = (mkS (textL (U.getD i default).1)).size + (mkS (venc (U.getD i default).2)).size := by simp only [z, List.length_append]
    repeat' (first | (fail_if_success (with_reducible refine xstp ?_)); first | ((with_reducible refine And.intro (fun (hb : _ = true) => ?_) (fun (hb : _ = false) => ?_)) <;> replace hb := xnC hb <;> (try first | exact xfC | exact bff hb (by assumption) | exact bff (by assumption) hb)) | (with_reducible refine Both.mk ?_ ?_) | ((with_reducible refine And.intro ?_ ?_); focus exact xoC) | ((with_reducible refine Or.inl ⟨?_, ?_, ?_⟩); (focus rfl); focus exact xaC) | ((with_reducible refine xwB ?_ ?_); focus exact xaC) | ((with_reducible refine xwC ?_ ?_); focus exact xaC) | ((with_reducible refine xwD ?_ ?_); focus exact xaC) | ((with_reducible refine xwE ?_ ?_); focus exact xaC) | (with_reducible intro hc; (try simp only [capsP, and_true] at hc); (try exact xfC)) | ((fail_if_success (with_reducible first | refine xgon ?_ | intro _)); (conv => whnf); (fail_if_success (fail_if_success (with_reducible first | refine xstp ?_ | refine Both.mk ?_ ?_ | refine xgon ?_ | intro _)))))
    rw [mkS_append]
    refine ⟨⟨i + 1, by omega⟩, [0, 1, 2], by simp only; omega, ?_⟩
    (repeat' first | refine And.intro ?_ ?_ | exact xeC | fail)
    rw [hts, tlB_snoc, List.append_assoc]
  · obtain rfl : i = U.length := by omega
    rw [List.take_length]
    refine FinK.mk ⟨[0, 1], _, _, ⟨rfl, rfl⟩, ?_⟩
    (repeat' first | refine And.intro ?_ ?_ | exact xeC | fail)
end Go.Proofs.Ytkjkbpnhocjenaa


namespace Go.Proofs.Ytkjkbpnhocjenaa
open Go.X
set_option linter.unusedSimpArgs false
set_option linter.unusedVariables false
open P4
open P5
def encTl (t : Tl) : List C := [.s (mkS t.1), .i .i64 (t.2 : Nat)]
abbrev tlR (w : Bool) (l : List Tl) (c : Nat) : Ck := .row w false 105 2 l.length c (rowOf encTl l)
/-- What add has put out when i tallies are seen, and whether the new one is among it. -/
def talS (t : List UInt8) (n : Nat) : List Tl → Bool → List Tl × Bool
  | [], d => ([], d)
  | (u, m) :: l, d => if d = false ∧ ¬ u < t then (if t = u then ((u, m + n) :: (talS t n l true).1, (talS t n l true).2) else ((t, n) :: (u, m) :: (talS t n l true).1, (talS t n l true).2)) else ((u, m) :: (talS t n l d).1, (talS t n l d).2)
theorem talS_true (t : List UInt8) (n : Nat) : ∀ U, talS t n U true = (U, true)
  | [] => rfl
  | (u, m) :: U => by
    unfold talS
    rw [if_neg (by simp), talS_true t n U]
theorem talS_lt {t : List UInt8} {n : Nat} {u : List UInt8} {m : Nat} {U : List Tl} (h : u < t) (d : Bool) : talS t n ((u, m) :: U) d = ((u, m) :: (talS t n U d).1, (talS t n U d).2) := by
  conv => lhs; unfold talS
  rw [if_neg (fun q => q.2 h)]
theorem talS_eq {t : List UInt8} {n : Nat} {m : Nat} {U : List Tl} : talS t n ((t, m) :: U) false = ((t, m + n) :: U, true) := by
  conv => lhs; unfold talS
  rw [if_pos ⟨rfl, lt_irr _⟩, if_pos rfl, talS_true]
theorem talS_gt {t : List UInt8} {n : Nat} {u : List UInt8} {m : Nat} {U : List Tl} (h : t < u) : talS t n ((u, m) :: U) false = ((t, n) :: (u, m) :: U, true) := by
  conv => lhs; unfold talS
  rw [if_pos ⟨rfl, fun q => lt_irr _ (lt_tr q h)⟩, if_neg (fun q => by subst q; exact lt_irr _ h), talS_true]
theorem talS_A (t : List UInt8) (n : Nat) : ∀ U, (if (talS t n U false).2 = true then (talS t n U false).1 else (talS t n U false).1 ++ [(t, n)]) = talA U t n
  | [] => rfl
  | (u, m) :: U => by
    have ih := talS_A t n U
    rcases lt_tri t u with h | h | h
    · rw [talS_gt h, talA, if_pos h, if_pos rfl]
    · subst h
      rw [talS_eq, talA, if_neg (lt_irr _), if_pos rfl, if_pos rfl]
    · have hA : talA ((u, m) :: U) t n = (u, m) :: talA U t n := by
        conv => lhs; unfold talA
        rw [if_neg (fun q => lt_irr _ (lt_tr h q)), if_neg (fun q => by subst q; exact lt_irr _ h)]
      rw [talS_lt h, hA, ← ih]
      simp only
      by_cases hq : (talS t n U false).2 = true
      · rw [if_pos hq, if_pos hq]
      · rw [if_neg hq, if_neg hq]; rfl
/-- The same, from the front. -/
def talF (t : List UInt8) (n : Nat) (U : List Tl) : List Tl × Bool := U.foldl (fun a p => if a.2 = false ∧ ¬ p.1 < t then (if t = p.1 then (a.1 ++ [(p.1, p.2 + n)], true) else (a.1 ++ [(t, n)] ++ [p], true)) else (a.1 ++ [p], a.2)) ([], false)
theorem talF_go (t : List UInt8) (n : Nat) : ∀ (U : List Tl) (a : List Tl × Bool), U.foldl (fun a p => if a.2 = false ∧ ¬ p.1 < t then (if t = p.1 then (a.1 ++ [(p.1, p.2 + n)], true) else (a.1 ++ [(t, n)] ++ [p], true)) else (a.1 ++ [p], a.2)) a = (a.1 ++ (talS t n U a.2).1, (talS t n U a.2).2)
  | [], a => by simp [talS]
  | (u, m) :: U, a => by
    rw [List.foldl_cons, talF_go t n U]
    conv => rhs; unfold talS
    by_cases h : a.2 = false ∧ ¬ u < t
    · rw [if_pos h, if_pos h]
      by_cases h3 : t = u
      · rw [if_pos h3, if_pos h3]; simp
      · rw [if_neg h3, if_neg h3]; simp
    · rw [if_neg h, if_neg h]; simp
theorem talF_eq (t : List UInt8) (n : Nat) (U : List Tl) : talF t n U = talS t n U false := by
  unfold talF
  rw [talF_go]
  simp
theorem talF_snoc (t : List UInt8) (n : Nat) (U : List Tl) (p : Tl) : talF t n (U ++ [p]) = (if (talF t n U).2 = false ∧ ¬ p.1 < t then (if t = p.1 then ((talF t n U).1 ++ [(p.1, p.2 + n)], true) else ((talF t n U).1 ++ [(t, n)] ++ [p], true)) else ((talF t n U).1 ++ [p], (talF t n U).2)) := by
  unfold talF
  rw [List.foldl_append]
  rfl
theorem talF_len (t : List UInt8) (n : Nat) (U : List Tl) : (talF t n U).1.length ≤ U.length + 1 := by
  have h := talS_A t n U
  rw [← talF_eq] at h
  have hA : ∀ (U : List Tl), (talA U t n).length ≤ U.length + 1 := by
    intro U
    induction U with
    | nil => simp [talA]
    | cons a U ih =>
      obtain ⟨u, m⟩ := a
      unfold talA
      split
      · simp
      · split
        · simp
        · simp only [List.length_cons]; omega
  have := hA U
  rw [← h] at this
  split at this
  · exact this
  · simp at this; omega
theorem tal_cnt {l : List Rc} {p : Tl} (hp : p ∈ tal l) : p.2 ≤ l.length := by
  have h1 := getT_at (srt_nodup (tal_inv l).1) hp
  have h2 := (tal_inv l).2.2 p.1
  have h3 := cntL_le l p.1
  omega
theorem app_row2 {α : Type} [Inhabited α] (enc : α → List C) (m : List α) (x y : α) (g g2 : Nat → List C) (hg : g 0 = enc x) (hg2 : g2 0 = enc y) (i : Nat) (hi : i < (m ++ [x] ++ [y]).length) :
    appF (m.length + 1) (appF m.length (rowOf enc m) 0 g) 0 g2 i = rowOf enc (m ++ [x] ++ [y]) i := by
  have h1 := app_rowG enc (m ++ [x]) y g2 hg2 i hi
  rw [← h1]
  unfold appF
  rw [List.length_append, List.length_singleton]
  by_cases h : i < m.length + 1
  · rw [if_pos h, if_pos h]
    exact app_rowG enc m x g hg i (by simpa using h)
  · rw [if_neg h, if_neg h]
theorem leT_iff {t u : List UInt8} : (Op.bytesLess (mkS t).toList (mkS u).toList = true ∨ mkS t = mkS u) ↔ ¬ u < t := by
  have e1 : (mkS t).toList = t := ByteArray.toList_eq _
  have e2 : (mkS u).toList = u := ByteArray.toList_eq _
  rw [e1, e2, bless]
  constructor
  · intro h
    rcases h with h | h
    · exact fun q => lt_irr _ (lt_tr (of_decide_eq_true h) q)
    · rw [mkS_inj] at h; subst h; exact lt_irr _
  · intro h
    rcases lt_tri t u with q | q | q
    · exact .inl (decide_eq_true q)
    · exact .inr (by rw [q])
    · exact absurd q h
theorem gtT_of {t u : List UInt8} (h : Op.bytesLess (mkS t).toList (mkS u).toList = false ∧ ¬ mkS t = mkS u) : u < t := by
  by_cases q : u < t
  · exact q
  · rcases leT_iff.2 q with h1 | h1
    · rw [h.1] at h1; cases h1
    · exact absurd h1 h.2
set_option maxRecDepth 10000 in
set_option maxHeartbeats 4000000 in
theorem cadd (U : List Tl) (w : Bool) (c : Nat) (t : List UInt8) (n : Nat) (hU : U.length ≤ 1000000) (hn : n ≤ 1000000000000000) (hm : ∀ p ∈ U, p.2 ≤ 1000000000000000) :
    Ctr Try.prog 85 [.c (.sl 0 0 2 0 U.length c), .c (.s (mkS t)), .c (.i .i64 (n : Nat))] [.one (tlR w U c)]
      fun v h => ∃ c1, v = .c (.sl 1 0 2 0 (talA U t n).length c1) ∧ h = [.one (tlR w U c), .one (tlR true (talA U t n) c1)] := by
  refine Ctr.mk' tbv mixed Try.func85 rfl rfl rfl (fun _ _ => by kernel_rfl) (by kernel_rfl) (by rfl) (by rfl) (by (repeat' first | refine And.intro ?_ ?_ | exact xeC | fail)) ?_
  repeat' (first | (fail_if_success (with_reducible refine xstp ?_)); first | ((with_reducible refine And.intro (fun (hb : _ = true) => ?_) (fun (hb : _ = false) => ?_)) <;> replace hb := xnC hb <;> (try first | exact xfC | exact bff hb (by assumption) | exact bff (by assumption) hb)) | (with_reducible refine Both.mk ?_ ?_) | ((with_reducible refine And.intro ?_ ?_); focus exact xoC) | ((with_reducible refine Or.inl ⟨?_, ?_, ?_⟩); (focus rfl); focus exact xaC) | ((with_reducible refine xwB ?_ ?_); focus exact xaC) | ((with_reducible refine xwC ?_ ?_); focus exact xaC) | ((with_reducible refine xwD ?_ ?_); focus exact xaC) | ((with_reducible refine xwE ?_ ?_); focus exact xaC) | (with_reducible intro hc; (try simp only [capsP, and_true] at hc); (try exact xfC)) | ((fail_if_success (with_reducible first | refine xgon ?_ | intro _)); (conv => whnf); (fail_if_success (fail_if_success (with_reducible first | refine xstp ?_ | refine Both.mk ?_ ?_ | refine xgon ?_ | intro _)))))
  refine LoopK.mk' {p : Nat × Nat // p.1 ≤ U.length}
    (fun ⟨(i, c1), _⟩ => ⟨[(0, .c (.sl 0 0 2 0 U.length c)), (1, .c (.s (mkS t))), (2, .c (.i .i64 (n : Nat))), (7, .c (.sl 1 0 2 0 (talF t n (U.take i)).1.length c1)), (8, .c (.b (talF t n (U.take i)).2)), (9, .c (.i .i64 (i : Nat)))], [.one (tlR w U c), .one (tlR true (talF t n (U.take i)).1 c1)]⟩) (fun k => U.length - k.1.1)
    ⟨⟨(0, 0), Nat.zero_le _⟩, [0, 99], ?_⟩ ?_
  · (repeat' first | refine And.intro ?_ ?_ | exact xeC | fail)
    all_goals first
      | (intro i hi; exact absurd hi (Nat.not_lt_zero i))
      | skip
  rintro ⟨⟨i, c1⟩, hi⟩
  simp only at hi
  have hfl := talF_len t n (U.take i)
  rw [List.length_take] at hfl
  have hmi : i < U.length → (U.getD i default).2 ≤ 1000000000000000 := fun h => hm _ (by rw [getD_at h]; exact List.getElem_mem _)
  have e2 : 0 + ((i : Nat) : Int).toNat = i := by omega
  rcases Nat.lt_or_ge i U.length with hlt | hge
  · have hmi := hmi hlt
    have hsn := talF_snoc t n (U.take i) (U.getD i default)
    rw [← take_snocG U hlt] at hsn
    rw [← e2] at hmi
    repeat' (first | (fail_if_success (with_reducible refine xstp ?_)); first | ((with_reducible refine And.intro (fun (hb : _ = true) => ?_) (fun (hb : _ = false) => ?_)) <;> replace hb := xnC hb <;> (try first | exact xfC | exact bff hb (by assumption) | exact bff (by assumption) hb)) | (with_reducible refine Both.mk ?_ ?_) | ((with_reducible refine And.intro ?_ ?_); focus exact xoC) | ((with_reducible refine Or.inl ⟨?_, ?_, ?_⟩); (focus rfl); focus exact xaC) | ((with_reducible refine xwB ?_ ?_); focus exact xaC) | ((with_reducible refine xwC ?_ ?_); focus exact xaC) | ((with_reducible refine xwD ?_ ?_); focus exact xaC) | ((with_reducible refine xwE ?_ ?_); focus exact xaC) | (with_reducible intro hc; (try simp only [capsP, and_true] at hc); (try exact xfC)) | ((fail_if_success (with_reducible first | refine xgon ?_ | intro _)); (conv => whnf); (fail_if_success (fail_if_success (with_reducible first | refine xstp ?_ | refine Both.mk ?_ ?_ | refine xgon ?_ | intro _)))))
    · rename_i hle _ c2
      have ht := mkS_inj.1 hb
      rw [if_pos ⟨by assumption, leT_iff.1 hle⟩, if_pos ht, ← ht] at hsn
      refine ⟨⟨(i + 1, c2), hlt⟩, [0, 3], by simp only; omega, ?_⟩
      simp only [hsn]
      rw [e2]
      (repeat' first | refine And.intro ?_ ?_ | exact xeC | fail)
      all_goals first | omega | (simp only [List.length_append, List.length_singleton]; done) | (rw [List.length_append, List.length_singleton]; omega) | (intro i hi; (first | refine app_rowG _ _ _ _ ?_ i hi | refine app_row _ _ _ ?_ i hi); first | rfl | (simp only [Int.toNat_natCast, Nat.zero_add]; rfl))
    · rename_i hle _ _ _ _ c2
      have ht := fun q => hb (mkS_inj.2 q)
      rw [if_pos ⟨by assumption, leT_iff.1 hle⟩, if_neg ht] at hsn
      refine ⟨⟨(i + 1, c2), hlt⟩, [0, 5], by simp only; omega, ?_⟩
      simp only [hsn]
      rw [e2]
      (repeat' first | refine And.intro ?_ ?_ | exact xeC | fail)
      all_goals first
        | (simp; done)
        | exact app_row2 encTl _ _ _ _ _ rfl rfl
    · rename_i c2
      rw [if_neg (fun q => q.2 (gtT_of hb))] at hsn
      refine ⟨⟨(i + 1, c2), hlt⟩, [0, 3], by simp only; omega, ?_⟩
      simp only [hsn]
      rw [e2]
      (repeat' first | refine And.intro ?_ ?_ | exact xeC | fail)
      all_goals first | omega | (simp only [List.length_append, List.length_singleton]; done) | (rw [List.length_append, List.length_singleton]; omega) | (intro i hi; (first | refine app_rowG _ _ _ _ ?_ i hi | refine app_row _ _ _ ?_ i hi); first | rfl | (simp only [Int.toNat_natCast, Nat.zero_add]; rfl))
    · rename_i c2
      rw [if_neg (fun q => by rw [hb] at q; cases q.1)] at hsn
      refine ⟨⟨(i + 1, c2), hlt⟩, [0, 3], by simp only; omega, ?_⟩
      simp only [hsn]
      rw [e2]
      (repeat' first | refine And.intro ?_ ?_ | exact xeC | fail)
      all_goals first | omega | (simp only [List.length_append, List.length_singleton]; done) | (rw [List.length_append, List.length_singleton]; omega) | (intro i hi; (first | refine app_rowG _ _ _ _ ?_ i hi | refine app_row _ _ _ ?_ i hi); first | rfl | (simp only [Int.toNat_natCast, Nat.zero_add]; rfl))
  · obtain rfl : i = U.length := by omega
    have hA := talS_A t n U
    rw [← talF_eq] at hA
    have et : U.take U.length = U := List.take_length
    repeat' (first | (fail_if_success (with_reducible refine xstp ?_)); first | ((with_reducible refine And.intro (fun (hb : _ = true) => ?_) (fun (hb : _ = false) => ?_)) <;> replace hb := xnC hb <;> (try first | exact xfC | exact bff hb (by assumption) | exact bff (by assumption) hb)) | (with_reducible refine Both.mk ?_ ?_) | ((with_reducible refine And.intro ?_ ?_); focus exact xoC) | ((with_reducible refine Or.inl ⟨?_, ?_, ?_⟩); (focus rfl); focus exact xaC) | ((with_reducible refine xwB ?_ ?_); focus exact xaC) | ((with_reducible refine xwC ?_ ?_); focus exact xaC) | ((with_reducible refine xwD ?_ ?_); focus exact xaC) | ((with_reducible refine xwE ?_ ?_); focus exact xaC) | (with_reducible intro hc; (try simp only [capsP, and_true] at hc); (try exact xfC)) | ((fail_if_success (with_reducible first | refine xgon ?_ | intro _)); (conv => whnf); (fail_if_success (fail_if_success (with_reducible first | refine xstp ?_ | refine Both.mk ?_ ?_ | refine xgon ?_ | intro _)))))
    · rename_i c2
      rw [et] at hb ⊢
      rw [if_neg (by rw [hb]; simp)] at hA
      rw [← hA]
      refine FinK.mk ⟨[0, 3], _, _, ⟨c2, rfl, rfl⟩, ?_⟩
      (repeat' first | refine And.intro ?_ ?_ | exact xeC | fail)
      all_goals first | omega | (simp only [List.length_append, List.length_singleton]; done) | (rw [List.length_append, List.length_singleton]; omega) | (intro i hi; (first | refine app_rowG _ _ _ _ ?_ i hi | refine app_row _ _ _ ?_ i hi); first | rfl | (simp only [Int.toNat_natCast, Nat.zero_add]; rfl))
    · rw [et] at hb ⊢
      rw [if_pos hb] at hA
      rw [← hA]
      refine FinK.mk ⟨[0, 1], _, _, ⟨c1, rfl, rfl⟩, ?_⟩
      (repeat' first | refine And.intro ?_ ?_ | exact xeC | fail)
theorem rH41bF0 {σ : List Sg} {H h' : List Fam} {v : T} {K : T → List Fam → Prop} {H' : List Fam} {v' : T} {N : Nat} (hk : K v' H') (hN : H.length = N := by (try simp only [↓List.length_cons, ↓List.length_nil, Nat.reduceAdd]) <;> rfl) (h : givesF σ N H σ h' = some H' := by (try simp (maxSteps := 1000000) only [givesF, setF, updF, Fam.zeroth, Fam.rk, Ck.rk, C.rk, E.rk, T.rk, key, List.map_cons, List.map_nil, List.cons_append, List.nil_append, List.length_cons, List.length_nil, Option.map_some, Option.bind_some, Nat.reduceAdd, Nat.zero_add, Nat.add_zero, Nat.add_sub_cancel_left, Int.toNat_natCast, reps, List.all_cons, List.all_nil, C.flat, List.append_eq, Bool.not_true, Bool.and_true, Bool.or_false, Bool.or_self, Bool.not_false, List.append_nil, Bool.and_self, encR]) <;> rfl) (hv : v.rk σ N = v' := by (try simp only [givesF, setF, updF, Fam.zeroth, Fam.rk, Ck.rk, C.rk, E.rk, T.rk, key, List.map_cons, List.map_nil, List.cons_append, List.nil_append, List.length_cons, List.length_nil, Option.map_some, Option.bind_some, Nat.reduceAdd, Nat.zero_add, Nat.add_zero, Nat.add_sub_cancel_left, Int.toNat_natCast, reps, List.all_cons, List.all_nil, C.flat, List.append_eq, Bool.not_true, Bool.and_true, Bool.or_false, Bool.or_self, Bool.not_false, List.append_nil, Bool.and_self, encR]) <;> rfl) : RetG σ H h' v K := ret_mk3 hN h hv hk
set_option maxRecDepth 10000 in
set_option maxHeartbeats 4000000 in
theorem ctallies (wa : Bool) (l : List Rc) (c : Nat) (hl : l.length ≤ 100000) :
    Ctr Try.prog 74 [.c (.sl 0 0 3 0 l.length c)] [.one (rcR wa l c)]
      fun v h => ∃ c1, v = .c (.sl 1 0 2 0 (tal l).length c1) ∧ h = [.one (rcR wa l c), .one (tlR true (tal l) c1)] := by
  refine Ctr.mk' tbv mixed Try.func74 rfl rfl rfl (fun _ _ => by kernel_rfl) (by kernel_rfl) (by rfl) (by rfl) (by (repeat' first | refine And.intro ?_ ?_ | exact xeC | fail)) ?_
  repeat' (first | (fail_if_success (with_reducible refine xstp ?_)); first | ((with_reducible refine And.intro (fun (hb : _ = true) => ?_) (fun (hb : _ = false) => ?_)) <;> replace hb := xnC hb <;> (try first | exact xfC | exact bff hb (by assumption) | exact bff (by assumption) hb)) | (with_reducible refine Both.mk ?_ ?_) | ((with_reducible refine And.intro ?_ ?_); focus exact xoC) | ((with_reducible refine Or.inl ⟨?_, ?_, ?_⟩); (focus rfl); focus exact xaC) | ((with_reducible refine xwB ?_ ?_); focus exact xaC) | ((with_reducible refine xwC ?_ ?_); focus exact xaC) | ((with_reducible refine xwD ?_ ?_); focus exact xaC) | ((with_reducible refine xwE ?_ ?_); focus exact xaC) | (with_reducible intro hc; (try simp only [capsP, and_true] at hc); (try exact xfC)) | ((fail_if_success (with_reducible first | refine xgon ?_ | intro _)); (conv => whnf); (fail_if_success (fail_if_success (with_reducible first | refine xstp ?_ | refine Both.mk ?_ ?_ | refine xgon ?_ | intro _)))))
  refine LoopK.mk' {p : Nat × Nat // p.1 ≤ l.length}
    (fun ⟨(i, c1), _⟩ => ⟨[(0, .c (.sl 0 0 3 0 l.length c)), (3, .c (.sl 1 0 2 0 (tal (l.take i)).length c1)), (4, .c (.i .i64 (i : Nat)))], [.one (rcR wa l c), .one (tlR true (tal (l.take i)) c1)]⟩) (fun k => l.length - k.1.1)
    ⟨⟨(0, 0), Nat.zero_le _⟩, [0, 99], ?_⟩ ?_
  · (repeat' first | refine And.intro ?_ ?_ | exact xeC | fail)
    all_goals first
      | (intro i hi; exact absurd hi (Nat.not_lt_zero i))
      | skip
  rintro ⟨⟨i, c1⟩, hi⟩
  simp only at hi
  have htl := tal_le (l.take i)
  rw [List.length_take] at htl
  repeat' (first | (fail_if_success (with_reducible refine xstp ?_)); first | ((with_reducible refine And.intro (fun (hb : _ = true) => ?_) (fun (hb : _ = false) => ?_)) <;> replace hb := xnC hb <;> (try first | exact xfC | exact bff hb (by assumption) | exact bff (by assumption) hb)) | (with_reducible refine Both.mk ?_ ?_) | ((with_reducible refine And.intro ?_ ?_); focus exact xoC) | ((with_reducible refine Or.inl ⟨?_, ?_, ?_⟩); (focus rfl); focus exact xaC) | ((with_reducible refine xwB ?_ ?_); focus exact xaC) | ((with_reducible refine xwC ?_ ?_); focus exact xaC) | ((with_reducible refine xwD ?_ ?_); focus exact xaC) | ((with_reducible refine xwE ?_ ?_); focus exact xaC) | (with_reducible intro hc; (try simp only [capsP, and_true] at hc); (try exact xfC)) | ((fail_if_success (with_reducible first | refine xgon ?_ | intro _)); (conv => whnf); (fail_if_success (fail_if_success (with_reducible first | refine xstp ?_ | refine Both.mk ?_ ?_ | refine xgon ?_ | intro _)))))
  · have hlt : i < l.length := by omega
    have e2 : 0 + ((i : Nat) : Int).toNat = i := by omega
    have hts : tal (l.take (i + 1)) = talA (tal (l.take i)) (l.getD i default).tp 1 := by rw [take_snocG l hlt, tal_snoc]
    rw [e2]
    refine xcal (σ := [.whole 1]) (nl := []) (cadd (tal (l.take i)) true c1 (l.getD i default).tp 1 (by omega) (by omega) (fun p hp => by have := tal_cnt hp; rw [List.length_take] at this; omega)) ?_
    rintro v h' ⟨c2, rfl, rfl⟩ hcaps
    refine rH41bF0 ?_
    repeat' (first | (fail_if_success (with_reducible refine xstp ?_)); first | ((with_reducible refine And.intro (fun (hb : _ = true) => ?_) (fun (hb : _ = false) => ?_)) <;> replace hb := xnC hb <;> (try first | exact xfC | exact bff hb (by assumption) | exact bff (by assumption) hb)) | (with_reducible refine Both.mk ?_ ?_) | ((with_reducible refine And.intro ?_ ?_); focus exact xoC) | ((with_reducible refine Or.inl ⟨?_, ?_, ?_⟩); (focus rfl); focus exact xaC) | ((with_reducible refine xwB ?_ ?_); focus exact xaC) | ((with_reducible refine xwC ?_ ?_); focus exact xaC) | ((with_reducible refine xwD ?_ ?_); focus exact xaC) | ((with_reducible refine xwE ?_ ?_); focus exact xaC) | (with_reducible intro hc; (try simp only [capsP, and_true] at hc); (try exact xfC)) | ((fail_if_success (with_reducible first | refine xgon ?_ | intro _)); (conv => whnf); (fail_if_success (fail_if_success (with_reducible first | refine xstp ?_ | refine Both.mk ?_ ?_ | refine xgon ?_ | intro _)))))
    refine ⟨⟨(i + 1, c2), hlt⟩, [0, 2], by simp only; omega, ?_⟩
    simp only [hts]
    (repeat' first | refine And.intro ?_ ?_ | exact xeC | fail)
  · obtain rfl : i = l.length := by omega
    rw [List.take_length]
    refine FinK.mk ⟨[0, 1], _, _, ⟨c1, rfl, rfl⟩, ?_⟩
    (repeat' first | refine And.intro ?_ ?_ | exact xeC | fail)
end Go.Proofs.Ytkjkbpnhocjenaa


namespace Go.Proofs.Ytkjkbpnhocjenaa
open Go.X
set_option linter.unusedSimpArgs false
set_option linter.unusedVariables false
open P4
open P5
theorem encCh_rk1 (a b : Nat) (r : List Sg) (N : Nat) (X : List Ch) (i : Nat) : List.map (C.rk (Sg.whole a :: Sg.whole b :: r) N) (encCh 1 X i) = encCh b X i := rfl
structure XOk (X : List Ch) : Prop where
  n : X.length ≤ 10000
  ch : ∀ x ∈ X, 0 < x.l.length ∧ x.l.length ≤ 50000 ∧ ∀ q ∈ x.l, okR q
theorem XOk.at {X : List Ch} (h : XOk X) {i : Nat} (hi : i < X.length) : 0 < (X.getD i default).l.length ∧ (X.getD i default).l.length ≤ 50000 ∧ ∀ q ∈ (X.getD i default).l, okR q := h.ch _ (by rw [getD_at hi]; exact List.getElem_mem _)
abbrev ls (X : List Ch) : List (List Rc) := X.map Ch.l
theorem sealL_len (l : List UInt8) : (sealL l).length = l.length + 4 := by simp [sealL, le_length]; omega
theorem secB_len {l : List Rc} (h : ∀ q ∈ l, okR q) : (secB l).length ≤ 24 + 4070 * l.length := by
  have h1 := conB_len h
  have h2 := textL_len (sealL (conB l))
  have h3 := sealL_len (conB l)
  unfold secB
  omega
theorem secsB_len {L : List (List Rc)} (h : ∀ x ∈ L, x.length ≤ 50000 ∧ ∀ q ∈ x, okR q) : (secsB L).length ≤ 203500024 * L.length := by
  induction L with
  | nil => simp [secsB]
  | cons x L ih =>
    have h1 := ih fun y hy => h y (List.mem_cons_of_mem _ hy)
    have h2 := h x (List.mem_cons_self ..)
    have h3 := secB_len h2.2
    simp only [secsB, List.flatMap_cons, List.length_append, List.length_cons] at h1 ⊢
    omega
theorem idxE_len {off : Nat} {x : List Rc} (h : x.length ≤ 50000 ∧ ∀ q ∈ x, okR q) : (idxE off x).length ≤ 3000040 := by
  have h1 := tal_le x
  have h2 := desB_len (off := off) (fi := (x.getD 0 default).at_.toNat) (la := (x.getD (x.length - 1) default).at_.toNat) (T := tal x) fun t ht => by
    obtain ⟨r, hr, e⟩ := List.mem_map.1 (((tal_inv x).2.1 t.1).1 (List.mem_map.2 ⟨t, ht, rfl⟩))
    rw [← e]; exact (h.2 r hr).1.1.2
  unfold idxE
  omega
theorem idxB_len {L : List (List Rc)} (h : ∀ x ∈ L, x.length ≤ 50000 ∧ ∀ q ∈ x, okR q) : ∀ off, (idxB off L).length ≤ 3000040 * L.length := by
  induction L with
  | nil => intro off; simp [idxB]
  | cons x L ih =>
    intro off
    have h1 := ih (fun y hy => h y (List.mem_cons_of_mem _ hy)) (off + (secB x).length)
    have h2 := idxE_len (off := off) (h x (List.mem_cons_self ..))
    simp only [idxB, List.length_append, List.length_cons]
    omega
theorem take_ok {X : List Ch} (h : XOk X) (i : Nat) : ∀ x ∈ (ls X).take i, x.length ≤ 50000 ∧ ∀ q ∈ x, okR q := by
  intro x hx
  obtain ⟨y, hy, rfl⟩ := List.mem_map.1 (List.mem_of_mem_take hx)
  exact (h.ch y hy).2
abbrev outB (L : List (List Rc)) : List UInt8 := magic ++ secsB L
abbrev inB (n : Nat) (L : List (List Rc)) : List UInt8 := venc 2 ++ venc n ++ idxB 5 L
theorem outB_len {L : List (List Rc)} (h : ∀ x ∈ L, x.length ≤ 50000 ∧ ∀ q ∈ x, okR q) : (outB L).length ≤ 5 + 203500024 * L.length := by
  have := secsB_len h
  simp only [outB, magic, List.length_append, List.length_cons, List.length_nil]; omega
theorem inB_len {n : Nat} {L : List (List Rc)} (h : ∀ x ∈ L, x.length ≤ 50000 ∧ ∀ q ∈ x, okR q) : (inB n L).length ≤ 20 + 3000040 * L.length := by
  have h1 := idxB_len h 5
  have h2 := venc_le 2
  have h3 := venc_le n
  simp only [inB, List.length_append]; omega
theorem outB_snoc (L : List (List Rc)) (x : List Rc) : outB (L ++ [x]) = outB L ++ secB x := by simp only [outB, secsB_snoc, List.append_assoc]
theorem inB_snoc (n : Nat) (L : List (List Rc)) (x : List Rc) : inB n (L ++ [x]) = inB n L ++ idxE (outB L).length x := by
  simp only [inB, idxB_snoc, List.append_assoc, outB, magic, List.length_append, List.length_cons, List.length_nil]
theorem getLs (X : List Ch) (i : Nat) : (ls X).getD i default = (X.getD i default).l := getMap X i
theorem byteY (n i : Nat) (hi : i < 8) : IntKind.u8.wrap ((n : Int).fdiv (2 ^ min (Int.toNat (8 * (i : Int))) IntKind.i64.bits)) = ((UInt8.ofNat (n / 256 ^ i % 256)).toNat : Int) := byteX n i hi
theorem rH41bG0 {σ : List Sg} {H h' : List Fam} {v : T} {K : T → List Fam → Prop} {H' : List Fam} {v' : T} {N : Nat} (hk : K v' H') (hN : H.length = N := by (try simp only [↓List.length_cons, ↓List.length_nil, Nat.reduceAdd]) <;> rfl) (h : givesF σ N H σ h' = some H' := by (try simp (maxSteps := 1000000) only [givesF, setF, updF, Fam.zeroth, Fam.rk, Ck.rk, C.rk, E.rk, T.rk, key, List.map_cons, List.map_nil, List.cons_append, List.nil_append, List.length_cons, List.length_nil, Option.map_some, Option.bind_some, Nat.reduceAdd, Nat.zero_add, Nat.add_zero, Nat.add_sub_cancel_left, Int.toNat_natCast, reps, List.all_cons, List.all_nil, C.flat, List.append_eq, Bool.not_true, Bool.and_true, Bool.or_false, Bool.or_self, Bool.not_false, List.append_nil, Bool.and_self, ↓chG_rk]) <;> rfl) (hv : v.rk σ N = v' := by (try simp only [givesF, setF, updF, Fam.zeroth, Fam.rk, Ck.rk, C.rk, E.rk, T.rk, key, List.map_cons, List.map_nil, List.cons_append, List.nil_append, List.length_cons, List.length_nil, Option.map_some, Option.bind_some, Nat.reduceAdd, Nat.zero_add, Nat.add_zero, Nat.add_sub_cancel_left, Int.toNat_natCast, reps, List.all_cons, List.all_nil, C.flat, List.append_eq, Bool.not_true, Bool.and_true, Bool.or_false, Bool.or_self, Bool.not_false, List.append_nil, Bool.and_self, ↓chG_rk]) <;> rfl) : RetG σ H h' v K := ret_mk3 hN h hv hk
theorem cH41bG2 {P : Program} {F : Nat} {args : List T} {H : List Fam} {K : T → List Fam → Prop} {σ : List Sg} {nl : List Fam} {args0 : List T} {h0 : List Fam} {Q : T → List Fam → Prop} {H2 H1 : List Fam} {N n : Nat} (hc : Ctr P F args0 h0 Q) (hk : ∀ v h', Q v h' → capsP h' → RetG σ H2 h' v K) (hap : apart σ = true := by rfl) (hnl : nl.all nilB = true := by rfl) (h1 : H ++ nl = H1 := by first | exact List.append_nil _ | ((try simp only [List.cons_append, List.nil_append]) <;> rfl)) (hN : H1.length = N := by (try simp only [↓List.length_cons, ↓List.length_nil, Nat.reduceAdd]) <;> rfl) (hn : H.length = n := by (try simp only [↓List.length_cons, ↓List.length_nil, Nat.reduceAdd]) <;> rfl) (hH : givesF σ N H1 σ h0 = some H2 := by (try simp (maxSteps := 1000000) only [givesF, setF, updF, Fam.zeroth, Fam.rk, Ck.rk, C.rk, E.rk, T.rk, key, List.map_cons, List.map_nil, List.cons_append, List.nil_append, List.length_cons, List.length_nil, Option.map_some, Option.bind_some, Nat.reduceAdd, Nat.zero_add, Nat.add_zero, Nat.add_sub_cancel_left, Int.toNat_natCast, reps, List.all_cons, List.all_nil, C.flat, List.append_eq, Bool.not_true, Bool.and_true, Bool.or_false, Bool.or_self, Bool.not_false, List.append_nil, Bool.and_self, ↓chG_rk]) <;> rfl) (hle : leS n H1 σ N σ h0 (belsK N (h0.map (Fam.rk σ N)) (argsK n args (args0.map (T.rk σ N)) True)) := by repeat' first | refine And.intro ?_ ?_ | exact xeC | fail) : CallK P F args H K := CallK.mk3 hc hap hnl h1 hN hn hH hle hk
set_option maxRecDepth 10000 in
set_option maxHeartbeats 8000000 in
theorem cassemble (X : List Ch) (c : Nat) (hX : XOk X) :
    Ctr Try.prog 43 [.c (.sl 0 0 2 0 X.length c)] [.one (chR 1 X c), .many (chG X)]
      fun v h => v = .c (.s (mkS (bagB (ls X)))) ∧ h = [.one (chR 1 X c), .many (chG X)] := by
  have hn := hX.n
  have z : ∀ l : List UInt8, (mkS l).size = l.length := fun _ => rfl
  have v1 := venc_le (Int.toNat 2)
  have v2 := venc_le X.length
  rw [← z] at v1 v2
  refine Ctr.mk' tbv mixed Try.func43 rfl rfl rfl (fun _ _ => by kernel_rfl) (by kernel_rfl) (by rfl) (by rfl) (by (repeat' first | refine And.intro ?_ ?_ | exact xeC | fail) <;> (exact xmC)) ?_
  repeat' (first | (fail_if_success (with_reducible refine xstp ?_)); first | ((with_reducible refine And.intro (fun (hb : _ = true) => ?_) (fun (hb : _ = false) => ?_)) <;> replace hb := xnC hb <;> (try first | exact xfC | exact bff hb (by assumption) | exact bff (by assumption) hb)) | (with_reducible refine Both.mk ?_ ?_) | ((with_reducible refine And.intro ?_ ?_); focus exact xoC) | ((with_reducible refine Or.inl ⟨?_, ?_, ?_⟩); (focus rfl); focus exact xaC) | ((with_reducible refine xwB ?_ ?_); focus exact xaC) | ((with_reducible refine xwC ?_ ?_); focus exact xaC) | ((with_reducible refine xwD ?_ ?_); focus exact xaC) | ((with_reducible refine xwE ?_ ?_); focus exact xaC) | (with_reducible intro hc; (try simp only [capsP, and_true] at hc); (try exact xfC)) | ((fail_if_success (with_reducible first | refine xgon ?_ | intro _)); (conv => whnf); (fail_if_success (fail_if_success (with_reducible first | refine xstp ?_ | refine Both.mk ?_ ?_ | refine xgon ?_ | intro _)))))
  refine cH41bG2 (σ := []) (nl := []) (cnumber 2 (by omega)) ?_
  rintro v h' ⟨rfl, rfl⟩ hcaps
  refine rH41bG0 ?_
  repeat' (first | (fail_if_success (with_reducible refine xstp ?_)); first | ((with_reducible refine And.intro (fun (hb : _ = true) => ?_) (fun (hb : _ = false) => ?_)) <;> replace hb := xnC hb <;> (try first | exact xfC | exact bff hb (by assumption) | exact bff (by assumption) hb)) | (with_reducible refine Both.mk ?_ ?_) | ((with_reducible refine And.intro ?_ ?_); focus exact xoC) | ((with_reducible refine Or.inl ⟨?_, ?_, ?_⟩); (focus rfl); focus exact xaC) | ((with_reducible refine xwB ?_ ?_); focus exact xaC) | ((with_reducible refine xwC ?_ ?_); focus exact xaC) | ((with_reducible refine xwD ?_ ?_); focus exact xaC) | ((with_reducible refine xwE ?_ ?_); focus exact xaC) | (with_reducible intro hc; (try simp only [capsP, and_true] at hc); (try exact xfC)) | ((fail_if_success (with_reducible first | refine xgon ?_ | intro _)); (conv => whnf); (fail_if_success (fail_if_success (with_reducible first | refine xstp ?_ | refine Both.mk ?_ ?_ | refine xgon ?_ | intro _)))))
  refine cH41bG2 (σ := []) (nl := []) (cnumber (X.length : Nat) (by omega)) ?_
  rintro v h' ⟨rfl, rfl⟩ hcaps
  refine rH41bG0 ?_
  repeat' (first | (fail_if_success (with_reducible refine xstp ?_)); first | ((with_reducible refine And.intro (fun (hb : _ = true) => ?_) (fun (hb : _ = false) => ?_)) <;> replace hb := xnC hb <;> (try first | exact xfC | exact bff hb (by assumption) | exact bff (by assumption) hb)) | (with_reducible refine Both.mk ?_ ?_) | ((with_reducible refine And.intro ?_ ?_); focus exact xoC) | ((with_reducible refine Or.inl ⟨?_, ?_, ?_⟩); (focus rfl); focus exact xaC) | ((with_reducible refine xwB ?_ ?_); focus exact xaC) | ((with_reducible refine xwC ?_ ?_); focus exact xaC) | ((with_reducible refine xwD ?_ ?_); focus exact xaC) | ((with_reducible refine xwE ?_ ?_); focus exact xaC) | (with_reducible intro hc; (try simp only [capsP, and_true] at hc); (try exact xfC)) | ((fail_if_success (with_reducible first | refine xgon ?_ | intro _)); (conv => whnf); (fail_if_success (fail_if_success (with_reducible first | refine xstp ?_ | refine Both.mk ?_ ?_ | refine xgon ?_ | intro _)))))
  rw [mkS_append]
  refine LoopK.mk' {i : Nat // i ≤ X.length}
    (fun ⟨i, _⟩ => ⟨[(3, .c (.s (mkS (outB ((ls X).take i))))), (4, .c (.s (mkS (inB X.length ((ls X).take i))))), (15, .c (.sl 0 0 2 0 X.length c)), (16, .c (.i .i64 (X.length : Nat))), (17, .c (.i .i64 (i : Nat)))], [.one (chR 1 X c), .many (chG X)]⟩) (fun k => X.length - k.1)
    ⟨⟨0, Nat.zero_le _⟩, [0, 1], ?_⟩ ?_
  · (repeat' first | refine And.intro ?_ ?_ | exact xeC | fail)
    all_goals first
      | (exact xmC)
      | (simp [inB, idxB]; done)
      | skip
  rintro ⟨i, hi⟩
  have ho := outB_len (take_ok hX i)
  have hii := inB_len (n := X.length) (take_ok hX i)
  have hlt2 : ((ls X).take i).length = i := by rw [List.length_take, List.length_map]; omega
  rw [hlt2] at ho hii
  rw [← z] at ho hii
  rcases Nat.lt_or_ge i X.length with hlt | hge
  · have e2 : 0 + ((i : Nat) : Int).toNat = i := by omega
    have hxi := hX.at hlt
    have hidx := idxE_len (off := (outB ((ls X).take i)).length) (x := (X.getD i default).l) hxi.2
    have hcl := conB_len hxi.2.2
    have hts : (ls X).take (i + 1) = (ls X).take i ++ [(X.getD i default).l] := by rw [take_snocG (ls X) (by rw [List.length_map]; exact hlt), getLs]
    repeat' (first | (fail_if_success (with_reducible refine xstp ?_)); first | ((with_reducible refine And.intro (fun (hb : _ = true) => ?_) (fun (hb : _ = false) => ?_)) <;> replace hb := xnC hb <;> (try first | exact xfC | exact bff hb (by assumption) | exact bff (by assumption) hb)) | (with_reducible refine Both.mk ?_ ?_) | ((with_reducible refine And.intro ?_ ?_); focus exact xoC) | ((with_reducible refine Or.inl ⟨?_, ?_, ?_⟩); (focus rfl); focus exact xaC) | ((with_reducible refine xwB ?_ ?_); focus exact xaC) | ((with_reducible refine xwC ?_ ?_); focus exact xaC) | ((with_reducible refine xwD ?_ ?_); focus exact xaC) | ((with_reducible refine xwE ?_ ?_); focus exact xaC) | (with_reducible intro hc; (try simp only [capsP, and_true] at hc); (try exact xfC)) | ((fail_if_success (with_reducible first | refine xgon ?_ | intro _)); (conv => whnf); (fail_if_success (fail_if_success (with_reducible first | refine xstp ?_ | refine Both.mk ?_ ?_ | refine xgon ?_ | intro _)))))
    refine cH41bG2 (σ := [.mem 1 i]) (nl := []) (centryOf ((mkS (outB ((ls X).take i))).size : Nat) (X.getD i default).l (X.getD i default).cap (by omega) (fun r hr => (hxi.2.2 r hr).1.1.2)) ?_ (hle := by (repeat' first | refine And.intro ?_ ?_ | exact xeC | fail) <;> (first | (refine ManyK.mk ⟨_, ixG_at hlt, ?_⟩ <;> (repeat' first | refine And.intro ?_ ?_ | exact xeC | fail)) | (exact xmC)))
    rintro v h' ⟨c1, c2, rfl, rfl⟩ hcaps
    refine rH41bG0 ?_
    repeat' (first | (fail_if_success (with_reducible refine xstp ?_)); first | ((with_reducible refine And.intro (fun (hb : _ = true) => ?_) (fun (hb : _ = false) => ?_)) <;> replace hb := xnC hb <;> (try first | exact xfC | exact bff hb (by assumption) | exact bff (by assumption) hb)) | (with_reducible refine Both.mk ?_ ?_) | ((with_reducible refine And.intro ?_ ?_); focus exact xoC) | ((with_reducible refine Or.inl ⟨?_, ?_, ?_⟩); (focus rfl); focus exact xaC) | ((with_reducible refine xwB ?_ ?_); focus exact xaC) | ((with_reducible refine xwC ?_ ?_); focus exact xaC) | ((with_reducible refine xwD ?_ ?_); focus exact xaC) | ((with_reducible refine xwE ?_ ?_); focus exact xaC) | (with_reducible intro hc; (try simp only [capsP, and_true] at hc); (try exact xfC)) | ((fail_if_success (with_reducible first | refine xgon ?_ | intro _)); (conv => whnf); (fail_if_success (fail_if_success (with_reducible first | refine xstp ?_ | refine Both.mk ?_ ?_ | refine xgon ?_ | intro _)))))
    have htc : ∀ t ∈ tal (X.getD i default).l, t.1.length ≤ 40 ∧ t.2 ≤ 9223372036854775807 := fun t ht => by
      obtain ⟨r, hr, e⟩ := List.mem_map.1 (((tal_inv (X.getD i default).l).2.1 t.1).1 (List.mem_map.2 ⟨t, ht, rfl⟩))
      have h1 := (hxi.2.2 r hr).1.1.2
      have h2 := tal_cnt ht
      exact ⟨by rw [← e]; exact h1, by omega⟩
    have hat : ∀ k, k < (X.getD i default).l.length → 0 ≤ ((X.getD i default).l.getD k default).at_ ∧ ((X.getD i default).l.getD k default).at_ ≤ 9223372036854775807 := fun k hk => by
      have := (hxi.2.2 ((X.getD i default).l.getD k default) (by rw [getD_at hk]; exact List.getElem_mem _)).2.1
      omega
    have htl := tal_le (X.getD i default).l
    refine cH41bG2 (σ := [.whole 3, .whole 4]) (nl := []) (cdescribe ((mkS (outB ((ls X).take i))).size : Nat) ((X.getD i default).l.getD 0 default).at_ ((X.getD i default).l.getD ((X.getD i default).l.length - 1) default).at_ (tal (X.getD i default).l) true true c1 c2 (by omega) (hat _ hxi.1) (hat _ (by omega)) (by omega) htc) ?_ (hle := by (repeat' first | refine And.intro ?_ ?_ | exact xeC | fail) <;> (exact xmC))
    rintro v h' ⟨rfl, rfl⟩ hcaps
    refine rH41bG0 ?_
    have hdes : desB (((mkS (outB ((ls X).take i))).size : Nat) : Int).toNat ((X.getD i default).l.getD 0 default).at_.toNat ((X.getD i default).l.getD ((X.getD i default).l.length - 1) default).at_.toNat (tal (X.getD i default).l) = idxE (outB ((ls X).take i)).length (X.getD i default).l := rfl
    rw [Int.toNat_natCast] at hdes
    rw [hdes]
    rw [← z] at hidx
    repeat' (first | (fail_if_success (with_reducible refine xstp ?_)); first | ((with_reducible refine And.intro (fun (hb : _ = true) => ?_) (fun (hb : _ = false) => ?_)) <;> replace hb := xnC hb <;> (try first | exact xfC | exact bff hb (by assumption) | exact bff (by assumption) hb)) | (with_reducible refine Both.mk ?_ ?_) | ((with_reducible refine And.intro ?_ ?_); focus exact xoC) | ((with_reducible refine Or.inl ⟨?_, ?_, ?_⟩); (focus rfl); focus exact xaC) | ((with_reducible refine xwB ?_ ?_); focus exact xaC) | ((with_reducible refine xwC ?_ ?_); focus exact xaC) | ((with_reducible refine xwD ?_ ?_); focus exact xaC) | ((with_reducible refine xwE ?_ ?_); focus exact xaC) | (with_reducible intro hc; (try simp only [capsP, and_true] at hc); (try exact xfC)) | ((fail_if_success (with_reducible first | refine xgon ?_ | intro _)); (conv => whnf); (fail_if_success (fail_if_success (with_reducible first | refine xstp ?_ | refine Both.mk ?_ ?_ | refine xgon ?_ | intro _)))))
    rw [mkS_append, ← inB_snoc]
    have hsz := secB_len hxi.2.2
    have hsl : (mkS (sealL (conB (X.getD i default).l))).size = (conB (X.getD i default).l).length + 4 := by rw [z, sealL_len]
    refine cH41bG2 (σ := []) (nl := []) (cSeal (mkS (conB (X.getD i default).l)) (by rw [z]; omega)) ?_ (hle := by (repeat' first | refine And.intro ?_ ?_ | exact xeC | fail) <;> (exact xmC))
    rintro v h' ⟨rfl, rfl⟩ hcaps
    refine rH41bG0 ?_
    repeat' (first | (fail_if_success (with_reducible refine xstp ?_)); first | ((with_reducible refine And.intro (fun (hb : _ = true) => ?_) (fun (hb : _ = false) => ?_)) <;> replace hb := xnC hb <;> (try first | exact xfC | exact bff hb (by assumption) | exact bff (by assumption) hb)) | (with_reducible refine Both.mk ?_ ?_) | ((with_reducible refine And.intro ?_ ?_); focus exact xoC) | ((with_reducible refine Or.inl ⟨?_, ?_, ?_⟩); (focus rfl); focus exact xaC) | ((with_reducible refine xwB ?_ ?_); focus exact xaC) | ((with_reducible refine xwC ?_ ?_); focus exact xaC) | ((with_reducible refine xwD ?_ ?_); focus exact xaC) | ((with_reducible refine xwE ?_ ?_); focus exact xaC) | (with_reducible intro hc; (try simp only [capsP, and_true] at hc); (try exact xfC)) | ((fail_if_success (with_reducible first | refine xgon ?_ | intro _)); (conv => whnf); (fail_if_success (fail_if_success (with_reducible first | refine xstp ?_ | refine Both.mk ?_ ?_ | refine xgon ?_ | intro _)))))
    refine cH41bG2 (σ := []) (nl := []) (cText (sealL (mkS (conB (X.getD i default).l)).data.toList) (by rw [sealL_len]; show (conB (X.getD i default).l).length + 4 ≤ _; omega)) ?_ (hle := by (repeat' first | refine And.intro ?_ ?_ | exact xeC | fail) <;> (exact xmC))
    rintro v h' ⟨rfl, rfl⟩ hcaps
    refine rH41bG0 ?_
    have hsec : textL (sealL (mkS (conB (X.getD i default).l)).data.toList) = secB (X.getD i default).l := rfl
    rw [hsec]
    rw [← z] at hsz
    repeat' (first | (fail_if_success (with_reducible refine xstp ?_)); first | ((with_reducible refine And.intro (fun (hb : _ = true) => ?_) (fun (hb : _ = false) => ?_)) <;> replace hb := xnC hb <;> (try first | exact xfC | exact bff hb (by assumption) | exact bff (by assumption) hb)) | (with_reducible refine Both.mk ?_ ?_) | ((with_reducible refine And.intro ?_ ?_); focus exact xoC) | ((with_reducible refine Or.inl ⟨?_, ?_, ?_⟩); (focus rfl); focus exact xaC) | ((with_reducible refine xwB ?_ ?_); focus exact xaC) | ((with_reducible refine xwC ?_ ?_); focus exact xaC) | ((with_reducible refine xwD ?_ ?_); focus exact xaC) | ((with_reducible refine xwE ?_ ?_); focus exact xaC) | (with_reducible intro hc; (try simp only [capsP, and_true] at hc); (try exact xfC)) | ((fail_if_success (with_reducible first | refine xgon ?_ | intro _)); (conv => whnf); (fail_if_success (fail_if_success (with_reducible first | refine xstp ?_ | refine Both.mk ?_ ?_ | refine xgon ?_ | intro _)))))
    rw [mkS_append, ← outB_snoc, ← hts]
    refine ⟨⟨i + 1, hlt⟩, [0, 1], by simp only; omega, ?_⟩
    (repeat' first | refine And.intro ?_ ?_ | exact xeC | fail)
    all_goals first
      | exact ixG_leB chF hlt
      | exact ixG_leB1 chF hlt
      | (exact xmC)
      | skip
  · obtain rfl : i = X.length := by omega
    have hta : (ls X).take X.length = ls X := List.take_of_length_le (by rw [List.length_map]; exact Nat.le_refl _)
    repeat' (first | (fail_if_success (with_reducible refine xstp ?_)); first | ((with_reducible refine And.intro (fun (hb : _ = true) => ?_) (fun (hb : _ = false) => ?_)) <;> replace hb := xnC hb <;> (try first | exact xfC | exact bff hb (by assumption) | exact bff (by assumption) hb)) | (with_reducible refine Both.mk ?_ ?_) | ((with_reducible refine And.intro ?_ ?_); focus exact xoC) | ((with_reducible refine Or.inl ⟨?_, ?_, ?_⟩); (focus rfl); focus exact xaC) | ((with_reducible refine xwB ?_ ?_); focus exact xaC) | ((with_reducible refine xwC ?_ ?_); focus exact xaC) | ((with_reducible refine xwD ?_ ?_); focus exact xaC) | ((with_reducible refine xwE ?_ ?_); focus exact xaC) | (with_reducible intro hc; (try simp only [capsP, and_true] at hc); (try exact xfC)) | ((fail_if_success (with_reducible first | refine xgon ?_ | intro _)); (conv => whnf); (fail_if_success (fail_if_success (with_reducible first | refine xstp ?_ | refine Both.mk ?_ ?_ | refine xgon ?_ | intro _)))))
    rw [hta] at ho hii ⊢
    refine cH41bG2 (σ := []) (nl := []) (cSeal (mkS (inB X.length (ls X))) (by omega)) ?_ (hle := by (repeat' first | refine And.intro ?_ ?_ | exact xeC | fail) <;> (exact xmC))
    rintro v h' ⟨rfl, rfl⟩ hcaps
    refine rH41bG0 ?_
    repeat' (first | (fail_if_success (with_reducible refine xstp ?_)); first | ((with_reducible refine And.intro (fun (hb : _ = true) => ?_) (fun (hb : _ = false) => ?_)) <;> replace hb := xnC hb <;> (try first | exact xfC | exact bff hb (by assumption) | exact bff (by assumption) hb)) | (with_reducible refine Both.mk ?_ ?_) | ((with_reducible refine And.intro ?_ ?_); focus exact xoC) | ((with_reducible refine Or.inl ⟨?_, ?_, ?_⟩); (focus rfl); focus exact xaC) | ((with_reducible refine xwB ?_ ?_); focus exact xaC) | ((with_reducible refine xwC ?_ ?_); focus exact xaC) | ((with_reducible refine xwD ?_ ?_); focus exact xaC) | ((with_reducible refine xwE ?_ ?_); focus exact xaC) | (with_reducible intro hc; (try simp only [capsP, and_true] at hc); (try exact xfC)) | ((fail_if_success (with_reducible first | refine xgon ?_ | intro _)); (conv => whnf); (fail_if_success (fail_if_success (with_reducible first | refine xstp ?_ | refine Both.mk ?_ ?_ | refine xgon ?_ | intro _)))))
    have hsl : (sealL (inB X.length (ls X))).length = (mkS (inB X.length (ls X))).size + 4 := by rw [sealL_len]; rfl
    have htl := textL_len (sealL (inB X.length (ls X)))
    rw [← z] at htl
    refine cH41bG2 (σ := []) (nl := []) (cText (sealL (mkS (inB X.length (ls X))).data.toList) (by show (sealL (inB X.length (ls X))).length ≤ _; rw [hsl]; omega)) ?_ (hle := by (repeat' first | refine And.intro ?_ ?_ | exact xeC | fail) <;> (exact xmC))
    rintro v h' ⟨rfl, rfl⟩ hcaps
    refine rH41bG0 ?_
    repeat' (first | (fail_if_success (with_reducible refine xstp ?_)); first | ((with_reducible refine And.intro (fun (hb : _ = true) => ?_) (fun (hb : _ = false) => ?_)) <;> replace hb := xnC hb <;> (try first | exact xfC | exact bff hb (by assumption) | exact bff (by assumption) hb)) | (with_reducible refine Both.mk ?_ ?_) | ((with_reducible refine And.intro ?_ ?_); focus exact xoC) | ((with_reducible refine Or.inl ⟨?_, ?_, ?_⟩); (focus rfl); focus exact xaC) | ((with_reducible refine xwB ?_ ?_); focus exact xaC) | ((with_reducible refine xwC ?_ ?_); focus exact xaC) | ((with_reducible refine xwD ?_ ?_); focus exact xaC) | ((with_reducible refine xwE ?_ ?_); focus exact xaC) | (with_reducible intro hc; (try simp only [capsP, and_true] at hc); (try exact xfC)) | ((fail_if_success (with_reducible first | refine xgon ?_ | intro _)); (conv => whnf); (fail_if_success (fail_if_success (with_reducible first | refine xstp ?_ | refine Both.mk ?_ ?_ | refine xgon ?_ | intro _)))))
    rw [mkS_append]
    refine LoopK.mk' ({j : Nat // j ≤ 8} × Nat)
      (fun ⟨⟨j, _⟩, c1⟩ => ⟨[(3, .c (.s (mkS (outB (ls X) ++ textL (sealL (inB X.length (ls X))))))), (7, .c (.i .i64 ((mkS (outB (ls X))).size : Nat))), (8, .c (.sl 2 0 1 0 (le j (mkS (outB (ls X))).size).length c1)), (43, .c (.i .i64 (j : Nat)))],
        [.one (chR 1 X c), .many (chG X), .one (.row true false 5 1 (le j (mkS (outB (ls X))).size).length c1 (rowOf encB8 (le j (mkS (outB (ls X))).size)))]⟩) (fun i => 8 - i.1.1)
      ⟨⟨⟨0, Nat.zero_le _⟩, 0⟩, [0, 1, 99], ?_⟩ ?_
    · (repeat' first | refine And.intro ?_ ?_ | exact xeC | fail)
      all_goals first
        | (exact xmC)
        | (intro i hi; exact absurd hi (Nat.not_lt_zero i))
        | skip
    rintro ⟨⟨j, hj⟩, c1⟩
    have hjl : (le j (mkS (outB (ls X))).size).length = j := le_length j _
    have hls : (ls X).length = X.length := List.length_map _
    have hno : (mkS (outB (ls X))).size = 5 + (secsB (ls X)).length := by simp only [z, outB, magic, List.length_append, List.length_cons, List.length_nil]
    repeat' (first | (fail_if_success (with_reducible refine xstp ?_)); first | ((with_reducible refine And.intro (fun (hb : _ = true) => ?_) (fun (hb : _ = false) => ?_)) <;> replace hb := xnC hb <;> (try first | exact xfC | exact bff hb (by assumption) | exact bff (by assumption) hb)) | (with_reducible refine Both.mk ?_ ?_) | ((with_reducible refine And.intro ?_ ?_); focus exact xoC) | ((with_reducible refine Or.inl ⟨?_, ?_, ?_⟩); (focus rfl); focus exact xaC) | ((with_reducible refine xwB ?_ ?_); focus exact xaC) | ((with_reducible refine xwC ?_ ?_); focus exact xaC) | ((with_reducible refine xwD ?_ ?_); focus exact xaC) | ((with_reducible refine xwE ?_ ?_); focus exact xaC) | (with_reducible intro hc; (try simp only [capsP, and_true] at hc); (try exact xfC)) | ((fail_if_success (with_reducible first | refine xgon ?_ | intro _)); (conv => whnf); (fail_if_success (fail_if_success (with_reducible first | refine xstp ?_ | refine Both.mk ?_ ?_ | refine xgon ?_ | intro _)))))
    · rename_i c2
      have hsn := le_snoc j (mkS (outB (ls X))).size
      refine ⟨⟨⟨j + 1, by omega⟩, c2⟩, [0, 1, 4], by simp only; omega, ?_⟩
      simp only [hsn]
      (repeat' first | refine And.intro ?_ ?_ | exact xeC | fail)
      all_goals first
        | (exact xmC)
        | (simp; done)
        | exact app_rowG encB8 _ _ _ (by have hby := byteY (mkS (outB (ls X))).size j (by omega); exact congrArg (fun q => [C.i .u8 q]) hby)
    · obtain rfl : j = 8 := by omega
      refine ⟨⟨rfl, rfl, by omega, fun j hj => rfl⟩, ?_⟩
      generalize hB : bytesOf _ _ _ = B
      obtain rfl : B = mkS (le 8 (5 + (secsB (ls X)).length)) := by
        rw [← hB, bytesOf_row (le 8 (mkS (outB (ls X))).size) _ 0 _ (fun j hj => by rfl) (by omega), List.drop_zero, List.take_of_length_le (Nat.le_refl _), hno]
      have hl8 : (mkS (le 8 (5 + (secsB (ls X)).length))).size = 8 := by rw [z, le_length]
      have hbs : (mkS (outB (ls X) ++ textL (sealL (inB X.length (ls X))))).size = (mkS (outB (ls X))).size + (mkS (textL (sealL (inB X.length (ls X))))).size := by simp only [z, List.length_append]
      repeat' (first | (fail_if_success (with_reducible refine xstp ?_)); first | ((with_reducible refine And.intro (fun (hb : _ = true) => ?_) (fun (hb : _ = false) => ?_)) <;> replace hb := xnC hb <;> (try first | exact xfC | exact bff hb (by assumption) | exact bff (by assumption) hb)) | (with_reducible refine Both.mk ?_ ?_) | ((with_reducible refine And.intro ?_ ?_); focus exact xoC) | ((with_reducible refine Or.inl ⟨?_, ?_, ?_⟩); (focus rfl); focus exact xaC) | ((with_reducible refine xwB ?_ ?_); focus exact xaC) | ((with_reducible refine xwC ?_ ?_); focus exact xaC) | ((with_reducible refine xwD ?_ ?_); focus exact xaC) | ((with_reducible refine xwE ?_ ?_); focus exact xaC) | (with_reducible intro hc; (try simp only [capsP, and_true] at hc); (try exact xfC)) | ((fail_if_success (with_reducible first | refine xgon ?_ | intro _)); (conv => whnf); (fail_if_success (fail_if_success (with_reducible first | refine xstp ?_ | refine Both.mk ?_ ?_ | refine xgon ?_ | intro _)))))
      rw [mkS_append]
      have hbs2 : (mkS (outB (ls X) ++ textL (sealL (inB X.length (ls X))) ++ le 8 (5 + (secsB (ls X)).length))).size = (mkS (outB (ls X) ++ textL (sealL (inB X.length (ls X))))).size + 8 := by simp only [z, List.length_append, le_length]
      have hm5 : ({ data := #[82, 66, 65, 71, 49] } : ByteArray).size = 5 := rfl
      repeat' (first | (fail_if_success (with_reducible refine xstp ?_)); first | ((with_reducible refine And.intro (fun (hb : _ = true) => ?_) (fun (hb : _ = false) => ?_)) <;> replace hb := xnC hb <;> (try first | exact xfC | exact bff hb (by assumption) | exact bff (by assumption) hb)) | (with_reducible refine Both.mk ?_ ?_) | ((with_reducible refine And.intro ?_ ?_); focus exact xoC) | ((with_reducible refine Or.inl ⟨?_, ?_, ?_⟩); (focus rfl); focus exact xaC) | ((with_reducible refine xwB ?_ ?_); focus exact xaC) | ((with_reducible refine xwC ?_ ?_); focus exact xaC) | ((with_reducible refine xwD ?_ ?_); focus exact xaC) | ((with_reducible refine xwE ?_ ?_); focus exact xaC) | (with_reducible intro hc; (try simp only [capsP, and_true] at hc); (try exact xfC)) | ((fail_if_success (with_reducible first | refine xgon ?_ | intro _)); (conv => whnf); (fail_if_success (fail_if_success (with_reducible first | refine xstp ?_ | refine Both.mk ?_ ?_ | refine xgon ?_ | intro _)))))
      rw [show ({ data := #[82, 66, 65, 71, 49] } : ByteArray) = mkS magic from rfl, mkS_append]
      have hfin : outB (ls X) ++ textL (sealL (inB X.length (ls X))) ++ le 8 (5 + (secsB (ls X)).length) ++ magic = bagB (ls X) := by
        unfold bagB indB
        rw [hls]
      rw [hfin]
      refine FinK.mk ⟨[0, 1], _, _, ⟨rfl, rfl⟩, ?_⟩
      (repeat' first | refine And.intro ?_ ?_ | exact xeC | fail)
      all_goals (exact xmC)
theorem rH41bG1 {σ : List Sg} {H h' : List Fam} {v : T} {K : T → List Fam → Prop} {H' : List Fam} {v' : T} {N : Nat} (hk : K v' H') (hN : H.length = N := by (try simp only [↓List.length_cons, ↓List.length_nil, Nat.reduceAdd]) <;> rfl) (h : givesF σ N H σ h' = some H' := by (try simp (maxSteps := 1000000) only [givesF, setF, updF, Fam.zeroth, Fam.rk, Ck.rk, C.rk, E.rk, T.rk, key, List.map_cons, List.map_nil, List.cons_append, List.nil_append, List.length_cons, List.length_nil, Option.map_some, Option.bind_some, Nat.reduceAdd, Nat.zero_add, Nat.add_zero, Nat.add_sub_cancel_left, Int.toNat_natCast, reps, List.all_cons, List.all_nil, C.flat, List.append_eq, Bool.not_true, Bool.and_true, Bool.or_false, Bool.or_self, Bool.not_false, List.append_nil, Bool.and_self, ↓chG_rk, encCh_rk1]) <;> rfl) (hv : v.rk σ N = v' := by (try simp only [givesF, setF, updF, Fam.zeroth, Fam.rk, Ck.rk, C.rk, E.rk, T.rk, key, List.map_cons, List.map_nil, List.cons_append, List.nil_append, List.length_cons, List.length_nil, Option.map_some, Option.bind_some, Nat.reduceAdd, Nat.zero_add, Nat.add_zero, Nat.add_sub_cancel_left, Int.toNat_natCast, reps, List.all_cons, List.all_nil, C.flat, List.append_eq, Bool.not_true, Bool.and_true, Bool.or_false, Bool.or_self, Bool.not_false, List.append_nil, Bool.and_self, ↓chG_rk, encCh_rk1]) <;> rfl) : RetG σ H h' v K := ret_mk3 hN h hv hk
set_option maxRecDepth 10000 in
set_option maxHeartbeats 4000000 in
theorem cCloseW (w : Wr) (X : List Ch) (c : Nat) (hX : XOk X) (hL : ls X = w.L) :
    Ctr Try.prog 15 [.c (.p 0 0 0)] [.one (wrC w 1 X.length c), .one (chR 2 X c), .many (chG X)]
      fun v h => v = .t [.c (.s (mkS (if w.cl = true then [] else bagB w.L))), .c (.i .i64 (if w.cl = true then 10 else 0 : Nat))] ∧ h = [.one (wrC { w with cl := true } 1 X.length c), .one (chR 2 X c), .many (chG X)] := by
  refine Ctr.mk' tbv mixed Try.func15 rfl rfl rfl (fun _ _ => by kernel_rfl) (by kernel_rfl) (by rfl) (by rfl) (by (repeat' first | refine And.intro ?_ ?_ | exact xeC | fail) <;> (exact xmC)) ?_
  repeat' (first | (fail_if_success (with_reducible refine xstp ?_)); first | ((with_reducible refine And.intro (fun (hb : _ = true) => ?_) (fun (hb : _ = false) => ?_)) <;> replace hb := xnC hb <;> (try first | exact xfC | exact bff hb (by assumption) | exact bff (by assumption) hb)) | (with_reducible refine Both.mk ?_ ?_) | ((with_reducible refine And.intro ?_ ?_); focus exact xoC) | ((with_reducible refine Or.inl ⟨?_, ?_, ?_⟩); (focus rfl); focus exact xaC) | ((with_reducible refine xwB ?_ ?_); focus exact xaC) | ((with_reducible refine xwC ?_ ?_); focus exact xaC) | ((with_reducible refine xwD ?_ ?_); focus exact xaC) | ((with_reducible refine xwE ?_ ?_); focus exact xaC) | (with_reducible intro hc; (try simp only [capsP, and_true] at hc); (try exact xfC)) | ((fail_if_success (with_reducible first | refine xgon ?_ | intro _)); (conv => whnf); (fail_if_success (fail_if_success (with_reducible first | refine xstp ?_ | refine Both.mk ?_ ?_ | refine xgon ?_ | intro _)))))
  · rw [if_pos (by assumption), if_pos (by assumption), show ({ w with cl := true } : Wr) = w from by cases w; simp_all]
    refine FinK.mk ⟨[0, 1, 2], _, _, ⟨rfl, rfl⟩, ?_⟩
    (repeat' first | refine And.intro ?_ ?_ | exact xeC | fail)
    all_goals (exact xmC)
  · rw [if_neg (by simp_all), if_neg (by simp_all)]
    refine cH41bG2 (σ := [.whole 1, .whole 2]) (nl := []) (cassemble X c hX) ?_ (hle := by (repeat' first | refine And.intro ?_ ?_ | exact xeC | fail) <;> (exact xmC))
    rintro v h' ⟨rfl, rfl⟩ hcaps
    rw [hL]
    refine rH41bG1 ?_
    repeat' (first | (fail_if_success (with_reducible refine xstp ?_)); first | ((with_reducible refine And.intro (fun (hb : _ = true) => ?_) (fun (hb : _ = false) => ?_)) <;> replace hb := xnC hb <;> (try first | exact xfC | exact bff hb (by assumption) | exact bff (by assumption) hb)) | (with_reducible refine Both.mk ?_ ?_) | ((with_reducible refine And.intro ?_ ?_); focus exact xoC) | ((with_reducible refine Or.inl ⟨?_, ?_, ?_⟩); (focus rfl); focus exact xaC) | ((with_reducible refine xwB ?_ ?_); focus exact xaC) | ((with_reducible refine xwC ?_ ?_); focus exact xaC) | ((with_reducible refine xwD ?_ ?_); focus exact xaC) | ((with_reducible refine xwE ?_ ?_); focus exact xaC) | (with_reducible intro hc; (try simp only [capsP, and_true] at hc); (try exact xfC)) | ((fail_if_success (with_reducible first | refine xgon ?_ | intro _)); (conv => whnf); (fail_if_success (fail_if_success (with_reducible first | refine xstp ?_ | refine Both.mk ?_ ?_ | refine xgon ?_ | intro _)))))
    refine FinK.mk ⟨[0, 1, 2], _, _, ⟨rfl, rfl⟩, ?_⟩
    (repeat' first | refine And.intro ?_ ?_ | exact xeC | fail)
    all_goals (exact xmC)
end Go.Proofs.Ytkjkbpnhocjenaa

