/- Part 1 of the texts that a walk of this program rests on: an abstract machine, its soundness, contracts of functions. No statement of the seat is proved in this file. -/
import Derived.Test.YtgaodeffbgppmaaZ6
namespace Go.Proofs.Ytgaodeffbgppmaa
open Go.X
set_option linter.unusedSimpArgs false
set_option linter.unusedVariables false
open P4
open P5
abbrev fgR (l : List Fg) (c : Nat) : Ck := .row true false 34 4 l.length c (rowOf encG l)
def cnt (n z : Nat) : Nat := max 1 ((n + z - 1) / z)
def part (id : Int) (l : List UInt8) (z n i : Nat) : Fg := ⟨id, i, n, (l.drop (i * z)).take z⟩
def parts (id : Int) (l : List UInt8) (z n k : Nat) : List Fg := (List.range k).map (part id l z n)
def okS (id size : Int) : Prop := (0 ≤ id ∧ id ≤ 1099511627776) ∧ (1 ≤ size ∧ size ≤ 4000)
instance (id size : Int) : Decidable (okS id size) := by unfold okS; infer_instance
def spl (id : Int) (l : List UInt8) (size : Int) : List Fg × Nat :=
  if ¬ okS id size then ([], 4) else if 64 < cnt l.length size.toNat then ([], 3) else (parts id l size.toNat (cnt l.length size.toNat) (cnt l.length size.toNat), 0)
theorem parts_succ (id : Int) (l : List UInt8) (z n k : Nat) : parts id l z n (k + 1) = parts id l z n k ++ [part id l z n k] := by
  unfold parts
  rw [List.range_succ, List.map_append]
  rfl
theorem parts_len (id : Int) (l : List UInt8) (z n k : Nat) : (parts id l z n k).length = k := by simp [parts]
theorem cnt_le {n z k : Nat} (hz : 1 ≤ z) (h : k < cnt n z) (hk : 0 < k) : k * z ≤ n := by
  unfold cnt at h
  have h1 : k < (n + z - 1) / z := by omega
  have h2 := Nat.div_mul_le_self (n + z - 1) z
  have h3 : (k + 1) * z ≤ (n + z - 1) / z * z := Nat.mul_le_mul_right z h1
  rw [Nat.add_mul, Nat.one_mul] at h3
  omega
theorem cnt_ge {n z : Nat} (hz : 1 ≤ z) : n ≤ cnt n z * z := by
  have h1 : (n + z - 1) / z ≤ cnt n z := by unfold cnt; exact Nat.le_max_right _ _
  have h2 := Nat.mul_le_mul_right z h1
  have h3 := Nat.div_add_mod (n + z - 1) z
  have h4 := Nat.mod_lt (n + z - 1) hz
  rw [Nat.mul_comm] at h3
  omega

theorem cnt_64 {n z : Nat} (hz : 1 ≤ z) : 64 < cnt n z ↔ 64 * z < n := by
  have h : 65 ≤ (n + z - 1) / z ↔ 65 * z ≤ n + z - 1 := Nat.le_div_iff_mul_le hz
  unfold cnt
  omega
theorem ext_part {l : List UInt8} {i z : Nat} (hsz : (mkS l).size = l.length) : (mkS l).extract ((i : Int) * (z : Int)).toNat (min ((mkS l).size : Int) (((i : Int) + 1) * (z : Int))).toNat = mkS ((l.drop (i * z)).take z) := by
  have h1 : ((i : Int) * (z : Int)).toNat = i * z := by rw [← Int.natCast_mul, Int.toNat_natCast]
  have h2 : (min ((mkS l).size : Int) (((i : Int) + 1) * (z : Int))).toNat = min l.length (i * z + z) := by
    rw [Int.add_mul, Int.one_mul, ← Int.natCast_mul, hsz]
    omega
  rw [h1, h2, mkS_ext, List.drop_take]
  congr 1
  rw [List.take_eq_take_iff, List.length_drop]
  omega

theorem ext_part2 {l : List UInt8} {i z : Nat} (hsz : (mkS l).size = l.length) {e : Int} (he : e = min ((mkS l).size : Int) (((i : Int) + 1) * (z : Int))) : (mkS l).extract ((i : Int) * (z : Int)).toNat e.toNat = mkS ((l.drop (i * z)).take z) := by
  rw [he]
  exact ext_part hsz
set_option maxRecDepth 10000 in
theorem cSplit (id : Int) (l : List UInt8) (size : Int) (hl : l.length ≤ 1000000) :
    Ctr Try.prog 17 [.c (.i .i64 id), .c (.s (mkS l)), .c (.i .i64 size)] [] fun v h => ∃ c, v = .t [.c (.sl 0 0 4 0 (spl id l size).1.length c), .c (.i .i64 ((spl id l size).2 : Nat))] ∧ h = [.one (fgR (spl id l size).1 c)] := by
  have hsz : (mkS l).size = l.length := rfl
  refine Ctr.mk' tbv mixed Try.func17 rfl rfl rfl (fun _ _ => by kernel_rfl) (by kernel_rfl) (by rfl) (by rfl) (by (repeat' first | refine And.intro ?_ ?_ | exact xeC | fail)) ?_
  repeat' (first | (fail_if_success (with_reducible refine xstp ?_)); first | ((with_reducible refine And.intro (fun (hb : _ = true) => ?_) (fun (hb : _ = false) => ?_)) <;> replace hb := xnC hb <;> (try first | exact xfC | exact bff hb (by assumption) | exact bff (by assumption) hb)) | (with_reducible refine Both.mk ?_ ?_) | ((with_reducible refine And.intro ?_ ?_); focus exact xoC) | ((with_reducible refine Or.inl ⟨?_, ?_, ?_⟩); (focus rfl); focus exact xaC) | ((with_reducible refine xwB ?_ ?_); focus exact xaC) | ((with_reducible refine xwC ?_ ?_); focus exact xaC) | ((with_reducible refine xwD ?_ ?_); focus exact xaC) | ((with_reducible refine xwE ?_ ?_); focus exact xaC) | (with_reducible intro hc; (try simp only [capsP, and_true] at hc); (try exact xfC)) | ((fail_if_success (with_reducible first | refine xgon ?_ | intro _)); (conv => whnf); (fail_if_success (fail_if_success (with_reducible first | refine xstp ?_ | refine Both.mk ?_ ?_ | refine xgon ?_ | intro _)))))
  refine xcal (σ := []) (nl := []) (cwithin id 0 1099511627776) ?_
  rintro v h' ⟨rfl, rfl⟩ hcaps
  refine xret ?_
  repeat' (first | (fail_if_success (with_reducible refine xstp ?_)); first | ((with_reducible refine And.intro (fun (hb : _ = true) => ?_) (fun (hb : _ = false) => ?_)) <;> replace hb := xnC hb <;> (try first | exact xfC | exact bff hb (by assumption) | exact bff (by assumption) hb)) | (with_reducible refine Both.mk ?_ ?_) | ((with_reducible refine And.intro ?_ ?_); focus exact xoC) | ((with_reducible refine Or.inl ⟨?_, ?_, ?_⟩); (focus rfl); focus exact xaC) | ((with_reducible refine xwB ?_ ?_); focus exact xaC) | ((with_reducible refine xwC ?_ ?_); focus exact xaC) | ((with_reducible refine xwD ?_ ?_); focus exact xaC) | ((with_reducible refine xwE ?_ ?_); focus exact xaC) | (with_reducible intro hc; (try simp only [capsP, and_true] at hc); (try exact xfC)) | ((fail_if_success (with_reducible first | refine xgon ?_ | intro _)); (conv => whnf); (fail_if_success (fail_if_success (with_reducible first | refine xstp ?_ | refine Both.mk ?_ ?_ | refine xgon ?_ | intro _)))))
  · rw [show spl id l size = ([], 4) from if_pos (fun h => hb h.1)]
    refine FinK.mk ⟨[99], _, _, ⟨0, rfl, rfl⟩, ?_⟩
    (repeat' first | refine And.intro ?_ ?_ | exact xeC | fail)
    all_goals (intro i hi; exact absurd hi (Nat.not_lt_zero i))
  refine xcal (σ := []) (nl := []) (cwithin size 1 4000) ?_
  rintro v h' ⟨rfl, rfl⟩ hcaps
  refine xret ?_
  repeat' (first | (fail_if_success (with_reducible refine xstp ?_)); first | ((with_reducible refine And.intro (fun (hb : _ = true) => ?_) (fun (hb : _ = false) => ?_)) <;> replace hb := xnC hb <;> (try first | exact xfC | exact bff hb (by assumption) | exact bff (by assumption) hb)) | (with_reducible refine Both.mk ?_ ?_) | ((with_reducible refine And.intro ?_ ?_); focus exact xoC) | ((with_reducible refine Or.inl ⟨?_, ?_, ?_⟩); (focus rfl); focus exact xaC) | ((with_reducible refine xwB ?_ ?_); focus exact xaC) | ((with_reducible refine xwC ?_ ?_); focus exact xaC) | ((with_reducible refine xwD ?_ ?_); focus exact xaC) | ((with_reducible refine xwE ?_ ?_); focus exact xaC) | (with_reducible intro hc; (try simp only [capsP, and_true] at hc); (try exact xfC)) | ((fail_if_success (with_reducible first | refine xgon ?_ | intro _)); (conv => whnf); (fail_if_success (fail_if_success (with_reducible first | refine xstp ?_ | refine Both.mk ?_ ?_ | refine xgon ?_ | intro _)))))
  · rw [show spl id l size = ([], 4) from if_pos (fun h => hb h.2)]
    refine FinK.mk ⟨[99], _, _, ⟨0, rfl, rfl⟩, ?_⟩
    (repeat' first | refine And.intro ?_ ?_ | exact xeC | fail)
    all_goals (intro i hi; exact absurd hi (Nat.not_lt_zero i))
  have hoks : okS id size := ⟨by assumption, hb⟩
  obtain ⟨z, rfl⟩ : ∃ z : Nat, size = z := ⟨size.toNat, by omega⟩
  have hz1 : 1 ≤ z := by omega
  have hz2 : z ≤ 4000 := by omega
  have hq : ((mkS l).size + (z : Int) - 1).tdiv z = (((l.length + z - 1) / z : Nat) : Int) := by
    rw [Int.tdiv_eq_ediv_of_nonneg (by omega), hsz, Int.natCast_ediv]
    congr 1
    omega
  have hqm : (l.length + z - 1) / z ≤ l.length + z - 1 := Nat.div_le_self _ _
  rw [hq]
  have hcnt : cnt l.length z = max 1 ((l.length + z - 1) / z) := rfl
  generalize (l.length + z - 1) / z = q at *
  repeat' (first | (fail_if_success (with_reducible refine xstp ?_)); first | ((with_reducible refine And.intro (fun (hb : _ = true) => ?_) (fun (hb : _ = false) => ?_)) <;> replace hb := xnC hb <;> (try first | exact xfC | exact bff hb (by assumption) | exact bff (by assumption) hb)) | (with_reducible refine Both.mk ?_ ?_) | ((with_reducible refine And.intro ?_ ?_); focus exact xoC) | ((with_reducible refine Or.inl ⟨?_, ?_, ?_⟩); (focus rfl); focus exact xaC) | ((with_reducible refine xwB ?_ ?_); focus exact xaC) | ((with_reducible refine xwC ?_ ?_); focus exact xaC) | ((with_reducible refine xwD ?_ ?_); focus exact xaC) | ((with_reducible refine xwE ?_ ?_); focus exact xaC) | (with_reducible intro hc; (try simp only [capsP, and_true] at hc); (try exact xfC)) | ((fail_if_success (with_reducible first | refine xgon ?_ | intro _)); (conv => whnf); (fail_if_success (fail_if_success (with_reducible first | refine xstp ?_ | refine Both.mk ?_ ?_ | refine xgon ?_ | intro _)))))
  · have hcn : 64 < cnt l.length z := by omega
    rw [show spl id l (z : Int) = ([], 3) by unfold spl; rw [if_neg (by simpa using hoks), if_pos (by simpa using hcn)]]
    refine FinK.mk ⟨[99], _, _, ⟨0, rfl, rfl⟩, ?_⟩
    (repeat' first | refine And.intro ?_ ?_ | exact xeC | fail)
    all_goals (intro i hi; exact absurd hi (Nat.not_lt_zero i))
  have hcn : cnt l.length z ≤ 64 := by omega
  have hmx : max 1 (q : Int) = (cnt l.length z : Nat) := by omega
  rw [show spl id l (z : Int) = (parts id l z (cnt l.length z) (cnt l.length z), 0) by unfold spl; rw [if_neg (by simpa using hoks), if_neg (by rw [Int.toNat_natCast]; omega), Int.toNat_natCast]]
  rw [hmx]
  generalize hn : cnt l.length z = n at *
  refine LoopK.mk' {p : Nat × Nat // p.1 ≤ n}
    (fun ⟨(i, c), _⟩ => ⟨[(0, .c (.i .i64 id)), (1, .c (.s (mkS l))), (2, .c (.i .i64 z)), (8, .c (.i .i64 (n : Nat))), (9, .c (.sl 0 0 4 0 (parts id l z n i).length c)), (29, .c (.i .i64 (n : Nat))), (30, .c (.i .i64 (i : Nat)))],
      [.one (fgR (parts id l z n i) c)]⟩) (fun k => n - k.1.1)
    ⟨⟨(0, 0), Nat.zero_le _⟩, [99], ?_⟩ ?_
  · (repeat' first | refine And.intro ?_ ?_ | exact xeC | fail)
    all_goals (intro i hi; exact absurd hi (Nat.not_lt_zero i))
  rintro ⟨⟨i, c⟩, hi⟩
  simp only at hi
  have hiz : i < n → i * z ≤ l.length := fun h => by
    by_cases h0 : i = 0
    · subst h0; omega
    · exact cnt_le hz1 (by omega) (by omega)
  have hpl := parts_len id l z n i
  have hi1 : ((i : Int) + 1) * (z : Int) = ((i * z + z : Nat) : Int) := by rw [Int.add_mul]; push_cast; omega
  repeat' (first | (fail_if_success (with_reducible refine xstp ?_)); first | ((with_reducible refine And.intro (fun (hb : _ = true) => ?_) (fun (hb : _ = false) => ?_)) <;> replace hb := xnC hb <;> (try first | exact xfC | exact bff hb (by assumption) | exact bff (by assumption) hb)) | (with_reducible refine Both.mk ?_ ?_) | ((with_reducible refine And.intro ?_ ?_); focus exact xoC) | ((with_reducible refine Or.inl ⟨?_, ?_, ?_⟩); (focus rfl); focus exact xaC) | ((with_reducible refine xwB ?_ ?_); focus exact xaC) | ((with_reducible refine xwC ?_ ?_); focus exact xaC) | ((with_reducible refine xwD ?_ ?_); focus exact xaC) | ((with_reducible refine xwE ?_ ?_); focus exact xaC) | (with_reducible intro hc; (try simp only [capsP, and_true] at hc); (try exact xfC)) | ((fail_if_success (with_reducible first | refine xgon ?_ | intro _)); (conv => whnf); (fail_if_success (fail_if_success (with_reducible first | refine xstp ?_ | refine Both.mk ?_ ?_ | refine xgon ?_ | intro _)))))
  · rename_i c2
    rw [ext_part hsz]
    refine ⟨⟨(i + 1, c2), by simp only; omega⟩, [2], by simp only; omega, ?_⟩
    (repeat' first | refine And.intro ?_ ?_ | exact xeC | fail)
    all_goals try rw [parts_succ]
    all_goals first | omega | (simp only [List.length_append, List.length_singleton]; done) | (rw [List.length_append, List.length_singleton]; omega) | (intro i hi; (first | refine app_rowG _ _ _ _ ?_ i hi | refine app_row _ _ _ ?_ i hi); first | rfl | (simp only [Int.toNat_natCast, Nat.zero_add]; rfl))
  · obtain rfl : i = n := by omega
    refine FinK.mk ⟨[0], _, _, ⟨c, rfl, rfl⟩, ?_⟩
    (repeat' first | refine And.intro ?_ ?_ | exact xeC | fail)

set_option maxRecDepth 10000 in
theorem cSplitR (id : Int) (l : List UInt8) (size : Int) (hl : l.length ≤ 1000000) :
    Ctr Try.prog 30 [.c (.i .i64 id), .c (.s (mkS l)), .c (.i .i64 size)] [] fun v h => ∃ c, v = .t [.c (.sl 0 0 4 0 (spl id l size).1.length c), .c (.i .i64 ((spl id l size).2 : Nat))] ∧ h = [.one (fgR (spl id l size).1 c)] := by
  have hsz : (mkS l).size = l.length := rfl
  refine Ctr.mk' tbv mixed Try.func30 rfl rfl rfl (fun _ _ => by kernel_rfl) (by kernel_rfl) (by rfl) (by rfl) (by (repeat' first | refine And.intro ?_ ?_ | exact xeC | fail)) ?_
  repeat' (first | (fail_if_success (with_reducible refine xstp ?_)); first | ((with_reducible refine And.intro (fun (hb : _ = true) => ?_) (fun (hb : _ = false) => ?_)) <;> replace hb := xnC hb <;> (try first | exact xfC | exact bff hb (by assumption) | exact bff (by assumption) hb)) | (with_reducible refine Both.mk ?_ ?_) | ((with_reducible refine And.intro ?_ ?_); focus exact xoC) | ((with_reducible refine Or.inl ⟨?_, ?_, ?_⟩); (focus rfl); focus exact xaC) | ((with_reducible refine xwB ?_ ?_); focus exact xaC) | ((with_reducible refine xwC ?_ ?_); focus exact xaC) | ((with_reducible refine xwD ?_ ?_); focus exact xaC) | ((with_reducible refine xwE ?_ ?_); focus exact xaC) | (with_reducible intro hc; (try simp only [capsP, and_true] at hc); (try exact xfC)) | ((fail_if_success (with_reducible first | refine xgon ?_ | intro _)); (conv => whnf); (fail_if_success (fail_if_success (with_reducible first | refine xstp ?_ | refine Both.mk ?_ ?_ | refine xgon ?_ | intro _)))))
  all_goals try (
    rw [show spl id l size = ([], 4) from if_pos (fun h => by unfold okS at h; omega)]
    refine FinK.mk ⟨[99], _, _, ⟨0, rfl, rfl⟩, ?_⟩
    (repeat' first | refine And.intro ?_ ?_ | exact xeC | fail)
    all_goals (intro i hi; exact absurd hi (Nat.not_lt_zero i)))
  · rw [show spl id l size = ([], 3) by unfold spl; rw [if_neg (by unfold okS; omega), if_pos ((cnt_64 (by omega)).2 (by omega))]]
    refine FinK.mk ⟨[99], _, _, ⟨0, rfl, rfl⟩, ?_⟩
    (repeat' first | refine And.intro ?_ ?_ | exact xeC | fail)
    all_goals (intro i hi; exact absurd hi (Nat.not_lt_zero i))
  have hoks : okS id size := by unfold okS; omega
  obtain ⟨z, rfl⟩ : ∃ z : Nat, size = z := ⟨size.toNat, by omega⟩
  have hz1 : 1 ≤ z := by omega
  have hz2 : z ≤ 4000 := by omega
  have hq : ((mkS l).size + (z : Int) - 1).tdiv z = (((l.length + z - 1) / z : Nat) : Int) := by
    rw [Int.tdiv_eq_ediv_of_nonneg (by omega), hsz, Int.natCast_ediv]
    congr 1
    omega
  have hqm : (l.length + z - 1) / z ≤ l.length + z - 1 := Nat.div_le_self _ _
  rw [hq]
  have hcnt : cnt l.length z = max 1 ((l.length + z - 1) / z) := rfl
  have hcn : cnt l.length z ≤ 64 := by have := (cnt_64 (n := l.length) hz1).1; omega
  generalize (l.length + z - 1) / z = q at *
  rw [show spl id l (z : Int) = (parts id l z (cnt l.length z) (cnt l.length z), 0) by unfold spl; rw [if_neg (by simpa using hoks), if_neg (by rw [Int.toNat_natCast]; omega), Int.toNat_natCast]]
  generalize hn : cnt l.length z = n at *
  repeat' (first | (fail_if_success (with_reducible refine xstp ?_)); first | ((with_reducible refine And.intro (fun (hb : _ = true) => ?_) (fun (hb : _ = false) => ?_)) <;> replace hb := xnC hb <;> (try first | exact xfC | exact bff hb (by assumption) | exact bff (by assumption) hb)) | (with_reducible refine Both.mk ?_ ?_) | ((with_reducible refine And.intro ?_ ?_); focus exact xoC) | ((with_reducible refine Or.inl ⟨?_, ?_, ?_⟩); (focus rfl); focus exact xaC) | ((with_reducible refine xwB ?_ ?_); focus exact xaC) | ((with_reducible refine xwC ?_ ?_); focus exact xaC) | ((with_reducible refine xwD ?_ ?_); focus exact xaC) | ((with_reducible refine xwE ?_ ?_); focus exact xaC) | (with_reducible intro hc; (try simp only [capsP, and_true] at hc); (try exact xfC)) | ((fail_if_success (with_reducible first | refine xgon ?_ | intro _)); (conv => whnf); (fail_if_success (fail_if_success (with_reducible first | refine xstp ?_ | refine Both.mk ?_ ?_ | refine xgon ?_ | intro _)))))
  · skip
    refine LoopK.mk' {p : Nat × Nat // p.1 ≤ n}
      (fun ⟨(i, c), _⟩ => ⟨[(0, .c (.i .i64 id)), (1, .c (.s (mkS l))), (2, .c (.i .i64 z)), (8, .c (.i .i64 (n : Nat))), (9, .c (.sl 0 0 4 0 (parts id l z n i).length c)), (10, .c (.i .i64 (i : Nat)))],
        [.one (fgR (parts id l z n i) c)]⟩) (fun k => n - k.1.1)
      ⟨⟨(0, 0), Nat.zero_le _⟩, [99], ?_⟩ ?_
    · (repeat' first | refine And.intro ?_ ?_ | exact xeC | fail)
      all_goals first | omega | (intro i hi; exact absurd hi (Nat.not_lt_zero i))
    rintro ⟨⟨i, c⟩, hi⟩
    simp only at hi
    have hiz : i < n → i * z ≤ l.length := fun h => by
      by_cases h0 : i = 0
      · subst h0; omega
      · exact cnt_le hz1 (by omega) (by omega)
    have hpl := parts_len id l z n i
    have hi1 : ((i : Int) + 1) * (z : Int) = ((i * z + z : Nat) : Int) := by rw [Int.add_mul]; push_cast; omega
    repeat' (first | (fail_if_success (with_reducible refine xstp ?_)); first | ((with_reducible refine And.intro (fun (hb : _ = true) => ?_) (fun (hb : _ = false) => ?_)) <;> replace hb := xnC hb <;> (try first | exact xfC | exact bff hb (by assumption) | exact bff (by assumption) hb)) | (with_reducible refine Both.mk ?_ ?_) | ((with_reducible refine And.intro ?_ ?_); focus exact xoC) | ((with_reducible refine Or.inl ⟨?_, ?_, ?_⟩); (focus rfl); focus exact xaC) | ((with_reducible refine xwB ?_ ?_); focus exact xaC) | ((with_reducible refine xwC ?_ ?_); focus exact xaC) | ((with_reducible refine xwD ?_ ?_); focus exact xaC) | ((with_reducible refine xwE ?_ ?_); focus exact xaC) | (with_reducible intro hc; (try simp only [capsP, and_true] at hc); (try exact xfC)) | ((fail_if_success (with_reducible first | refine xgon ?_ | intro _)); (conv => whnf); (fail_if_success (fail_if_success (with_reducible first | refine xstp ?_ | refine Both.mk ?_ ?_ | refine xgon ?_ | intro _)))))
    · rename_i c2
      rw [ext_part2 hsz (e := ((mkS l).size : Int)) (by omega)]
      refine ⟨⟨(i + 1, c2), by simp only; omega⟩, [2], by simp only; omega, ?_⟩
      (repeat' first | refine And.intro ?_ ?_ | exact xeC | fail)
      all_goals try rw [parts_succ]
      all_goals first | omega | (simp only [List.length_append, List.length_singleton]; done) | (rw [List.length_append, List.length_singleton]; omega) | (intro i hi; (first | refine app_rowG _ _ _ _ ?_ i hi | refine app_row _ _ _ ?_ i hi); first | rfl | (simp only [Int.toNat_natCast, Nat.zero_add]; rfl))
    · rename_i c2
      rw [ext_part2 hsz (e := ((i : Int) + 1) * (z : Int)) (by omega)]
      refine ⟨⟨(i + 1, c2), by simp only; omega⟩, [2], by simp only; omega, ?_⟩
      (repeat' first | refine And.intro ?_ ?_ | exact xeC | fail)
      all_goals try rw [parts_succ]
      all_goals first | omega | (simp only [List.length_append, List.length_singleton]; done) | (rw [List.length_append, List.length_singleton]; omega) | (intro i hi; (first | refine app_rowG _ _ _ _ ?_ i hi | refine app_row _ _ _ ?_ i hi); first | rfl | (simp only [Int.toNat_natCast, Nat.zero_add]; rfl))
    · obtain rfl : i = n := by omega
      refine FinK.mk ⟨[0], _, _, ⟨c, rfl, rfl⟩, ?_⟩
      (repeat' first | refine And.intro ?_ ?_ | exact xeC | fail)
  · skip
    refine LoopK.mk' {p : Nat × Nat // p.1 ≤ n}
      (fun ⟨(i, c), _⟩ => ⟨[(0, .c (.i .i64 id)), (1, .c (.s (mkS l))), (2, .c (.i .i64 z)), (8, .c (.i .i64 (n : Nat))), (9, .c (.sl 0 0 4 0 (parts id l z n i).length c)), (10, .c (.i .i64 (i : Nat)))],
        [.one (fgR (parts id l z n i) c)]⟩) (fun k => n - k.1.1)
      ⟨⟨(0, 0), Nat.zero_le _⟩, [99], ?_⟩ ?_
    · (repeat' first | refine And.intro ?_ ?_ | exact xeC | fail)
      all_goals first | omega | (intro i hi; exact absurd hi (Nat.not_lt_zero i))
    rintro ⟨⟨i, c⟩, hi⟩
    simp only at hi
    have hiz : i < n → i * z ≤ l.length := fun h => by
      by_cases h0 : i = 0
      · subst h0; omega
      · exact cnt_le hz1 (by omega) (by omega)
    have hpl := parts_len id l z n i
    have hi1 : ((i : Int) + 1) * (z : Int) = ((i * z + z : Nat) : Int) := by rw [Int.add_mul]; push_cast; omega
    repeat' (first | (fail_if_success (with_reducible refine xstp ?_)); first | ((with_reducible refine And.intro (fun (hb : _ = true) => ?_) (fun (hb : _ = false) => ?_)) <;> replace hb := xnC hb <;> (try first | exact xfC | exact bff hb (by assumption) | exact bff (by assumption) hb)) | (with_reducible refine Both.mk ?_ ?_) | ((with_reducible refine And.intro ?_ ?_); focus exact xoC) | ((with_reducible refine Or.inl ⟨?_, ?_, ?_⟩); (focus rfl); focus exact xaC) | ((with_reducible refine xwB ?_ ?_); focus exact xaC) | ((with_reducible refine xwC ?_ ?_); focus exact xaC) | ((with_reducible refine xwD ?_ ?_); focus exact xaC) | ((with_reducible refine xwE ?_ ?_); focus exact xaC) | (with_reducible intro hc; (try simp only [capsP, and_true] at hc); (try exact xfC)) | ((fail_if_success (with_reducible first | refine xgon ?_ | intro _)); (conv => whnf); (fail_if_success (fail_if_success (with_reducible first | refine xstp ?_ | refine Both.mk ?_ ?_ | refine xgon ?_ | intro _)))))
    · rename_i c2
      rw [ext_part2 hsz (e := ((mkS l).size : Int)) (by omega)]
      refine ⟨⟨(i + 1, c2), by simp only; omega⟩, [2], by simp only; omega, ?_⟩
      (repeat' first | refine And.intro ?_ ?_ | exact xeC | fail)
      all_goals try rw [parts_succ]
      all_goals first | omega | (simp only [List.length_append, List.length_singleton]; done) | (rw [List.length_append, List.length_singleton]; omega) | (intro i hi; (first | refine app_rowG _ _ _ _ ?_ i hi | refine app_row _ _ _ ?_ i hi); first | rfl | (simp only [Int.toNat_natCast, Nat.zero_add]; rfl))
    · rename_i c2
      rw [ext_part2 hsz (e := ((i : Int) + 1) * (z : Int)) (by omega)]
      refine ⟨⟨(i + 1, c2), by simp only; omega⟩, [2], by simp only; omega, ?_⟩
      (repeat' first | refine And.intro ?_ ?_ | exact xeC | fail)
      all_goals try rw [parts_succ]
      all_goals first | omega | (simp only [List.length_append, List.length_singleton]; done) | (rw [List.length_append, List.length_singleton]; omega) | (intro i hi; (first | refine app_rowG _ _ _ _ ?_ i hi | refine app_row _ _ _ ?_ i hi); first | rfl | (simp only [Int.toNat_natCast, Nat.zero_add]; rfl))
    · obtain rfl : i = n := by omega
      refine FinK.mk ⟨[0], _, _, ⟨c, rfl, rfl⟩, ?_⟩
      (repeat' first | refine And.intro ?_ ?_ | exact xeC | fail)
end Go.Proofs.Ytgaodeffbgppmaa

namespace Go.Proofs.Ytgaodeffbgppmaa
open Go.X
set_option linter.unusedSimpArgs false
set_option linter.unusedVariables false
open P4
open P5
theorem parts_get (id : Int) (l : List UInt8) (z n k i : Nat) (h : i < k) : (parts id l z n k).getD i default = part id l z n i := by
  simp [parts, List.getD, h]
theorem part_ok {id size : Int} {l : List UInt8} (h : okS id size) (hc : cnt l.length size.toNat ≤ 64) {i : Nat} (hi : i < cnt l.length size.toNat) : okF (part id l size.toNat (cnt l.length size.toNat) i) := by
  unfold okS at h
  unfold okF part
  simp only [List.length_take]
  have := cnt_le (n := l.length) (z := size.toNat) (k := 1)
  refine ⟨h.1, by omega, by omega, by omega⟩
theorem spl_ok {id size : Int} {l : List UInt8} : ∀ x ∈ (spl id l size).1, okF x := by
  intro x hx
  unfold spl at hx
  split at hx
  · cases hx
  rename_i h
  split at hx
  · cases hx
  rename_i h2
  obtain ⟨i, hi, rfl⟩ := List.mem_map.1 hx
  exact part_ok (by simpa using h) (by omega) (by simpa using hi)
theorem parts_flat (id : Int) (l : List UInt8) (z n : Nat) : ∀ k, (parts id l z n k).flatMap Fg.d = l.take (k * z)
  | 0 => by simp [parts]
  | k + 1 => by
    rw [parts_succ, List.flatMap_append, parts_flat id l z n k]
    simp only [part, List.flatMap_cons, List.flatMap_nil, List.append_nil]
    rw [Nat.add_mul, Nat.one_mul, List.take_add]
theorem spl_flat {id size : Int} {l : List UInt8} (h : (spl id l size).2 = 0) : (spl id l size).1.flatMap Fg.d = l := by
  unfold spl at h ⊢
  split at h
  · exact absurd h (by decide)
  rename_i h1
  rw [if_neg h1]
  split at h
  · exact absurd h (by decide)
  rename_i h2
  rw [if_neg h2, parts_flat, List.take_of_length_le]
  have h1 : okS id size := by simpa using h1
  unfold okS at h1
  exact cnt_ge (by omega)
theorem spl_le (id size : Int) (l : List UInt8) : ((spl id l size).1.flatMap Fg.d).length ≤ l.length := by
  by_cases h : (spl id l size).2 = 0
  · rw [spl_flat h]; exact Nat.le_refl _
  · unfold spl at h ⊢
    repeat' split
    all_goals first | exact Nat.zero_le _ | skip
    rename_i h1 h2
    rw [if_neg h1, if_neg h2] at h
    exact absurd rfl h
theorem spl_len (id size : Int) (l : List UInt8) : (spl id l size).1.length ≤ 64 := by
  unfold spl
  repeat' split
  all_goals first | exact Nat.zero_le _ | (rw [parts_len]; omega)
theorem flat_take (P : List Fg) (i : Nat) : ((P.take i).flatMap Fg.d).length ≤ (P.flatMap Fg.d).length := by
  conv => rhs; rw [← List.take_append_drop i P, List.flatMap_append, List.length_append]
  omega

theorem frame_len {f : Fg} (h : okF f) : (frameL f).length ≤ 5000 := by
  unfold frameL
  rw [if_pos h]
  unfold okF at h
  unfold sealL frmL textL
  have h1 := venc_le f.id.toNat
  have h2 := venc_le f.ix.toNat
  have h3 := venc_le f.ct.toNat
  have h4 := venc_le f.d.length
  simp only [List.length_append, le_length]
  omega

theorem rH15vB0 {σ : List Sg} {H h' : List Fam} {v : T} {K : T → List Fam → Prop} {H' : List Fam} {v' : T} {N : Nat} (hk : K v' H') (hN : H.length = N := by (try simp only [↓List.length_cons, ↓List.length_nil, Nat.reduceAdd]) <;> rfl) (h : givesF σ N H σ h' = some H' := by (try simp (maxSteps := 1000000) only [givesF, setF, updF, Fam.zeroth, Fam.rk, Ck.rk, C.rk, E.rk, T.rk, key, List.map_cons, List.map_nil, List.cons_append, List.nil_append, List.length_cons, List.length_nil, Option.map_some, Option.bind_some, Nat.reduceAdd, Nat.zero_add, Nat.add_zero, Nat.add_sub_cancel_left, Int.toNat_natCast, reps, List.all_cons, List.all_nil, C.flat, List.append_eq, Bool.not_true, Bool.and_true, Bool.or_false, Bool.or_self, Bool.not_false, List.append_nil, Bool.and_self, encG]) <;> rfl) (hv : v.rk σ N = v' := by (try simp only [givesF, setF, updF, Fam.zeroth, Fam.rk, Ck.rk, C.rk, E.rk, T.rk, key, List.map_cons, List.map_nil, List.cons_append, List.nil_append, List.length_cons, List.length_nil, Option.map_some, Option.bind_some, Nat.reduceAdd, Nat.zero_add, Nat.add_zero, Nat.add_sub_cancel_left, Int.toNat_natCast, reps, List.all_cons, List.all_nil, C.flat, List.append_eq, Bool.not_true, Bool.and_true, Bool.or_false, Bool.or_self, Bool.not_false, List.append_nil, Bool.and_self, encG]) <;> rfl) : RetG σ H h' v K := ret_mk3 hN h hv hk
set_option maxRecDepth 20000 in
set_option maxHeartbeats 4000000 in
theorem csplits (id : Int) (l : List UInt8) (size : Int) (hl : l.length ≤ 9223372036854775807) :
    Ctr Try.prog 7 [.c (.i .i64 id), .c (.s (mkS l)), .c (.i .i64 size)] [] fun v _ => v = .c .tt := by
  have hzl : (mkS l).size = l.length := rfl
  refine Ctr.mk' tbv mixed Try.func7 rfl rfl rfl (fun _ _ => by kernel_rfl) (by kernel_rfl) (by rfl) (by rfl) (by (repeat' first | refine And.intro ?_ ?_ | exact xeC | fail)) ?_
  repeat' (first | (fail_if_success (with_reducible refine xstp ?_)); first | ((with_reducible refine And.intro (fun (hb : _ = true) => ?_) (fun (hb : _ = false) => ?_)) <;> replace hb := xnC hb <;> (try first | exact xfC | exact bff hb (by assumption) | exact bff (by assumption) hb)) | (with_reducible refine Both.mk ?_ ?_) | ((with_reducible refine And.intro ?_ ?_); focus exact xoC) | ((with_reducible refine Or.inl ⟨?_, ?_, ?_⟩); (focus rfl); focus exact xaC) | ((with_reducible refine xwB ?_ ?_); focus exact xaC) | ((with_reducible refine xwC ?_ ?_); focus exact xaC) | ((with_reducible refine xwD ?_ ?_); focus exact xaC) | ((with_reducible refine xwE ?_ ?_); focus exact xaC) | (with_reducible intro hc; (try simp only [capsP, and_true] at hc); (try exact xfC)) | ((fail_if_success (with_reducible first | refine xgon ?_ | intro _)); (conv => whnf); (fail_if_success (fail_if_success (with_reducible first | refine xstp ?_ | refine Both.mk ?_ ?_ | refine xgon ?_ | intro _)))))
  · skip
    refine xcal (σ := []) (nl := []) (cawake) ?_
    rintro v h' ⟨rfl, rfl⟩ hcaps
    refine rH15vB0 ?_
    repeat' (first | (fail_if_success (with_reducible refine xstp ?_)); first | ((with_reducible refine And.intro (fun (hb : _ = true) => ?_) (fun (hb : _ = false) => ?_)) <;> replace hb := xnC hb <;> (try first | exact xfC | exact bff hb (by assumption) | exact bff (by assumption) hb)) | (with_reducible refine Both.mk ?_ ?_) | ((with_reducible refine And.intro ?_ ?_); focus exact xoC) | ((with_reducible refine Or.inl ⟨?_, ?_, ?_⟩); (focus rfl); focus exact xaC) | ((with_reducible refine xwB ?_ ?_); focus exact xaC) | ((with_reducible refine xwC ?_ ?_); focus exact xaC) | ((with_reducible refine xwD ?_ ?_); focus exact xaC) | ((with_reducible refine xwE ?_ ?_); focus exact xaC) | (with_reducible intro hc; (try simp only [capsP, and_true] at hc); (try exact xfC)) | ((fail_if_success (with_reducible first | refine xgon ?_ | intro _)); (conv => whnf); (fail_if_success (fail_if_success (with_reducible first | refine xstp ?_ | refine Both.mk ?_ ?_ | refine xgon ?_ | intro _)))))
    refine FinK.mk ⟨[], _, [], rfl, ?_⟩
    (repeat' first | refine And.intro ?_ ?_ | exact xeC | fail)
  refine xcal (σ := []) (nl := []) (cSplit id l size (by omega)) ?_
  rintro v h' ⟨c, rfl, rfl⟩ hcaps
  refine xret ?_
  repeat' (first | (fail_if_success (with_reducible refine xstp ?_)); first | ((with_reducible refine And.intro (fun (hb : _ = true) => ?_) (fun (hb : _ = false) => ?_)) <;> replace hb := xnC hb <;> (try first | exact xfC | exact bff hb (by assumption) | exact bff (by assumption) hb)) | (with_reducible refine Both.mk ?_ ?_) | ((with_reducible refine And.intro ?_ ?_); focus exact xoC) | ((with_reducible refine Or.inl ⟨?_, ?_, ?_⟩); (focus rfl); focus exact xaC) | ((with_reducible refine xwB ?_ ?_); focus exact xaC) | ((with_reducible refine xwC ?_ ?_); focus exact xaC) | ((with_reducible refine xwD ?_ ?_); focus exact xaC) | ((with_reducible refine xwE ?_ ?_); focus exact xaC) | (with_reducible intro hc; (try simp only [capsP, and_true] at hc); (try exact xfC)) | ((fail_if_success (with_reducible first | refine xgon ?_ | intro _)); (conv => whnf); (fail_if_success (fail_if_success (with_reducible first | refine xstp ?_ | refine Both.mk ?_ ?_ | refine xgon ?_ | intro _)))))
  refine xcal (σ := []) (nl := []) (cSplitR id l size (by omega)) ?_
  rintro v h' ⟨c', rfl, rfl⟩ hcaps
  refine xret ?_
  repeat' (first | (fail_if_success (with_reducible refine xstp ?_)); first | ((with_reducible refine And.intro (fun (hb : _ = true) => ?_) (fun (hb : _ = false) => ?_)) <;> replace hb := xnC hb <;> (try first | exact xfC | exact bff hb (by assumption) | exact bff (by assumption) hb)) | (with_reducible refine Both.mk ?_ ?_) | ((with_reducible refine And.intro ?_ ?_); focus exact xoC) | ((with_reducible refine Or.inl ⟨?_, ?_, ?_⟩); (focus rfl); focus exact xaC) | ((with_reducible refine xwB ?_ ?_); focus exact xaC) | ((with_reducible refine xwC ?_ ?_); focus exact xaC) | ((with_reducible refine xwD ?_ ?_); focus exact xaC) | ((with_reducible refine xwE ?_ ?_); focus exact xaC) | (with_reducible intro hc; (try simp only [capsP, and_true] at hc); (try exact xfC)) | ((fail_if_success (with_reducible first | refine xgon ?_ | intro _)); (conv => whnf); (fail_if_success (fail_if_success (with_reducible first | refine xstp ?_ | refine Both.mk ?_ ?_ | refine xgon ?_ | intro _)))))
  have hle := spl_le id size l
  have hln := spl_len id size l
  have hok := spl_ok (id := id) (size := size) (l := l)
  have hfl := spl_flat (id := id) (size := size) (l := l)
  generalize spl id l size = R at *
  obtain ⟨P, e⟩ := R
  simp only at hle hln hok hfl
  refine LoopK.mk' {i : Nat // i ≤ P.length}
    (fun ⟨i, _⟩ => ⟨[(1, .c (.s (mkS l))), (7, .c (.sl 0 0 4 0 P.length c)), (8, .c (.i .i64 (e : Nat))), (9, .c (.sl 1 0 4 0 P.length c')), (11, .c (.s (mkS ((P.take i).flatMap Fg.d)))), (12, .c (.i .i64 (i : Nat)))],
      [.one (fgR P c), .one (fgR P c')]⟩) (fun k => P.length - k.1)
    ⟨⟨0, Nat.zero_le _⟩, [0, 1], ?_⟩ ?_
  · (repeat' first | refine And.intro ?_ ?_ | exact xeC | fail)
  rintro ⟨i, hi⟩
  have hft := flat_take P i
  have hfz : (mkS ((P.take i).flatMap Fg.d)).size = ((P.take i).flatMap Fg.d).length := rfl
  repeat' (first | (fail_if_success (with_reducible refine xstp ?_)); first | ((with_reducible refine And.intro (fun (hb : _ = true) => ?_) (fun (hb : _ = false) => ?_)) <;> replace hb := xnC hb <;> (try first | exact xfC | exact bff hb (by assumption) | exact bff (by assumption) hb)) | (with_reducible refine Both.mk ?_ ?_) | ((with_reducible refine And.intro ?_ ?_); focus exact xoC) | ((with_reducible refine Or.inl ⟨?_, ?_, ?_⟩); (focus rfl); focus exact xaC) | ((with_reducible refine xwB ?_ ?_); focus exact xaC) | ((with_reducible refine xwC ?_ ?_); focus exact xaC) | ((with_reducible refine xwD ?_ ?_); focus exact xaC) | ((with_reducible refine xwE ?_ ?_); focus exact xaC) | (with_reducible intro hc; (try simp only [capsP, and_true] at hc); (try exact xfC)) | ((fail_if_success (with_reducible first | refine xgon ?_ | intro _)); (conv => whnf); (fail_if_success (fail_if_success (with_reducible first | refine xstp ?_ | refine Both.mk ?_ ?_ | refine xgon ?_ | intro _)))))
  · have hxo : okF (P.getD i default) := hok _ (by rw [getD_at (by omega)]; exact List.getElem_mem _)
    have hxd : (P.getD i default).d.length ≤ 4000 := by unfold okF at hxo; exact hxo.2.2.2
    have hfl2 := frame_len hxo
    have hstep : (P.take (i + 1)).flatMap Fg.d = (P.take i).flatMap Fg.d ++ (P.getD i default).d := by
      rw [take_snocG P (by omega), List.flatMap_append]
      simp
    have huf := unf_fw hxo
    have hlast := flat_take P (i + 1)
    rw [hstep, List.length_append] at hlast
    have hdz : (mkS (P.getD i default).d).size = (P.getD i default).d.length := rfl
    simp only [Int.toNat_natCast, Nat.zero_add] at *
    refine xcal (σ := []) (nl := []) (cFrame (P.getD i default) (by omega)) ?_
    rintro v h' ⟨rfl, rfl⟩ hcaps
    refine rH15vB0 ?_
    repeat' (first | (fail_if_success (with_reducible refine xstp ?_)); first | ((with_reducible refine And.intro (fun (hb : _ = true) => ?_) (fun (hb : _ = false) => ?_)) <;> replace hb := xnC hb <;> (try first | exact xfC | exact bff hb (by assumption) | exact bff (by assumption) hb)) | (with_reducible refine Both.mk ?_ ?_) | ((with_reducible refine And.intro ?_ ?_); focus exact xoC) | ((with_reducible refine Or.inl ⟨?_, ?_, ?_⟩); (focus rfl); focus exact xaC) | ((with_reducible refine xwB ?_ ?_); focus exact xaC) | ((with_reducible refine xwC ?_ ?_); focus exact xaC) | ((with_reducible refine xwD ?_ ?_); focus exact xaC) | ((with_reducible refine xwE ?_ ?_); focus exact xaC) | (with_reducible intro hc; (try simp only [capsP, and_true] at hc); (try exact xfC)) | ((fail_if_success (with_reducible first | refine xgon ?_ | intro _)); (conv => whnf); (fail_if_success (fail_if_success (with_reducible first | refine xstp ?_ | refine Both.mk ?_ ?_ | refine xgon ?_ | intro _)))))
    refine xcal (σ := []) (nl := []) (cUnframe (frameL (P.getD i default)) (by omega)) ?_
    rintro v h' ⟨rfl, rfl⟩ hcaps
    rw [huf]
    refine rH15vB0 ?_
    repeat' (first | (fail_if_success (with_reducible refine xstp ?_)); first | ((with_reducible refine And.intro (fun (hb : _ = true) => ?_) (fun (hb : _ = false) => ?_)) <;> replace hb := xnC hb <;> (try first | exact xfC | exact bff hb (by assumption) | exact bff (by assumption) hb)) | (with_reducible refine Both.mk ?_ ?_) | ((with_reducible refine And.intro ?_ ?_); focus exact xoC) | ((with_reducible refine Or.inl ⟨?_, ?_, ?_⟩); (focus rfl); focus exact xaC) | ((with_reducible refine xwB ?_ ?_); focus exact xaC) | ((with_reducible refine xwC ?_ ?_); focus exact xaC) | ((with_reducible refine xwD ?_ ?_); focus exact xaC) | ((with_reducible refine xwE ?_ ?_); focus exact xaC) | (with_reducible intro hc; (try simp only [capsP, and_true] at hc); (try exact xfC)) | ((fail_if_success (with_reducible first | refine xgon ?_ | intro _)); (conv => whnf); (fail_if_success (fail_if_success (with_reducible first | refine xstp ?_ | refine Both.mk ?_ ?_ | refine xgon ?_ | intro _)))))
    refine xcal (σ := []) (nl := []) (cFrame (P.getD i default) (by omega)) ?_
    rintro v h' ⟨rfl, rfl⟩ hcaps
    refine rH15vB0 ?_
    repeat' (first | (fail_if_success (with_reducible refine xstp ?_)); first | ((with_reducible refine And.intro (fun (hb : _ = true) => ?_) (fun (hb : _ = false) => ?_)) <;> replace hb := xnC hb <;> (try first | exact xfC | exact bff hb (by assumption) | exact bff (by assumption) hb)) | (with_reducible refine Both.mk ?_ ?_) | ((with_reducible refine And.intro ?_ ?_); focus exact xoC) | ((with_reducible refine Or.inl ⟨?_, ?_, ?_⟩); (focus rfl); focus exact xaC) | ((with_reducible refine xwB ?_ ?_); focus exact xaC) | ((with_reducible refine xwC ?_ ?_); focus exact xaC) | ((with_reducible refine xwD ?_ ?_); focus exact xaC) | ((with_reducible refine xwE ?_ ?_); focus exact xaC) | (with_reducible intro hc; (try simp only [capsP, and_true] at hc); (try exact xfC)) | ((fail_if_success (with_reducible first | refine xgon ?_ | intro _)); (conv => whnf); (fail_if_success (fail_if_success (with_reducible first | refine xstp ?_ | refine Both.mk ?_ ?_ | refine xgon ?_ | intro _)))))
    refine xcal (σ := []) (nl := []) (cFrameR (P.getD i default) (by omega)) ?_
    rintro v h' ⟨rfl, rfl⟩ hcaps
    refine rH15vB0 ?_
    repeat' (first | (fail_if_success (with_reducible refine xstp ?_)); first | ((with_reducible refine And.intro (fun (hb : _ = true) => ?_) (fun (hb : _ = false) => ?_)) <;> replace hb := xnC hb <;> (try first | exact xfC | exact bff hb (by assumption) | exact bff (by assumption) hb)) | (with_reducible refine Both.mk ?_ ?_) | ((with_reducible refine And.intro ?_ ?_); focus exact xoC) | ((with_reducible refine Or.inl ⟨?_, ?_, ?_⟩); (focus rfl); focus exact xaC) | ((with_reducible refine xwB ?_ ?_); focus exact xaC) | ((with_reducible refine xwC ?_ ?_); focus exact xaC) | ((with_reducible refine xwD ?_ ?_); focus exact xaC) | ((with_reducible refine xwE ?_ ?_); focus exact xaC) | (with_reducible intro hc; (try simp only [capsP, and_true] at hc); (try exact xfC)) | ((fail_if_success (with_reducible first | refine xgon ?_ | intro _)); (conv => whnf); (fail_if_success (fail_if_success (with_reducible first | refine xstp ?_ | refine Both.mk ?_ ?_ | refine xgon ?_ | intro _)))))
    rw [mkS_append]
    refine ⟨⟨i + 1, by omega⟩, [0, 1], by simp only; omega, ?_⟩
    (repeat' first | refine And.intro ?_ ?_ | exact xeC | fail)
    rw [Int.toNat_natCast, Nat.zero_add]
    exact congrArg mkS hstep.symm
  · skip
    refine xcal (σ := []) (nl := []) (cawake) ?_
    rintro v h' ⟨rfl, rfl⟩ hcaps
    refine rH15vB0 ?_
    repeat' (first | (fail_if_success (with_reducible refine xstp ?_)); first | ((with_reducible refine And.intro (fun (hb : _ = true) => ?_) (fun (hb : _ = false) => ?_)) <;> replace hb := xnC hb <;> (try first | exact xfC | exact bff hb (by assumption) | exact bff (by assumption) hb)) | (with_reducible refine Both.mk ?_ ?_) | ((with_reducible refine And.intro ?_ ?_); focus exact xoC) | ((with_reducible refine Or.inl ⟨?_, ?_, ?_⟩); (focus rfl); focus exact xaC) | ((with_reducible refine xwB ?_ ?_); focus exact xaC) | ((with_reducible refine xwC ?_ ?_); focus exact xaC) | ((with_reducible refine xwD ?_ ?_); focus exact xaC) | ((with_reducible refine xwE ?_ ?_); focus exact xaC) | (with_reducible intro hc; (try simp only [capsP, and_true] at hc); (try exact xfC)) | ((fail_if_success (with_reducible first | refine xgon ?_ | intro _)); (conv => whnf); (fail_if_success (fail_if_success (with_reducible first | refine xstp ?_ | refine Both.mk ?_ ?_ | refine xgon ?_ | intro _)))))
    refine FinK.mk ⟨[], _, [], rfl, ?_⟩
    (repeat' first | refine And.intro ?_ ?_ | exact xeC | fail)
  · skip
    refine xcal (σ := []) (nl := []) (cawake) ?_
    rintro v h' ⟨rfl, rfl⟩ hcaps
    refine rH15vB0 ?_
    repeat' (first | (fail_if_success (with_reducible refine xstp ?_)); first | ((with_reducible refine And.intro (fun (hb : _ = true) => ?_) (fun (hb : _ = false) => ?_)) <;> replace hb := xnC hb <;> (try first | exact xfC | exact bff hb (by assumption) | exact bff (by assumption) hb)) | (with_reducible refine Both.mk ?_ ?_) | ((with_reducible refine And.intro ?_ ?_); focus exact xoC) | ((with_reducible refine Or.inl ⟨?_, ?_, ?_⟩); (focus rfl); focus exact xaC) | ((with_reducible refine xwB ?_ ?_); focus exact xaC) | ((with_reducible refine xwC ?_ ?_); focus exact xaC) | ((with_reducible refine xwD ?_ ?_); focus exact xaC) | ((with_reducible refine xwE ?_ ?_); focus exact xaC) | (with_reducible intro hc; (try simp only [capsP, and_true] at hc); (try exact xfC)) | ((fail_if_success (with_reducible first | refine xgon ?_ | intro _)); (conv => whnf); (fail_if_success (fail_if_success (with_reducible first | refine xstp ?_ | refine Both.mk ?_ ?_ | refine xgon ?_ | intro _)))))
    refine FinK.mk ⟨[], _, [], rfl, ?_⟩
    (repeat' first | refine And.intro ?_ ?_ | exact xeC | fail)
  · exfalso
    rw [List.take_of_length_le (by omega)] at hb
    exact hb (by rw [hfl (by omega)])

open Go.RowKit in
theorem walk_PacketSplits (W : World) (a0 : Int) (w0 : (Lit.int .i64 a0).wf = true) (a1 : ByteArray) (s1 : a1.size ≤ 140737488351232) (a2 : Int) (w2 : (Lit.int .i64 a2).wf = true) :
    Calls Try.prog 7 #[.int .i64 a0, .string a1, .int .i64 a2] W fun e W' => e = .returned (.bool true) ∧ Below W.heap.size W W' := by
  obtain ⟨hf, hno⟩ := nil_read (fun _ _ => (0, 0, .nil)) W
  have := glue (csplits a0 a1.data.toList a2 (by rw [P4.size_len]; omega)) hf hno
  rw [mkS_of] at this
  exact this
end Go.Proofs.Ytgaodeffbgppmaa

namespace Go.Proofs.Ytgaodeffbgppmaa
open Go.X
set_option linter.unusedVariables false
set_option linter.unusedSimpArgs false
theorem remD_len (dn : List (Int × Int)) (p : Int × Int) : (remD dn p).length ≤ dn.length + 1 := by
  unfold remD
  rw [List.length_append, List.length_singleton]
  split
  · have := List.length_eraseP_le (l := dn) (p := fun q => decide (q.1 = p.1))
    omega
  · exact Nat.le_refl _
theorem mem_cutL {L : List Tx} {k : Nat} {t : Tx} (h : t ∈ cutL L k) : t ∈ L := by
  unfold cutL at h
  rcases List.mem_append.1 h with h | h
  · exact List.mem_of_mem_take h
  · exact List.mem_of_mem_drop h
theorem AOk.mono {mo : Int} {N : Nat} {J J' : List Nat} {L : List Tx} {dn : List (Int × Int)} (h : AOk mo N J L dn) (hJ : ∀ j ∈ J', j < N + 1) (hl : J'.length ≤ 1) : AOk mo (N + 1) J' L dn :=
  ⟨h.mo1, h.mo2, h.len, h.dn, h.nd, fun t ht => Nat.lt_succ_of_lt (h.idN t ht), hJ, hl, h.ct, h.mlen, h.dat, h.ix, h.key⟩
theorem AOk.sub {mo : Int} {N : Nat} {J : List Nat} {L L' : List Tx} {dn dn' : List (Int × Int)} (h : AOk mo N J L dn) (hs : L'.Sublist L) (hd : dn'.length ≤ 1000000) : AOk mo N J L' dn' :=
  ⟨h.mo1, h.mo2, by have := h.len; have := hs.length_le; omega, hd, List.Nodup.sublist (hs.map Tx.id) h.nd, fun t ht => h.idN t (hs.subset ht), h.jN, h.jl, fun t ht => h.ct t (hs.subset ht), fun t ht => h.mlen t (hs.subset ht), fun t ht => h.dat t (hs.subset ht), fun t ht => h.ix t (hs.subset ht), fun t ht => h.key t (hs.subset ht)⟩
theorem cutL_sub (L : List Tx) (k : Nat) : (cutL L k).Sublist L := by
  unfold cutL
  conv => rhs; rw [← List.take_append_drop k L]
  exact List.Sublist.append_left (by rw [show k + 1 = k + 1 from rfl, ← List.drop_drop]; exact List.drop_sublist _ _) _
theorem AOk.ins {mo : Int} {N : Nat} {J : List Nat} {L : List Tx} {dn : List (Int × Int)} (h : AOk mo N J L dn) {k : Nat} {f : Fg} (hk : k < L.length) (hf : okF f) (hct : (L.getD k default).ct = f.ct) (hno : pget (L.getD k default).M f.ix = none) (hm : ((L.getD k default).M.length : Int) + 1 < f.ct) :
    AOk mo N J (L.set k (insT (L.getD k default) f)) dn := by
  have ht : L.getD k default ∈ L := by rw [getD_at hk]; exact List.getElem_mem _
  have hfk := hf
  unfold okF at hfk
  have hno' : ∀ i, i < (L.getD k default).M.length → ((L.getD k default).M.getD i default).2.1 ≠ f.ix := by
    intro i hi e
    unfold pget at hno
    have h1 : (L.getD k default).M.find? (fun e => e.2.1 == f.ix) = none := by
      cases hq : (L.getD k default).M.find? (fun e => e.2.1 == f.ix) with
      | none => rfl
      | some q => rw [hq] at hno; cases hno
    rw [List.find?_eq_none] at h1
    have := h1 _ (by rw [getD_at hi]; exact List.getElem_mem _ : (L.getD k default).M.getD i default ∈ (L.getD k default).M)
    rw [e] at this
    simp at this
  have hmem : ∀ t ∈ L.set k (insT (L.getD k default) f), t ∈ L ∨ t = insT (L.getD k default) f := fun t ht => List.mem_or_eq_of_mem_set ht
  refine ⟨h.mo1, h.mo2, by rw [List.length_set]; exact h.len, h.dn, by rw [idsOf_set hk]; exact h.nd, fun t ht' => ?_, h.jN, h.jl, fun t ht' => ?_, fun t ht' => ?_, fun t ht' => ?_, fun t ht' => ?_, fun t ht' => ?_⟩
  · rcases hmem t ht' with h1 | rfl
    · exact h.idN t h1
    · exact h.idN (L.getD k default) ht
  · rcases hmem t ht' with h1 | rfl
    · exact h.ct t h1
    · exact h.ct (L.getD k default) ht
  · rcases hmem t ht' with h1 | rfl
    · exact h.mlen t h1
    · show ((((L.getD k default).M ++ [((L.getD k default).ck, f.ix, f.d)]).length : Nat) : Int) < (L.getD k default).ct
      rw [List.length_append, List.length_singleton]
      omega
  · rcases hmem t ht' with h1 | rfl
    · exact h.dat t h1
    · intro e he
      rcases List.mem_append.1 he with he | he
      · exact h.dat _ ht e he
      · rw [List.mem_singleton.1 he]; exact hfk.2.2.2
  · rcases hmem t ht' with h1 | rfl
    · exact h.ix t h1
    · intro e he
      rcases List.mem_append.1 he with he | he
      · exact h.ix _ ht e he
      · rw [List.mem_singleton.1 he]
        show 0 ≤ f.ix ∧ f.ix < (L.getD k default).ct
        omega
  · rcases hmem t ht' with h1 | rfl
    · exact h.key t h1
    · exact key_snoc (h.key _ ht) hno'
theorem AOk.new {mo : Int} {N : Nat} {J J' : List Nat} {L : List Tx} {dn : List (Int × Int)} (h : AOk mo N J L dn) {fr : Int} {f : Fg} (hf : okF f) (hct : 1 < f.ct) (hL : (L.length : Int) + 1 ≤ mo) (hJ : ∀ j ∈ J', j < N + 1) (hl : J'.length ≤ 1) :
    AOk mo (N + 1) J' (L ++ [newT N fr f]) dn := by
  have hfk := hf
  unfold okF at hfk
  have hmem : ∀ t ∈ L ++ [newT N fr f], t ∈ L ∨ t = newT N fr f := fun t ht => by
    rcases List.mem_append.1 ht with h | h
    · exact Or.inl h
    · exact Or.inr (List.mem_singleton.1 h)
  refine ⟨h.mo1, h.mo2, by rw [List.length_append, List.length_singleton]; omega, h.dn, ?_, fun t ht' => ?_, hJ, hl, fun t ht' => ?_, fun t ht' => ?_, fun t ht' => ?_, fun t ht' => ?_, fun t ht' => ?_⟩
  · unfold idsOf
    rw [List.map_append, List.nodup_append]
    refine ⟨h.nd, by simp, fun a ha b hb => ?_⟩
    obtain ⟨t, ht, rfl⟩ := List.mem_map.1 ha
    have := h.idN t ht
    simp [newT] at hb
    omega
  · rcases hmem t ht' with h1 | rfl
    · exact Nat.lt_succ_of_lt (h.idN t h1)
    · exact Nat.lt_succ_self N
  · rcases hmem t ht' with h1 | rfl
    · exact h.ct t h1
    · exact hfk.2.1
  · rcases hmem t ht' with h1 | rfl
    · exact h.mlen t h1
    · exact hct
  · rcases hmem t ht' with h1 | rfl
    · exact h.dat t h1
    · intro e he
      rw [List.mem_singleton.1 he]; exact hfk.2.2.2
  · rcases hmem t ht' with h1 | rfl
    · exact h.ix t h1
    · intro e he
      rw [List.mem_singleton.1 he]
      exact hfk.2.2.1
  · rcases hmem t ht' with h1 | rfl
    · exact h.key t h1
    · intro i j hij hj
      simp [newT] at hj
      omega
theorem addA_ok {mo : Int} {N : Nat} {J J' : List Nat} {L : List Tx} {dn : List (Int × Int)} (h : AOk mo N J L dn) (fr : Int) (f : Fg) (hd : dn.length < 1000000) (hJ : ∀ j ∈ J', j < N + 1) (hl : J'.length ≤ 1) :
    AOk mo (N + 1) J' (addA mo N L dn fr f).1 (addA mo N L dn fr f).2.1 := by
  by_cases hok : (0 ≤ fr ∧ fr ≤ 7) ∧ okF f
  · rcases (by cases fnd L (fr, f.id) <;> simp : (∃ k, fnd L (fr, f.id) = some k) ∨ fnd L (fr, f.id) = none) with ⟨k, hf⟩ | hf
    · rw [addA_some hok hf]
      have hk := fnd_lt hf
      split
      · exact h.mono hJ hl
      rename_i hct
      split
      · split <;> exact h.mono hJ hl
      · rename_i hno
        split
        · rename_i hm
          exact (h.ins hk hok.2 (by simpa using hct) hno hm).mono hJ hl
        · have := remD_len dn (fr, f.id)
          exact (h.sub (cutL_sub L k) (by simp only; omega)).mono hJ hl
    · rw [addA_none hok hf]
      split
      · exact h.mono hJ hl
      split
      · rename_i hct
        have hlen := h.len
        by_cases hm : mo < L.length + 1
        · simp only [if_pos hm]
          have h1 := h.sub (L' := L.drop 1) (dn' := dn) (List.drop_sublist _ _) h.dn
          exact h1.new hok.2 hct (by rw [List.length_drop]; have := h.mo1; omega) hJ hl
        · simp only [if_neg hm]
          exact h.new hok.2 hct (by omega) hJ hl
      · have := remD_len dn (fr, f.id)
        exact (h.sub (List.Sublist.refl L) (by simp only; omega)).mono hJ hl
  · have : addA mo N L dn fr f = (L, dn, [], false, 4) := by unfold addA; rw [if_pos hok]
    rw [this]
    exact h.mono hJ hl
end Go.Proofs.Ytgaodeffbgppmaa

namespace Go.Proofs.Ytgaodeffbgppmaa
open Go.X
set_option linter.unusedVariables false
set_option linter.unusedSimpArgs false
theorem nodup_le : ∀ (n : Nat) (S : List Nat), S.Nodup → (∀ k ∈ S, k < n) → S.length ≤ n
  | 0, S, _, h => by
    cases S with
    | nil => exact Nat.le_refl _
    | cons a S => exact absurd (h a (List.mem_cons_self ..)) (Nat.not_lt_zero _)
  | n + 1, S, hn, h => by
    by_cases hm : n ∈ S
    · have h1 := nodup_le n (S.erase n) (hn.erase n) (fun k hk => by
        have := (hn.mem_erase_iff).1 hk
        have := h k this.2
        omega)
      rw [List.length_erase_of_mem hm] at h1
      omega
    · have := nodup_le n S hn (fun k hk => by
        have := h k hk
        have : k ≠ n := fun e => hm (e ▸ hk)
        omega)
      omega
theorem nodup_all {n : Nat} {S : List Nat} (hn : S.Nodup) (h : ∀ k ∈ S, k < n) (hl : S.length = n) {i : Nat} (hi : i < n) : i ∈ S := by
  apply Decidable.byContradiction
  intro hno
  have := nodup_le n (i :: S) (List.nodup_cons.2 ⟨hno, hn⟩) (fun k hk => by
    rcases List.mem_cons.1 hk with rfl | hk
    · exact hi
    · exact h k hk)
  rw [List.length_cons] at this
  omega
theorem pget_snd (M : List (Nat × Int × List UInt8)) (ix : Int) : pget M ix = ((M.map Prod.snd).find? fun e => e.1 == ix).map Prod.snd := by
  unfold pget
  rw [List.find?_map]
  simp only [Option.map_map]
  rfl
theorem pget_S {M : List (Nat × Int × List UInt8)} {S : List Nat} {D : Nat → List UInt8} (h : M.map Prod.snd = S.map fun (j : Nat) => ((j : Int), D j)) (k : Nat) : pget M (k : Int) = if k ∈ S then some (D k) else none := by
  rw [pget_snd, h, List.find?_map]
  by_cases hk : k ∈ S
  · rw [if_pos hk]
    have : S.find? ((fun e : Int × List UInt8 => e.1 == (k : Int)) ∘ fun j : Nat => ((j : Int), D j)) = some k := by
      have h1 : (S.find? ((fun e : Int × List UInt8 => e.1 == (k : Int)) ∘ fun j : Nat => ((j : Int), D j))).isSome := by
        rw [List.find?_isSome]
        exact ⟨k, hk, by simp⟩
      obtain ⟨q, hq⟩ := Option.isSome_iff_exists.1 h1
      have := List.find?_some hq
      simp at this
      rw [hq, show q = k by omega]
    rw [this]
    rfl
  · rw [if_neg hk]
    have : S.find? ((fun e : Int × List UInt8 => e.1 == (k : Int)) ∘ fun j : Nat => ((j : Int), D j)) = none := by
      rw [List.find?_eq_none]
      intro x hx e
      simp at e
      exact hk ((show x = k by omega) ▸ hx)
    rw [this]
    rfl
/-- The assembler has what is in S. -/
def RelA (n : Nat) (D : Nat → List UInt8) (S : List Nat) (L : List Tx) (dn : List (Int × Int)) : Prop :=
  (S = [] ∧ L = [] ∧ dn = []) ∨ (0 < S.length ∧ S.length < n ∧ dn = [] ∧ ∃ x ck M, L = [⟨x, 3, 9, n, M, ck⟩] ∧ M.map Prod.snd = S.map fun (j : Nat) => ((j : Int), D j)) ∨ (S.length = n ∧ 0 < n ∧ L = [] ∧ dn = [(3, 9)])
def outD (D : Nat → List UInt8) (n : Nat) : List UInt8 := (List.range n).flatMap D
theorem outS_D {M : List (Nat × Int × List UInt8)} {D : Nat → List UInt8} (ct : Int) {n : Nat} (h : ∀ i, i < n → pget M (i : Int) = some (D i)) : outS ct M n = outD D n := by
  unfold outS outD
  rw [List.flatMap_def, List.flatMap_def]
  congr 1
  apply List.map_congr_left
  intro i hi
  rw [h i (List.mem_range.1 hi)]
  rfl
theorem relA_step {n N : Nat} {D : Nat → List UInt8} {S : List Nat} {L : List Tx} {dn : List (Int × Int)} (hR : RelA n D S L dn) (hS : S.Nodup) (hlt : ∀ k ∈ S, k < n) {k : Nat} (hk : k < n) (hok : okF ⟨9, k, n, D k⟩) :
    (k ∈ S → addA 1 N L dn 3 ⟨9, k, n, D k⟩ = (L, dn, [], false, 0)) ∧
    (k ∉ S → ∃ L' dn', RelA n D (S ++ [k]) L' dn' ∧ addA 1 N L dn 3 ⟨9, k, n, D k⟩ = (L', dn', if S.length + 1 = n then outD D n else [], decide (S.length + 1 = n), 0)) := by
  have hok' : ((0 : Int) ≤ 3 ∧ (3 : Int) ≤ 7) ∧ okF ⟨9, k, n, D k⟩ := ⟨⟨by decide, by decide⟩, hok⟩
  have hall : k ∉ S → S.length + 1 = n → ∀ i, i < n → i ∈ S ++ [k] := fun hno hl i hi =>
    nodup_all (List.nodup_append.2 ⟨hS, by simp, fun a ha b hb e => hno (by rw [List.mem_singleton.1 hb] at e; exact e ▸ ha)⟩) (fun j hj => by
      rcases List.mem_append.1 hj with hj | hj
      · exact hlt j hj
      · rw [List.mem_singleton.1 hj]; exact hk) (by rw [List.length_append, List.length_singleton]; exact hl) hi
  rcases hR with ⟨rfl, rfl, rfl⟩ | ⟨h0, h1, rfl, x, ck, M, rfl, hM⟩ | ⟨h1, h0, rfl, rfl⟩
  · refine ⟨fun h => absurd h (by simp), fun _ => ?_⟩
    have hf : fnd [] (3, (⟨9, k, n, D k⟩ : Fg).id) = none := rfl
    rw [addA_none hok' hf, if_neg (by simp)]
    by_cases hn : 1 < n
    · rw [if_pos (show (1 : Int) < (n : Int) by omega), if_neg (by simp), if_neg (by simp; omega)]
      refine ⟨_, _, Or.inr (Or.inl ⟨by simp, by simpa using hn, rfl, N, 1, [(0, (k : Int), D k)], rfl, rfl⟩), ?_⟩
      rw [decide_eq_false (by simp; omega)]
      rfl
    · rw [if_neg (show ¬ (1 : Int) < (n : Int) by omega), if_pos (by simp; omega)]
      obtain rfl : n = 1 := by omega
      obtain rfl : k = 0 := by omega
      refine ⟨[], [(3, 9)], Or.inr (Or.inr ⟨by simp, by omega, rfl, rfl⟩), ?_⟩
      rw [decide_eq_true (by simp)]
      simp [outD, remD, cntD]
  · have hf : fnd [⟨x, 3, 9, n, M, ck⟩] (3, (⟨9, k, n, D k⟩ : Fg).id) = some 0 := by simp [fnd]
    have hML : M.length = S.length := by have := congrArg List.length hM; simpa using this
    rw [addA_some hok' hf]
    have e0 : ([⟨x, 3, 9, n, M, ck⟩] : List Tx).getD 0 default = ⟨x, 3, 9, n, M, ck⟩ := rfl
    rw [e0]
    have hp := pget_S hM k
    refine ⟨fun hin => ?_, fun hno => ?_⟩
    · rw [if_pos hin] at hp
      simp only [hp]
      simp
    · rw [if_neg hno] at hp
      simp only [hp]
      rw [if_neg (by simp)]
      have hM2 : (M ++ [(ck, (k : Int), D k)]).map Prod.snd = (S ++ [k]).map fun (j : Nat) => ((j : Int), D j) := by simp [hM]
      by_cases hn : S.length + 1 = n
      · rw [if_neg (show ¬ ((M.length : Int) + 1 < (n : Int)) by omega), if_pos hn, decide_eq_true hn]
        refine ⟨[], [(3, 9)], Or.inr (Or.inr ⟨by rw [List.length_append, List.length_singleton]; exact hn, by omega, rfl, rfl⟩), ?_⟩
        have ho := outS_D (M := M ++ [(ck, (k : Int), D k)]) (D := D) (n : Int) (n := n) (fun i hi => by
          rw [pget_S hM2 i, if_pos (hall hno hn i hi)])
        have e1 : outS (n : Int) (insT ⟨x, 3, 9, n, M, ck⟩ ⟨9, k, n, D k⟩).M (n : Int).toNat = outD D n := by
          rw [Int.toNat_natCast]; exact ho
        rw [e1]
        simp [cutL, remD, cntD]
      · rw [if_pos (show ((M.length : Int) + 1 < (n : Int)) by omega), if_neg hn, decide_eq_false hn]
        exact ⟨_, _, Or.inr (Or.inl ⟨by simp, by rw [List.length_append, List.length_singleton]; omega, rfl, x, ck + 1, M ++ [(ck, (k : Int), D k)], rfl, hM2⟩), rfl⟩
  · have hin : ∀ i, i < n → i ∈ S := fun i hi => nodup_all hS hlt h1 hi
    refine ⟨fun _ => ?_, fun hno => absurd (hin k hk) hno⟩
    have hf : fnd [] (3, (⟨9, k, n, D k⟩ : Fg).id) = none := rfl
    rw [addA_none hok' hf, if_pos (by simp)]
end Go.Proofs.Ytgaodeffbgppmaa

namespace Go.Proofs.Ytgaodeffbgppmaa
open Go.X
set_option linter.unusedSimpArgs false
set_option linter.unusedVariables false
open P4
open P5
abbrev u8R (l : List UInt8) (c : Nat) : Ck := .row false false 5 1 l.length c (rowOf encB8 l)
def seenF (S : List Nat) (i : Nat) : List C := [if i ∈ S then .tt else .ff]
theorem seen0 (i : Nat) (hi : i < 64) : chunkOf 1 (List.replicate 64 C.ff) i = seenF [] i := by
  unfold chunkOf seenF
  simp only [List.drop_replicate, List.take_replicate]
  rw [show min 1 (64 - i * 1) = 1 by omega]
  rfl
theorem seenS (S : List Nat) (k i : Nat) : (if i = k then [C.tt] else seenF S i) = seenF (S ++ [k]) i := by
  unfold seenF
  by_cases h : i = k
  · rw [if_pos h, if_pos (by simp [h])]
  · rw [if_neg h]
    by_cases h2 : i ∈ S
    · rw [if_pos h2, if_pos (by simp [h2])]
    · rw [if_neg h2, if_neg (by simp [h2, h])]
abbrev DD (l : List UInt8) (z k : Nat) : List UInt8 := (l.drop (k * z)).take z
theorem outD_all {l : List UInt8} {z n : Nat} (h : l.length ≤ n * z) : outD (DD l z) n = l := by
  have := parts_flat 9 l z n n
  unfold parts at this
  rw [List.flatMap_map, List.take_of_length_le h] at this
  exact this
structure As (l : List UInt8) (z n m i : Nat) (S : List Nat) (N : Nat) (J : List Nat) (L : List Tx) (dn : List (Int × Int)) : Prop where
  im : i ≤ m + n
  nd : S.Nodup
  lt : ∀ k ∈ S, k < n
  cov : ∀ j, j < i - m → j ∈ S
  ok : AOk 1 N J L dn
  dl : dn.length ≤ 1
  rel : RelA n (DD l z) S L dn
structure Ai where
  (i : Nat) (S : List Nat) (N : Nat) (J : List Nat) (L : List Tx) (dn : List (Int × Int)) (c cd : Nat)

theorem all_len : ∀ {S : List Nat} (n : Nat), (∀ j, j < n → j ∈ S) → n ≤ S.length
  | S, 0, _ => Nat.zero_le _
  | S, n + 1, h => by
    have hm := h n (by omega)
    have := all_len (S := S.erase n) n (fun j hj => (List.mem_erase_of_ne (by omega)).2 (h j (by omega)))
    rw [List.length_erase_of_mem hm] at this
    have := List.length_pos_of_mem hm
    omega

theorem rH15xC0 {σ : List Sg} {H h' : List Fam} {v : T} {K : T → List Fam → Prop} {H' : List Fam} {v' : T} {N : Nat} (hk : K v' H') (hN : H.length = N := by (try simp only [↓List.length_cons, ↓List.length_nil, Nat.reduceAdd]) <;> rfl) (h : givesF σ N H σ h' = some H' := by (try simp (maxSteps := 1000000) only [givesF, setF, updF, Fam.zeroth, Fam.rk, Ck.rk, C.rk, E.rk, T.rk, key, List.map_cons, List.map_nil, List.cons_append, List.nil_append, List.length_cons, List.length_nil, Option.map_some, Option.bind_some, Nat.reduceAdd, Nat.zero_add, Nat.add_zero, Nat.add_sub_cancel_left, Int.toNat_natCast, reps, List.all_cons, List.all_nil, C.flat, List.append_eq, Bool.not_true, Bool.and_true, Bool.or_false, Bool.or_self, Bool.not_false, List.append_nil, Bool.and_self, ↓mtG_rk, ↓winO_rk, encG]) <;> rfl) (hv : v.rk σ N = v' := by (try simp only [givesF, setF, updF, Fam.zeroth, Fam.rk, Ck.rk, C.rk, E.rk, T.rk, key, List.map_cons, List.map_nil, List.cons_append, List.nil_append, List.length_cons, List.length_nil, Option.map_some, Option.bind_some, Nat.reduceAdd, Nat.zero_add, Nat.add_zero, Nat.add_sub_cancel_left, Int.toNat_natCast, reps, List.all_cons, List.all_nil, C.flat, List.append_eq, Bool.not_true, Bool.and_true, Bool.or_false, Bool.or_self, Bool.not_false, List.append_nil, Bool.and_self, ↓mtG_rk, ↓winO_rk, encG]) <;> rfl) : RetG σ H h' v K := ret_mk3 hN h hv hk
theorem rH15xC1 {σ : List Sg} {H h' : List Fam} {v : T} {K : T → List Fam → Prop} {H' : List Fam} {v' : T} {N : Nat} (hk : K v' H') (hN : H.length = N := by (try simp only [↓List.length_cons, ↓List.length_nil, Nat.reduceAdd]) <;> rfl) (h : givesF σ N H σ h' = some H' := by (try simp (maxSteps := 1000000) only [givesF, setF, updF, Fam.zeroth, Fam.rk, Ck.rk, C.rk, E.rk, T.rk, key, List.map_cons, List.map_nil, List.cons_append, List.nil_append, List.length_cons, List.length_nil, Option.map_some, Option.bind_some, Nat.reduceAdd, Nat.zero_add, Nat.add_zero, Nat.add_sub_cancel_left, Int.toNat_natCast, reps, List.all_cons, List.all_nil, C.flat, List.append_eq, Bool.not_true, Bool.and_true, Bool.or_false, Bool.or_self, Bool.not_false, List.append_nil, Bool.and_self, ↓mtG_rk, ↓winO_rk]) <;> rfl) (hv : v.rk σ N = v' := by (try simp only [givesF, setF, updF, Fam.zeroth, Fam.rk, Ck.rk, C.rk, E.rk, T.rk, key, List.map_cons, List.map_nil, List.cons_append, List.nil_append, List.length_cons, List.length_nil, Option.map_some, Option.bind_some, Nat.reduceAdd, Nat.zero_add, Nat.add_zero, Nat.add_sub_cancel_left, Int.toNat_natCast, reps, List.all_cons, List.all_nil, C.flat, List.append_eq, Bool.not_true, Bool.and_true, Bool.or_false, Bool.or_self, Bool.not_false, List.append_nil, Bool.and_self, ↓mtG_rk, ↓winO_rk]) <;> rfl) : RetG σ H h' v K := ret_mk3 hN h hv hk
theorem rH15xC2 {σ : List Sg} {H h' : List Fam} {v : T} {K : T → List Fam → Prop} {H' : List Fam} {v' : T} {N : Nat} (hk : K v' H') (hN : H.length = N := by (try simp only [↓List.length_cons, ↓List.length_nil, Nat.reduceAdd]) <;> rfl) (h : givesF σ N H σ h' = some H' := by (try simp (maxSteps := 1000000) only [givesF, setF, updF, Fam.zeroth, Fam.rk, Ck.rk, C.rk, E.rk, T.rk, key, List.map_cons, List.map_nil, List.cons_append, List.nil_append, List.length_cons, List.length_nil, Option.map_some, Option.bind_some, Nat.reduceAdd, Nat.zero_add, Nat.add_zero, Nat.add_sub_cancel_left, Int.toNat_natCast, reps, List.all_cons, List.all_nil, C.flat, List.append_eq, Bool.not_true, Bool.and_true, Bool.or_false, Bool.or_self, Bool.not_false, List.append_nil, Bool.and_self, ↓mtG_rk, ↓winO_rk, encG, encK, map_rk_id]) <;> rfl) (hv : v.rk σ N = v' := by (try simp only [givesF, setF, updF, Fam.zeroth, Fam.rk, Ck.rk, C.rk, E.rk, T.rk, key, List.map_cons, List.map_nil, List.cons_append, List.nil_append, List.length_cons, List.length_nil, Option.map_some, Option.bind_some, Nat.reduceAdd, Nat.zero_add, Nat.add_zero, Nat.add_sub_cancel_left, Int.toNat_natCast, reps, List.all_cons, List.all_nil, C.flat, List.append_eq, Bool.not_true, Bool.and_true, Bool.or_false, Bool.or_self, Bool.not_false, List.append_nil, Bool.and_self, ↓mtG_rk, ↓winO_rk, encG, encK, map_rk_id]) <;> rfl) : RetG σ H h' v K := ret_mk3 hN h hv hk
theorem cH15xC3 {P : Program} {F : Nat} {args : List T} {H : List Fam} {K : T → List Fam → Prop} {σ : List Sg} {nl : List Fam} {args0 : List T} {h0 : List Fam} {Q : T → List Fam → Prop} {H2 H1 : List Fam} {N n : Nat} (hc : Ctr P F args0 h0 Q) (hk : ∀ v h', Q v h' → capsP h' → RetG σ H2 h' v K) (hap : apart σ = true := by rfl) (hnl : nl.all nilB = true := by rfl) (h1 : H ++ nl = H1 := by first | exact List.append_nil _ | ((try simp only [List.cons_append, List.nil_append]) <;> rfl)) (hN : H1.length = N := by (try simp only [↓List.length_cons, ↓List.length_nil, Nat.reduceAdd]) <;> rfl) (hn : H.length = n := by (try simp only [↓List.length_cons, ↓List.length_nil, Nat.reduceAdd]) <;> rfl) (hH : givesF σ N H1 σ h0 = some H2 := by (try simp (maxSteps := 1000000) only [givesF, setF, updF, Fam.zeroth, Fam.rk, Ck.rk, C.rk, E.rk, T.rk, key, List.map_cons, List.map_nil, List.cons_append, List.nil_append, List.length_cons, List.length_nil, Option.map_some, Option.bind_some, Nat.reduceAdd, Nat.zero_add, Nat.add_zero, Nat.add_sub_cancel_left, Int.toNat_natCast, reps, List.all_cons, List.all_nil, C.flat, List.append_eq, Bool.not_true, Bool.and_true, Bool.or_false, Bool.or_self, Bool.not_false, List.append_nil, Bool.and_self, ↓mtG_rk, ↓winO_rk]) <;> rfl) (hle : leS n H1 σ N σ h0 (belsK N (h0.map (Fam.rk σ N)) (argsK n args (args0.map (T.rk σ N)) True)) := by repeat' first | refine And.intro ?_ ?_ | exact xeC | fail) : CallK P F args H K := CallK.mk3 hc hap hnl h1 hN hn hH hle hk
set_option maxRecDepth 20000 in
set_option maxHeartbeats 4000000 in
theorem cassembles (l : List UInt8) (sz : UInt8) (ord : List UInt8) (c : Nat) (hl : l.length ≤ 9223372036854775807) (ho : ord.length ≤ 9223372036854775807) :
    Ctr Try.prog 4 [.c (.s (mkS l)), .c (.i .u8 (sz.toNat : Nat)), .c (.sl 0 0 1 0 ord.length c)] [.one (u8R ord c)] fun v _ => v = .c .tt := by
  have hzl : (mkS l).size = l.length := rfl
  have hmod : IntKind.i64.wrap ((sz.toNat : Int).tmod 100) = ((sz.toNat % 100 : Nat) : Int) := by
    rw [Int.tmod_eq_emod_of_nonneg (by omega), IntKind.wrap_i64]
    omega
  refine Ctr.mk' tbv mixed Try.func4 rfl rfl rfl (fun _ _ => by kernel_rfl) (by kernel_rfl) (by rfl) (by rfl) (by (repeat' first | refine And.intro ?_ ?_ | exact xeC | fail)) ?_
  repeat' (first | (fail_if_success (with_reducible refine xstp ?_)); first | ((with_reducible refine And.intro (fun (hb : _ = true) => ?_) (fun (hb : _ = false) => ?_)) <;> replace hb := xnC hb <;> (try first | exact xfC | exact bff hb (by assumption) | exact bff (by assumption) hb)) | (with_reducible refine Both.mk ?_ ?_) | ((with_reducible refine And.intro ?_ ?_); focus exact xoC) | ((with_reducible refine Or.inl ⟨?_, ?_, ?_⟩); (focus rfl); focus exact xaC) | ((with_reducible refine xwB ?_ ?_); focus exact xaC) | ((with_reducible refine xwC ?_ ?_); focus exact xaC) | ((with_reducible refine xwD ?_ ?_); focus exact xaC) | ((with_reducible refine xwE ?_ ?_); focus exact xaC) | (with_reducible intro hc; (try simp only [capsP, and_true] at hc); (try exact xfC)) | ((fail_if_success (with_reducible first | refine xgon ?_ | intro _)); (conv => whnf); (fail_if_success (fail_if_success (with_reducible first | refine xstp ?_ | refine Both.mk ?_ ?_ | refine xgon ?_ | intro _)))))
  · skip
    refine cH15xC3 (σ := []) (nl := []) (cawake) ?_
    rintro v h' ⟨rfl, rfl⟩ hcaps
    refine rH15xC0 ?_
    repeat' (first | (fail_if_success (with_reducible refine xstp ?_)); first | ((with_reducible refine And.intro (fun (hb : _ = true) => ?_) (fun (hb : _ = false) => ?_)) <;> replace hb := xnC hb <;> (try first | exact xfC | exact bff hb (by assumption) | exact bff (by assumption) hb)) | (with_reducible refine Both.mk ?_ ?_) | ((with_reducible refine And.intro ?_ ?_); focus exact xoC) | ((with_reducible refine Or.inl ⟨?_, ?_, ?_⟩); (focus rfl); focus exact xaC) | ((with_reducible refine xwB ?_ ?_); focus exact xaC) | ((with_reducible refine xwC ?_ ?_); focus exact xaC) | ((with_reducible refine xwD ?_ ?_); focus exact xaC) | ((with_reducible refine xwE ?_ ?_); focus exact xaC) | (with_reducible intro hc; (try simp only [capsP, and_true] at hc); (try exact xfC)) | ((fail_if_success (with_reducible first | refine xgon ?_ | intro _)); (conv => whnf); (fail_if_success (fail_if_success (with_reducible first | refine xstp ?_ | refine Both.mk ?_ ?_ | refine xgon ?_ | intro _)))))
    refine FinK.mk ⟨[0], _, [.one .no], rfl, ?_⟩
    (repeat' first | refine And.intro ?_ ?_ | exact xeC | fail)
  · skip
    refine cH15xC3 (σ := []) (nl := []) (cawake) ?_
    rintro v h' ⟨rfl, rfl⟩ hcaps
    refine rH15xC0 ?_
    repeat' (first | (fail_if_success (with_reducible refine xstp ?_)); first | ((with_reducible refine And.intro (fun (hb : _ = true) => ?_) (fun (hb : _ = false) => ?_)) <;> replace hb := xnC hb <;> (try first | exact xfC | exact bff hb (by assumption) | exact bff (by assumption) hb)) | (with_reducible refine Both.mk ?_ ?_) | ((with_reducible refine And.intro ?_ ?_); focus exact xoC) | ((with_reducible refine Or.inl ⟨?_, ?_, ?_⟩); (focus rfl); focus exact xaC) | ((with_reducible refine xwB ?_ ?_); focus exact xaC) | ((with_reducible refine xwC ?_ ?_); focus exact xaC) | ((with_reducible refine xwD ?_ ?_); focus exact xaC) | ((with_reducible refine xwE ?_ ?_); focus exact xaC) | (with_reducible intro hc; (try simp only [capsP, and_true] at hc); (try exact xfC)) | ((fail_if_success (with_reducible first | refine xgon ?_ | intro _)); (conv => whnf); (fail_if_success (fail_if_success (with_reducible first | refine xstp ?_ | refine Both.mk ?_ ?_ | refine xgon ?_ | intro _)))))
    refine FinK.mk ⟨[0], _, [.one .no], rfl, ?_⟩
    (repeat' first | refine And.intro ?_ ?_ | exact xeC | fail)
  rw [hmod]
  obtain ⟨z, hz⟩ : ∃ z : Nat, z = sz.toNat % 100 + 10 := ⟨_, rfl⟩
  have hzz : ((sz.toNat % 100 : Nat) : Int) + 10 = (z : Nat) := by omega
  have hz1 : 10 ≤ z ∧ z ≤ 109 := by omega
  rw [hzz]
  have hoks : okS 9 (z : Int) := by unfold okS; omega
  have hcn : cnt l.length z ≤ 64 := by have := (cnt_64 (n := l.length) (z := z) (by omega)).1; omega
  have hcn1 : 1 ≤ cnt l.length z := by unfold cnt; omega
  have hge := cnt_ge (n := l.length) (z := z) (by omega)
  have hspl : spl 9 l (z : Int) = (parts 9 l z (cnt l.length z) (cnt l.length z), 0) := by
    unfold spl
    rw [if_neg (by simpa using hoks), if_neg (by rw [Int.toNat_natCast]; omega), Int.toNat_natCast]
  have hpok : ∀ k, k < cnt l.length z → okF (part 9 l z (cnt l.length z) k) := fun k hk => by
    have := part_ok (id := 9) (size := (z : Int)) (l := l) hoks (by rw [Int.toNat_natCast]; exact hcn) (i := k) (by rw [Int.toNat_natCast]; exact hk)
    rw [Int.toNat_natCast] at this
    exact this
  generalize hn : cnt l.length z = n at *
  have hpl := parts_len 9 l z n n
  repeat' (first | (fail_if_success (with_reducible refine xstp ?_)); first | ((with_reducible refine And.intro (fun (hb : _ = true) => ?_) (fun (hb : _ = false) => ?_)) <;> replace hb := xnC hb <;> (try first | exact xfC | exact bff hb (by assumption) | exact bff (by assumption) hb)) | (with_reducible refine Both.mk ?_ ?_) | ((with_reducible refine And.intro ?_ ?_); focus exact xoC) | ((with_reducible refine Or.inl ⟨?_, ?_, ?_⟩); (focus rfl); focus exact xaC) | ((with_reducible refine xwB ?_ ?_); focus exact xaC) | ((with_reducible refine xwC ?_ ?_); focus exact xaC) | ((with_reducible refine xwD ?_ ?_); focus exact xaC) | ((with_reducible refine xwE ?_ ?_); focus exact xaC) | (with_reducible intro hc; (try simp only [capsP, and_true] at hc); (try exact xfC)) | ((fail_if_success (with_reducible first | refine xgon ?_ | intro _)); (conv => whnf); (fail_if_success (fail_if_success (with_reducible first | refine xstp ?_ | refine Both.mk ?_ ?_ | refine xgon ?_ | intro _)))))
  refine cH15xC3 (σ := []) (nl := []) (cSplit 9 l (z : Int) (by omega)) ?_
  rw [hspl]
  rintro v h' ⟨c1, rfl, rfl⟩ hcaps
  refine rH15xC1 ?_
  repeat' (first | (fail_if_success (with_reducible refine xstp ?_)); first | ((with_reducible refine And.intro (fun (hb : _ = true) => ?_) (fun (hb : _ = false) => ?_)) <;> replace hb := xnC hb <;> (try first | exact xfC | exact bff hb (by assumption) | exact bff (by assumption) hb)) | (with_reducible refine Both.mk ?_ ?_) | ((with_reducible refine And.intro ?_ ?_); focus exact xoC) | ((with_reducible refine Or.inl ⟨?_, ?_, ?_⟩); (focus rfl); focus exact xaC) | ((with_reducible refine xwB ?_ ?_); focus exact xaC) | ((with_reducible refine xwC ?_ ?_); focus exact xaC) | ((with_reducible refine xwD ?_ ?_); focus exact xaC) | ((with_reducible refine xwE ?_ ?_); focus exact xaC) | (with_reducible intro hc; (try simp only [capsP, and_true] at hc); (try exact xfC)) | ((fail_if_success (with_reducible first | refine xgon ?_ | intro _)); (conv => whnf); (fail_if_success (fail_if_success (with_reducible first | refine xstp ?_ | refine Both.mk ?_ ?_ | refine xgon ?_ | intro _)))))
  refine cH15xC3 (σ := []) (nl := []) (cNewA 1) ?_
  rintro v h' ⟨rfl, rfl⟩ hcaps
  refine rH15xC1 ?_
  repeat' (first | (fail_if_success (with_reducible refine xstp ?_)); first | ((with_reducible refine And.intro (fun (hb : _ = true) => ?_) (fun (hb : _ = false) => ?_)) <;> replace hb := xnC hb <;> (try first | exact xfC | exact bff hb (by assumption) | exact bff (by assumption) hb)) | (with_reducible refine Both.mk ?_ ?_) | ((with_reducible refine And.intro ?_ ?_); focus exact xoC) | ((with_reducible refine Or.inl ⟨?_, ?_, ?_⟩); (focus rfl); focus exact xaC) | ((with_reducible refine xwB ?_ ?_); focus exact xaC) | ((with_reducible refine xwC ?_ ?_); focus exact xaC) | ((with_reducible refine xwD ?_ ?_); focus exact xaC) | ((with_reducible refine xwE ?_ ?_); focus exact xaC) | (with_reducible intro hc; (try simp only [capsP, and_true] at hc); (try exact xfC)) | ((fail_if_success (with_reducible first | refine xgon ?_ | intro _)); (conv => whnf); (fail_if_success (fail_if_success (with_reducible first | refine xstp ?_ | refine Both.mk ?_ ?_ | refine xgon ?_ | intro _)))))
  refine LoopK.mk' {p : Ai // As l z n ord.length p.i p.S p.N p.J p.L p.dn}
    (fun ⟨⟨i, S, N, J, L, dn, c2, cd⟩, _⟩ => ⟨[(0, .c (.s (mkS l))), (2, .c (.sl 0 0 1 0 ord.length c)), (7, .c (.sl 1 0 4 0 (parts 9 l z n n).length c1)), (9, .c (.p 2 0 0)), (10, .c (.pe 7 0 1 0 0)), (11, .c (.i .i64 ((n - S.length : Nat) : Nat))), (12, .c (.i .i64 (i : Nat)))],
      [.one (u8R ord c), .one (fgR (parts 9 l z n n) c1), .one (asm 1 3 4 J.length L.length c2 dn.length cd), .one (opnR 5 (J ++ idsOf L) (J.length + c2)), .one (donR dn cd), .many (txO 6 L), .many (paO L), .one (.row true false 44 1 64 64 (seenF S))]⟩) (fun p => ord.length + n - p.1.i)
    ⟨⟨⟨0, [], 0, [], [], [], 0, 0⟩, ⟨Nat.zero_le _, by simp, by simp, by simp, aok0 (by decide) (by decide), by simp, Or.inl ⟨rfl, rfl, rfl⟩⟩⟩, [0, 1, 2, 3, 4, 5, 6, 7], ?_⟩ ?_
  · (repeat' first | refine And.intro ?_ ?_ | exact xeC | fail)
    all_goals first | (exact xmC) | exact seen0 | (rw [hpl]; simp; done)
  rintro ⟨⟨i, S, N, J, L, dn, c2, cd⟩, him, hnd, hlt, hcov, hA, hdl, hR⟩
  simp only at him hnd hlt hcov hA hdl hR
  have hSn := nodup_le n S hnd hlt
  repeat' (first | (fail_if_success (with_reducible refine xstp ?_)); first | ((with_reducible refine And.intro (fun (hb : _ = true) => ?_) (fun (hb : _ = false) => ?_)) <;> replace hb := xnC hb <;> (try first | exact xfC | exact bff hb (by assumption) | exact bff (by assumption) hb)) | (with_reducible refine Both.mk ?_ ?_) | ((with_reducible refine And.intro ?_ ?_); focus exact xoC) | ((with_reducible refine Or.inl ⟨?_, ?_, ?_⟩); (focus rfl); focus exact xaC) | ((with_reducible refine xwB ?_ ?_); focus exact xaC) | ((with_reducible refine xwC ?_ ?_); focus exact xaC) | ((with_reducible refine xwD ?_ ?_); focus exact xaC) | ((with_reducible refine xwE ?_ ?_); focus exact xaC) | (with_reducible intro hc; (try simp only [capsP, and_true] at hc); (try exact xfC)) | ((fail_if_success (with_reducible first | refine xgon ?_ | intro _)); (conv => whnf); (fail_if_success (fail_if_success (with_reducible first | refine xstp ?_ | refine Both.mk ?_ ?_ | refine xgon ?_ | intro _)))))
  · have hkn : (ord.getD i default).toNat % n < n := Nat.mod_lt _ (by omega)
    have hk : (IntKind.i64.wrap ((ord.getD (0 + ((i : Nat) : Int).toNat) default).toNat : Nat)).tmod ((parts 9 l z n n).length : Nat) = (((ord.getD i default).toNat % n : Nat) : Int) := by
      have h255 := (ord.getD i default).toNat_lt
      rw [Int.toNat_natCast, Nat.zero_add, hpl, IntKind.wrap_i64, Int.tmod_eq_emod_of_nonneg (by omega)]
      rw [show (((ord.getD i default).toNat : Int) + 9223372036854775808) % 18446744073709551616 - 9223372036854775808 = ((ord.getD i default).toNat : Int) by omega]
      exact (Int.natCast_emod _ _).symm
    rw [hk]
    obtain ⟨k, hk0⟩ : ∃ k, k = (ord.getD i default).toNat % n := ⟨_, rfl⟩
    rw [← hk0] at hkn ⊢
    have hcv : ∀ j, j < i + 1 - ord.length → j ∈ S ∨ j = k := fun j hj => by omega
    have hg : (parts 9 l z n n).getD (0 + ((k : Nat) : Int).toNat) default = part 9 l z n k := by
      rw [Int.toNat_natCast, Nat.zero_add]
      exact parts_get 9 l z n n k hkn
    have hst := relA_step (N := N) hR hnd hlt hkn (hpok k hkn)
    repeat' (first | (fail_if_success (with_reducible refine xstp ?_)); first | ((with_reducible refine And.intro (fun (hb : _ = true) => ?_) (fun (hb : _ = false) => ?_)) <;> replace hb := xnC hb <;> (try first | exact xfC | exact bff hb (by assumption) | exact bff (by assumption) hb)) | (with_reducible refine Both.mk ?_ ?_) | ((with_reducible refine And.intro ?_ ?_); focus exact xoC) | ((with_reducible refine Or.inl ⟨?_, ?_, ?_⟩); (focus rfl); focus exact xaC) | ((with_reducible refine xwB ?_ ?_); focus exact xaC) | ((with_reducible refine xwC ?_ ?_); focus exact xaC) | ((with_reducible refine xwD ?_ ?_); focus exact xaC) | ((with_reducible refine xwE ?_ ?_); focus exact xaC) | (with_reducible intro hc; (try simp only [capsP, and_true] at hc); (try exact xfC)) | ((fail_if_success (with_reducible first | refine xgon ?_ | intro _)); (conv => whnf); (fail_if_success (fail_if_success (with_reducible first | refine xstp ?_ | refine Both.mk ?_ ?_ | refine xgon ?_ | intro _)))))
    rw [hg]
    refine cH15xC3 (σ := [.whole 2, .whole 3, .whole 4, .whole 5, .whole 6]) (nl := []) (cAdd 1 N J L dn c2 cd 3 (part 9 l z n k) hA) ?_ (hle := by (repeat' first | refine And.intro ?_ ?_ | exact xeC | fail) <;> (exact xmC))
    rintro v h' ⟨J', c3, cd3, hJ', hJl', rfl, rfl⟩ hcaps
    have hA' := addA_ok hA 3 (part 9 l z n k) (by omega) hJ' hJl'
    have hfold : (⟨9, (k : Nat), (n : Nat), DD l z k⟩ : Fg) = part 9 l z n k := rfl
    rw [hfold] at hst
    have hkt : 0 + ((k : Nat) : Int).toNat = k := by rw [Int.toNat_natCast, Nat.zero_add]
    by_cases hin : k ∈ S
    · rw [hst.1 hin] at hA' ⊢
      refine rH15xC2 ?_
      repeat' (first | (fail_if_success (with_reducible refine xstp ?_)); first | ((with_reducible refine And.intro (fun (hb : _ = true) => ?_) (fun (hb : _ = false) => ?_)) <;> replace hb := xnC hb <;> (try first | exact xfC | exact bff hb (by assumption) | exact bff (by assumption) hb)) | (with_reducible refine Both.mk ?_ ?_) | ((with_reducible refine And.intro ?_ ?_); focus exact xoC) | ((with_reducible refine Or.inl ⟨?_, ?_, ?_⟩); (focus rfl); focus exact xaC) | ((with_reducible refine xwB ?_ ?_); focus exact xaC) | ((with_reducible refine xwC ?_ ?_); focus exact xaC) | ((with_reducible refine xwD ?_ ?_); focus exact xaC) | ((with_reducible refine xwE ?_ ?_); focus exact xaC) | (with_reducible intro hc; (try simp only [capsP, and_true] at hc); (try exact xfC)) | ((fail_if_success (with_reducible first | refine xgon ?_ | intro _)); (conv => whnf); (fail_if_success (fail_if_success (with_reducible first | refine xstp ?_ | refine Both.mk ?_ ?_ | refine xgon ?_ | intro _)))))
      rw [show seenF S (0 + ((k : Nat) : Int).toNat) = [.tt] by rw [hkt]; exact congrArg (fun x => [x]) (if_pos hin)]
      repeat' (first | (fail_if_success (with_reducible refine xstp ?_)); first | ((with_reducible refine And.intro (fun (hb : _ = true) => ?_) (fun (hb : _ = false) => ?_)) <;> replace hb := xnC hb <;> (try first | exact xfC | exact bff hb (by assumption) | exact bff (by assumption) hb)) | (with_reducible refine Both.mk ?_ ?_) | ((with_reducible refine And.intro ?_ ?_); focus exact xoC) | ((with_reducible refine Or.inl ⟨?_, ?_, ?_⟩); (focus rfl); focus exact xaC) | ((with_reducible refine xwB ?_ ?_); focus exact xaC) | ((with_reducible refine xwC ?_ ?_); focus exact xaC) | ((with_reducible refine xwD ?_ ?_); focus exact xaC) | ((with_reducible refine xwE ?_ ?_); focus exact xaC) | (with_reducible intro hc; (try simp only [capsP, and_true] at hc); (try exact xfC)) | ((fail_if_success (with_reducible first | refine xgon ?_ | intro _)); (conv => whnf); (fail_if_success (fail_if_success (with_reducible first | refine xstp ?_ | refine Both.mk ?_ ?_ | refine xgon ?_ | intro _)))))
      refine ⟨⟨⟨i + 1, S, N + 1, J', L, dn, c3, cd3⟩, ⟨by simp only; omega, hnd, hlt, fun j hj => by
        rcases hcv j hj with h | rfl
        · exact h
        · exact hin, hA', hdl, hR⟩⟩, [0, 1, 2, 8, 9, 10, 11, 7], by simp only; omega, ?_⟩
      (repeat' first | refine And.intro ?_ ?_ | exact xeC | fail)
      all_goals (exact xmC)
    · obtain ⟨L', dn', hR', hadd⟩ := hst.2 hin
      have hnd' : (S ++ [k]).Nodup := List.nodup_append.2 ⟨hnd, by simp, fun a ha b hb e => hin (by rw [List.mem_singleton.1 hb] at e; exact e ▸ ha)⟩
      have hlt' : ∀ j ∈ S ++ [k], j < n := fun j hj => by
        rcases List.mem_append.1 hj with hj | hj
        · exact hlt j hj
        · rw [List.mem_singleton.1 hj]; exact hkn
      have hcv' : ∀ j, j < i + 1 - ord.length → j ∈ S ++ [k] := fun j hj => by
        rcases hcv j hj with h | rfl
        · exact List.mem_append_left _ h
        · exact List.mem_append_right _ (List.mem_singleton_self _)
      have hdl' : dn'.length ≤ 1 := by
        rcases hR' with ⟨_, _, rfl⟩ | ⟨_, _, rfl, _⟩ | ⟨_, _, _, rfl⟩ <;> simp
      have hSl : (S ++ [k]).length = S.length + 1 := by rw [List.length_append, List.length_singleton]
      have hSn' := nodup_le n _ hnd' hlt'
      have hsf : seenF S (0 + ((k : Nat) : Int).toNat) = [.ff] := by rw [hkt]; exact congrArg (fun x => [x]) (if_neg hin)
      by_cases hfin : S.length + 1 = n
      · rw [if_pos hfin, decide_eq_true hfin, outD_all hge] at hadd
        rw [hadd] at hA' ⊢
        refine rH15xC2 ?_
        repeat' (first | (fail_if_success (with_reducible refine xstp ?_)); first | ((with_reducible refine And.intro (fun (hb : _ = true) => ?_) (fun (hb : _ = false) => ?_)) <;> replace hb := xnC hb <;> (try first | exact xfC | exact bff hb (by assumption) | exact bff (by assumption) hb)) | (with_reducible refine Both.mk ?_ ?_) | ((with_reducible refine And.intro ?_ ?_); focus exact xoC) | ((with_reducible refine Or.inl ⟨?_, ?_, ?_⟩); (focus rfl); focus exact xaC) | ((with_reducible refine xwB ?_ ?_); focus exact xaC) | ((with_reducible refine xwC ?_ ?_); focus exact xaC) | ((with_reducible refine xwD ?_ ?_); focus exact xaC) | ((with_reducible refine xwE ?_ ?_); focus exact xaC) | (with_reducible intro hc; (try simp only [capsP, and_true] at hc); (try exact xfC)) | ((fail_if_success (with_reducible first | refine xgon ?_ | intro _)); (conv => whnf); (fail_if_success (fail_if_success (with_reducible first | refine xstp ?_ | refine Both.mk ?_ ?_ | refine xgon ?_ | intro _)))))
        rw [hsf]
        repeat' (first | (fail_if_success (with_reducible refine xstp ?_)); first | ((with_reducible refine And.intro (fun (hb : _ = true) => ?_) (fun (hb : _ = false) => ?_)) <;> replace hb := xnC hb <;> (try first | exact xfC | exact bff hb (by assumption) | exact bff (by assumption) hb)) | (with_reducible refine Both.mk ?_ ?_) | ((with_reducible refine And.intro ?_ ?_); focus exact xoC) | ((with_reducible refine Or.inl ⟨?_, ?_, ?_⟩); (focus rfl); focus exact xaC) | ((with_reducible refine xwB ?_ ?_); focus exact xaC) | ((with_reducible refine xwC ?_ ?_); focus exact xaC) | ((with_reducible refine xwD ?_ ?_); focus exact xaC) | ((with_reducible refine xwE ?_ ?_); focus exact xaC) | (with_reducible intro hc; (try simp only [capsP, and_true] at hc); (try exact xfC)) | ((fail_if_success (with_reducible first | refine xgon ?_ | intro _)); (conv => whnf); (fail_if_success (fail_if_success (with_reducible first | refine xstp ?_ | refine Both.mk ?_ ?_ | refine xgon ?_ | intro _)))))
        · exfalso
          rw [decide_eq_true (by omega)] at hb
          exact absurd hb (by decide)
        · skip
          refine ⟨⟨⟨i + 1, S ++ [k], N + 1, J', L', dn', c3, cd3⟩, ⟨by simp only; omega, hnd', hlt', hcv', hA', hdl', hR'⟩⟩, [0, 1, 2, 8, 9, 10, 11, 7], by simp only; omega, ?_⟩
          (repeat' first | refine And.intro ?_ ?_ | exact xeC | fail)
          all_goals first
            | (exact xmC)
            | (intro j hj; rw [hkt]; exact seenS S k j)
            | (rw [hSl]; omega)
      · rw [if_neg hfin, decide_eq_false hfin] at hadd
        rw [hadd] at hA' ⊢
        refine rH15xC2 ?_
        repeat' (first | (fail_if_success (with_reducible refine xstp ?_)); first | ((with_reducible refine And.intro (fun (hb : _ = true) => ?_) (fun (hb : _ = false) => ?_)) <;> replace hb := xnC hb <;> (try first | exact xfC | exact bff hb (by assumption) | exact bff (by assumption) hb)) | (with_reducible refine Both.mk ?_ ?_) | ((with_reducible refine And.intro ?_ ?_); focus exact xoC) | ((with_reducible refine Or.inl ⟨?_, ?_, ?_⟩); (focus rfl); focus exact xaC) | ((with_reducible refine xwB ?_ ?_); focus exact xaC) | ((with_reducible refine xwC ?_ ?_); focus exact xaC) | ((with_reducible refine xwD ?_ ?_); focus exact xaC) | ((with_reducible refine xwE ?_ ?_); focus exact xaC) | (with_reducible intro hc; (try simp only [capsP, and_true] at hc); (try exact xfC)) | ((fail_if_success (with_reducible first | refine xgon ?_ | intro _)); (conv => whnf); (fail_if_success (fail_if_success (with_reducible first | refine xstp ?_ | refine Both.mk ?_ ?_ | refine xgon ?_ | intro _)))))
        rw [hsf]
        repeat' (first | (fail_if_success (with_reducible refine xstp ?_)); first | ((with_reducible refine And.intro (fun (hb : _ = true) => ?_) (fun (hb : _ = false) => ?_)) <;> replace hb := xnC hb <;> (try first | exact xfC | exact bff hb (by assumption) | exact bff (by assumption) hb)) | (with_reducible refine Both.mk ?_ ?_) | ((with_reducible refine And.intro ?_ ?_); focus exact xoC) | ((with_reducible refine Or.inl ⟨?_, ?_, ?_⟩); (focus rfl); focus exact xaC) | ((with_reducible refine xwB ?_ ?_); focus exact xaC) | ((with_reducible refine xwC ?_ ?_); focus exact xaC) | ((with_reducible refine xwD ?_ ?_); focus exact xaC) | ((with_reducible refine xwE ?_ ?_); focus exact xaC) | (with_reducible intro hc; (try simp only [capsP, and_true] at hc); (try exact xfC)) | ((fail_if_success (with_reducible first | refine xgon ?_ | intro _)); (conv => whnf); (fail_if_success (fail_if_success (with_reducible first | refine xstp ?_ | refine Both.mk ?_ ?_ | refine xgon ?_ | intro _)))))
        · exfalso
          rw [decide_eq_false (by omega)] at hb
          exact absurd hb (by decide)
        · skip
          refine ⟨⟨⟨i + 1, S ++ [k], N + 1, J', L', dn', c3, cd3⟩, ⟨by simp only; omega, hnd', hlt', hcv', hA', hdl', hR'⟩⟩, [0, 1, 2, 8, 9, 10, 11, 7], by simp only; omega, ?_⟩
          (repeat' first | refine And.intro ?_ ?_ | exact xeC | fail)
          all_goals first
            | (exact xmC)
            | (intro j hj; rw [hkt]; exact seenS S k j)
            | (rw [hSl]; omega)
  · obtain ⟨k, hk0⟩ : ∃ k, k = i - ord.length := ⟨_, rfl⟩
    have hkn : k < n := by omega
    have hk : (i : Int) - (ord.length : Nat) = (k : Int) := by omega
    rw [hk]
    have hcv : ∀ j, j < i + 1 - ord.length → j ∈ S ∨ j = k := fun j hj => by
      by_cases h : j = k
      · exact Or.inr h
      · exact Or.inl (hcov j (by omega))
    have hg : (parts 9 l z n n).getD (0 + ((k : Nat) : Int).toNat) default = part 9 l z n k := by
      rw [Int.toNat_natCast, Nat.zero_add]
      exact parts_get 9 l z n n k hkn
    have hst := relA_step (N := N) hR hnd hlt hkn (hpok k hkn)
    repeat' (first | (fail_if_success (with_reducible refine xstp ?_)); first | ((with_reducible refine And.intro (fun (hb : _ = true) => ?_) (fun (hb : _ = false) => ?_)) <;> replace hb := xnC hb <;> (try first | exact xfC | exact bff hb (by assumption) | exact bff (by assumption) hb)) | (with_reducible refine Both.mk ?_ ?_) | ((with_reducible refine And.intro ?_ ?_); focus exact xoC) | ((with_reducible refine Or.inl ⟨?_, ?_, ?_⟩); (focus rfl); focus exact xaC) | ((with_reducible refine xwB ?_ ?_); focus exact xaC) | ((with_reducible refine xwC ?_ ?_); focus exact xaC) | ((with_reducible refine xwD ?_ ?_); focus exact xaC) | ((with_reducible refine xwE ?_ ?_); focus exact xaC) | (with_reducible intro hc; (try simp only [capsP, and_true] at hc); (try exact xfC)) | ((fail_if_success (with_reducible first | refine xgon ?_ | intro _)); (conv => whnf); (fail_if_success (fail_if_success (with_reducible first | refine xstp ?_ | refine Both.mk ?_ ?_ | refine xgon ?_ | intro _)))))
    rw [hg]
    refine cH15xC3 (σ := [.whole 2, .whole 3, .whole 4, .whole 5, .whole 6]) (nl := []) (cAdd 1 N J L dn c2 cd 3 (part 9 l z n k) hA) ?_ (hle := by (repeat' first | refine And.intro ?_ ?_ | exact xeC | fail) <;> (exact xmC))
    rintro v h' ⟨J', c3, cd3, hJ', hJl', rfl, rfl⟩ hcaps
    have hA' := addA_ok hA 3 (part 9 l z n k) (by omega) hJ' hJl'
    have hfold : (⟨9, (k : Nat), (n : Nat), DD l z k⟩ : Fg) = part 9 l z n k := rfl
    rw [hfold] at hst
    have hkt : 0 + ((k : Nat) : Int).toNat = k := by rw [Int.toNat_natCast, Nat.zero_add]
    by_cases hin : k ∈ S
    · rw [hst.1 hin] at hA' ⊢
      refine rH15xC2 ?_
      repeat' (first | (fail_if_success (with_reducible refine xstp ?_)); first | ((with_reducible refine And.intro (fun (hb : _ = true) => ?_) (fun (hb : _ = false) => ?_)) <;> replace hb := xnC hb <;> (try first | exact xfC | exact bff hb (by assumption) | exact bff (by assumption) hb)) | (with_reducible refine Both.mk ?_ ?_) | ((with_reducible refine And.intro ?_ ?_); focus exact xoC) | ((with_reducible refine Or.inl ⟨?_, ?_, ?_⟩); (focus rfl); focus exact xaC) | ((with_reducible refine xwB ?_ ?_); focus exact xaC) | ((with_reducible refine xwC ?_ ?_); focus exact xaC) | ((with_reducible refine xwD ?_ ?_); focus exact xaC) | ((with_reducible refine xwE ?_ ?_); focus exact xaC) | (with_reducible intro hc; (try simp only [capsP, and_true] at hc); (try exact xfC)) | ((fail_if_success (with_reducible first | refine xgon ?_ | intro _)); (conv => whnf); (fail_if_success (fail_if_success (with_reducible first | refine xstp ?_ | refine Both.mk ?_ ?_ | refine xgon ?_ | intro _)))))
      rw [show seenF S (0 + ((k : Nat) : Int).toNat) = [.tt] by rw [hkt]; exact congrArg (fun x => [x]) (if_pos hin)]
      repeat' (first | (fail_if_success (with_reducible refine xstp ?_)); first | ((with_reducible refine And.intro (fun (hb : _ = true) => ?_) (fun (hb : _ = false) => ?_)) <;> replace hb := xnC hb <;> (try first | exact xfC | exact bff hb (by assumption) | exact bff (by assumption) hb)) | (with_reducible refine Both.mk ?_ ?_) | ((with_reducible refine And.intro ?_ ?_); focus exact xoC) | ((with_reducible refine Or.inl ⟨?_, ?_, ?_⟩); (focus rfl); focus exact xaC) | ((with_reducible refine xwB ?_ ?_); focus exact xaC) | ((with_reducible refine xwC ?_ ?_); focus exact xaC) | ((with_reducible refine xwD ?_ ?_); focus exact xaC) | ((with_reducible refine xwE ?_ ?_); focus exact xaC) | (with_reducible intro hc; (try simp only [capsP, and_true] at hc); (try exact xfC)) | ((fail_if_success (with_reducible first | refine xgon ?_ | intro _)); (conv => whnf); (fail_if_success (fail_if_success (with_reducible first | refine xstp ?_ | refine Both.mk ?_ ?_ | refine xgon ?_ | intro _)))))
      refine ⟨⟨⟨i + 1, S, N + 1, J', L, dn, c3, cd3⟩, ⟨by simp only; omega, hnd, hlt, fun j hj => by
        rcases hcv j hj with h | rfl
        · exact h
        · exact hin, hA', hdl, hR⟩⟩, [0, 1, 2, 8, 9, 10, 11, 7], by simp only; omega, ?_⟩
      (repeat' first | refine And.intro ?_ ?_ | exact xeC | fail)
      all_goals (exact xmC)
    · obtain ⟨L', dn', hR', hadd⟩ := hst.2 hin
      have hnd' : (S ++ [k]).Nodup := List.nodup_append.2 ⟨hnd, by simp, fun a ha b hb e => hin (by rw [List.mem_singleton.1 hb] at e; exact e ▸ ha)⟩
      have hlt' : ∀ j ∈ S ++ [k], j < n := fun j hj => by
        rcases List.mem_append.1 hj with hj | hj
        · exact hlt j hj
        · rw [List.mem_singleton.1 hj]; exact hkn
      have hcv' : ∀ j, j < i + 1 - ord.length → j ∈ S ++ [k] := fun j hj => by
        rcases hcv j hj with h | rfl
        · exact List.mem_append_left _ h
        · exact List.mem_append_right _ (List.mem_singleton_self _)
      have hdl' : dn'.length ≤ 1 := by
        rcases hR' with ⟨_, _, rfl⟩ | ⟨_, _, rfl, _⟩ | ⟨_, _, _, rfl⟩ <;> simp
      have hSl : (S ++ [k]).length = S.length + 1 := by rw [List.length_append, List.length_singleton]
      have hSn' := nodup_le n _ hnd' hlt'
      have hsf : seenF S (0 + ((k : Nat) : Int).toNat) = [.ff] := by rw [hkt]; exact congrArg (fun x => [x]) (if_neg hin)
      by_cases hfin : S.length + 1 = n
      · rw [if_pos hfin, decide_eq_true hfin, outD_all hge] at hadd
        rw [hadd] at hA' ⊢
        refine rH15xC2 ?_
        repeat' (first | (fail_if_success (with_reducible refine xstp ?_)); first | ((with_reducible refine And.intro (fun (hb : _ = true) => ?_) (fun (hb : _ = false) => ?_)) <;> replace hb := xnC hb <;> (try first | exact xfC | exact bff hb (by assumption) | exact bff (by assumption) hb)) | (with_reducible refine Both.mk ?_ ?_) | ((with_reducible refine And.intro ?_ ?_); focus exact xoC) | ((with_reducible refine Or.inl ⟨?_, ?_, ?_⟩); (focus rfl); focus exact xaC) | ((with_reducible refine xwB ?_ ?_); focus exact xaC) | ((with_reducible refine xwC ?_ ?_); focus exact xaC) | ((with_reducible refine xwD ?_ ?_); focus exact xaC) | ((with_reducible refine xwE ?_ ?_); focus exact xaC) | (with_reducible intro hc; (try simp only [capsP, and_true] at hc); (try exact xfC)) | ((fail_if_success (with_reducible first | refine xgon ?_ | intro _)); (conv => whnf); (fail_if_success (fail_if_success (with_reducible first | refine xstp ?_ | refine Both.mk ?_ ?_ | refine xgon ?_ | intro _)))))
        rw [hsf]
        repeat' (first | (fail_if_success (with_reducible refine xstp ?_)); first | ((with_reducible refine And.intro (fun (hb : _ = true) => ?_) (fun (hb : _ = false) => ?_)) <;> replace hb := xnC hb <;> (try first | exact xfC | exact bff hb (by assumption) | exact bff (by assumption) hb)) | (with_reducible refine Both.mk ?_ ?_) | ((with_reducible refine And.intro ?_ ?_); focus exact xoC) | ((with_reducible refine Or.inl ⟨?_, ?_, ?_⟩); (focus rfl); focus exact xaC) | ((with_reducible refine xwB ?_ ?_); focus exact xaC) | ((with_reducible refine xwC ?_ ?_); focus exact xaC) | ((with_reducible refine xwD ?_ ?_); focus exact xaC) | ((with_reducible refine xwE ?_ ?_); focus exact xaC) | (with_reducible intro hc; (try simp only [capsP, and_true] at hc); (try exact xfC)) | ((fail_if_success (with_reducible first | refine xgon ?_ | intro _)); (conv => whnf); (fail_if_success (fail_if_success (with_reducible first | refine xstp ?_ | refine Both.mk ?_ ?_ | refine xgon ?_ | intro _)))))
        · exfalso
          rw [decide_eq_true (by omega)] at hb
          exact absurd hb (by decide)
        · skip
          refine ⟨⟨⟨i + 1, S ++ [k], N + 1, J', L', dn', c3, cd3⟩, ⟨by simp only; omega, hnd', hlt', hcv', hA', hdl', hR'⟩⟩, [0, 1, 2, 8, 9, 10, 11, 7], by simp only; omega, ?_⟩
          (repeat' first | refine And.intro ?_ ?_ | exact xeC | fail)
          all_goals first
            | (exact xmC)
            | (intro j hj; rw [hkt]; exact seenS S k j)
            | (rw [hSl]; omega)
      · rw [if_neg hfin, decide_eq_false hfin] at hadd
        rw [hadd] at hA' ⊢
        refine rH15xC2 ?_
        repeat' (first | (fail_if_success (with_reducible refine xstp ?_)); first | ((with_reducible refine And.intro (fun (hb : _ = true) => ?_) (fun (hb : _ = false) => ?_)) <;> replace hb := xnC hb <;> (try first | exact xfC | exact bff hb (by assumption) | exact bff (by assumption) hb)) | (with_reducible refine Both.mk ?_ ?_) | ((with_reducible refine And.intro ?_ ?_); focus exact xoC) | ((with_reducible refine Or.inl ⟨?_, ?_, ?_⟩); (focus rfl); focus exact xaC) | ((with_reducible refine xwB ?_ ?_); focus exact xaC) | ((with_reducible refine xwC ?_ ?_); focus exact xaC) | ((with_reducible refine xwD ?_ ?_); focus exact xaC) | ((with_reducible refine xwE ?_ ?_); focus exact xaC) | (with_reducible intro hc; (try simp only [capsP, and_true] at hc); (try exact xfC)) | ((fail_if_success (with_reducible first | refine xgon ?_ | intro _)); (conv => whnf); (fail_if_success (fail_if_success (with_reducible first | refine xstp ?_ | refine Both.mk ?_ ?_ | refine xgon ?_ | intro _)))))
        rw [hsf]
        repeat' (first | (fail_if_success (with_reducible refine xstp ?_)); first | ((with_reducible refine And.intro (fun (hb : _ = true) => ?_) (fun (hb : _ = false) => ?_)) <;> replace hb := xnC hb <;> (try first | exact xfC | exact bff hb (by assumption) | exact bff (by assumption) hb)) | (with_reducible refine Both.mk ?_ ?_) | ((with_reducible refine And.intro ?_ ?_); focus exact xoC) | ((with_reducible refine Or.inl ⟨?_, ?_, ?_⟩); (focus rfl); focus exact xaC) | ((with_reducible refine xwB ?_ ?_); focus exact xaC) | ((with_reducible refine xwC ?_ ?_); focus exact xaC) | ((with_reducible refine xwD ?_ ?_); focus exact xaC) | ((with_reducible refine xwE ?_ ?_); focus exact xaC) | (with_reducible intro hc; (try simp only [capsP, and_true] at hc); (try exact xfC)) | ((fail_if_success (with_reducible first | refine xgon ?_ | intro _)); (conv => whnf); (fail_if_success (fail_if_success (with_reducible first | refine xstp ?_ | refine Both.mk ?_ ?_ | refine xgon ?_ | intro _)))))
        · exfalso
          rw [decide_eq_false (by omega)] at hb
          exact absurd hb (by decide)
        · skip
          refine ⟨⟨⟨i + 1, S ++ [k], N + 1, J', L', dn', c3, cd3⟩, ⟨by simp only; omega, hnd', hlt', hcv', hA', hdl', hR'⟩⟩, [0, 1, 2, 8, 9, 10, 11, 7], by simp only; omega, ?_⟩
          (repeat' first | refine And.intro ?_ ?_ | exact xeC | fail)
          all_goals first
            | (exact xmC)
            | (intro j hj; rw [hkt]; exact seenS S k j)
            | (rw [hSl]; omega)
  all_goals (
    have hfull : S.length = n := by
      have := all_len (S := S) n (fun j hj => hcov j (by omega))
      omega)
  · have hL : L = [] := by
      rcases hR with ⟨rfl, _, _⟩ | ⟨_, h, _⟩ | ⟨_, _, h, _⟩
      · simp at hfull; omega
      · omega
      · exact h
    refine cH15xC3 (σ := [.whole 2, .name 3, .name 4]) (nl := []) (cOpenA 1 J L dn c2 cd) ?_
    rintro v h' ⟨rfl, rfl⟩ hcaps
    rw [hL]
    refine rH15xC1 ?_
    repeat' (first | (fail_if_success (with_reducible refine xstp ?_)); first | ((with_reducible refine And.intro (fun (hb : _ = true) => ?_) (fun (hb : _ = false) => ?_)) <;> replace hb := xnC hb <;> (try first | exact xfC | exact bff hb (by assumption) | exact bff (by assumption) hb)) | (with_reducible refine Both.mk ?_ ?_) | ((with_reducible refine And.intro ?_ ?_); focus exact xoC) | ((with_reducible refine Or.inl ⟨?_, ?_, ?_⟩); (focus rfl); focus exact xaC) | ((with_reducible refine xwB ?_ ?_); focus exact xaC) | ((with_reducible refine xwC ?_ ?_); focus exact xaC) | ((with_reducible refine xwD ?_ ?_); focus exact xaC) | ((with_reducible refine xwE ?_ ?_); focus exact xaC) | (with_reducible intro hc; (try simp only [capsP, and_true] at hc); (try exact xfC)) | ((fail_if_success (with_reducible first | refine xgon ?_ | intro _)); (conv => whnf); (fail_if_success (fail_if_success (with_reducible first | refine xstp ?_ | refine Both.mk ?_ ?_ | refine xgon ?_ | intro _)))))
    refine cH15xC3 (σ := []) (nl := []) (cawake) ?_
    rintro v h' ⟨rfl, rfl⟩ hcaps
    refine rH15xC0 ?_
    repeat' (first | (fail_if_success (with_reducible refine xstp ?_)); first | ((with_reducible refine And.intro (fun (hb : _ = true) => ?_) (fun (hb : _ = false) => ?_)) <;> replace hb := xnC hb <;> (try first | exact xfC | exact bff hb (by assumption) | exact bff (by assumption) hb)) | (with_reducible refine Both.mk ?_ ?_) | ((with_reducible refine And.intro ?_ ?_); focus exact xoC) | ((with_reducible refine Or.inl ⟨?_, ?_, ?_⟩); (focus rfl); focus exact xaC) | ((with_reducible refine xwB ?_ ?_); focus exact xaC) | ((with_reducible refine xwC ?_ ?_); focus exact xaC) | ((with_reducible refine xwD ?_ ?_); focus exact xaC) | ((with_reducible refine xwE ?_ ?_); focus exact xaC) | (with_reducible intro hc; (try simp only [capsP, and_true] at hc); (try exact xfC)) | ((fail_if_success (with_reducible first | refine xgon ?_ | intro _)); (conv => whnf); (fail_if_success (fail_if_success (with_reducible first | refine xstp ?_ | refine Both.mk ?_ ?_ | refine xgon ?_ | intro _)))))
    refine FinK.mk ⟨[0], _, [.one .no], rfl, ?_⟩
    (repeat' first | refine And.intro ?_ ?_ | exact xeC | fail)
  · omega
end Go.Proofs.Ytgaodeffbgppmaa

namespace Go.Proofs.Ytgaodeffbgppmaa
open Go.X Go.RowKit
set_option linter.unusedVariables false
theorem ft_U8 {l : List C} (h : FT [.i .u8] l) : ∃ x : UInt8, l = encB8 x ∧ True := by
  obtain ⟨a, _, rfl, ha, h1⟩ := FT_i h
  obtain rfl := FT_nil h1
  have h0 : 0 ≤ a := ha.1
  have h2 : a ≤ 255 := ha.2
  refine ⟨UInt8.ofNat a.toNat, ?_, trivial⟩
  unfold encB8
  rw [P4.ofNat_lt (by omega), Int.toNat_of_nonneg h0]
theorem walk_PacketAssembles (W : World) (a0 : ByteArray) (s0 : a0.size ≤ 140737488351232) (a1 : Int) (w1 : (Lit.int .u8 a1).wf = true) (v2 : Value) (k2 : VK W (.sl [.i .u8]) v2) (e2 : ∀ a n c, v2 = .slice (some a) n c → a.spot = none) :
    Calls Try.prog 4 #[.string a0, .int .u8 a1, v2] W fun e W' => e = .returned (.bool true) ∧ Below W.heap.size W W' := by
  obtain ⟨A, n, c, g, hv, hh, hn, hc, hnc, hg⟩ := row_view (by rfl) k2 e2
  obtain ⟨l, hl, hge, _⟩ := list_of encB8 (Pr := fun _ => True) (fun i hi => ft_U8 (hg i hi))
  subst hl
  obtain ⟨hf, hno⟩ := one_read (β := nmL [A]) (W := W) (ck := u8R l c) (holds_row_congr (hh _ _) hge) rfl
  have hv' : C.ren (nmL [A]) (C.sl 0 0 1 0 l.length c) = v2 := hv (nmL [A]) 0 0 rfl
  have hw : 0 ≤ a1 ∧ a1 ≤ 255 := by
    have := wf_bounds w1
    exact this
  have ha : (((UInt8.ofNat a1.toNat).toNat : Nat) : Int) = a1 := by
    rw [P4.ofNat_lt (by omega), Int.toNat_of_nonneg hw.1]
  have := glue (cassembles a0.data.toList (UInt8.ofNat a1.toNat) l c (by rw [P4.size_len]; omega) (by unfold maxLen at hn; omega)) hf hno
  rw [mkS_of, ha] at this
  simp only [List.map_cons, List.map_nil, T.ren, hv', show C.ren (nmL [A]) (.s a0) = .string a0 from rfl, show C.ren (nmL [A]) (.i .u8 a1) = .int .u8 a1 from rfl] at this
  exact this
end Go.Proofs.Ytgaodeffbgppmaa
