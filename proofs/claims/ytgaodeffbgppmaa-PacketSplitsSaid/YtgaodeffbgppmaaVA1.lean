/- Part 1 of the texts that a walk of this program rests on: an abstract machine, its soundness, contracts of functions. No statement of the seat is proved in this file. -/
import Derived.Test.YtgaodeffbgppmaaZ6
namespace Go.Proofs.Ytgaodeffbgppmaa
open Go.X
set_option linter.unusedSimpArgs false
set_option linter.unusedVariables false
open P4
open P5
abbrev fgR (l : List Fg) (c : Nat) : Ck := .row true false 34 4 l.length c (rowOf encG l)
def cnt (n z : Nat) : Nat := max 1 ((n + z - 1) / z)
def part (id : Int) (l : List UInt8) (z n i : Nat) : Fg := ⟨id, i, n, (l.drop (i * z)).take z⟩
def parts (id : Int) (l : List UInt8) (z n k : Nat) : List Fg := (List.range k).map (part id l z n)
def okS (id size : Int) : Prop := (0 ≤ id ∧ id ≤ 1099511627776) ∧ (1 ≤ size ∧ size ≤ 4000)
instance (id size : Int) : Decidable (okS id size) := by unfold okS; infer_instance
def spl (id : Int) (l : List UInt8) (size : Int) : List Fg × Nat :=
  if ¬ okS id size then ([], 4) else if 64 < cnt l.length size.toNat then ([], 3) else (parts id l size.toNat (cnt l.length size.toNat) (cnt l.length size.toNat), 0)
theorem parts_succ (id : Int) (l : List UInt8) (z n k : Nat) : parts id l z n (k + 1) = parts id l z n k ++ [part id l z n k] := by
  unfold parts
  rw [List.range_succ, List.map_append]
  rfl
theorem parts_len (id : Int) (l : List UInt8) (z n k : Nat) : (parts id l z n k).length = k := by simp [parts]
theorem cnt_le {n z k : Nat} (hz : 1 ≤ z) (h : k < cnt n z) (hk : 0 < k) : k * z ≤ n := by
  unfold cnt at h
  have h1 : k < (n + z - 1) / z := by omega
  have h2 := Nat.div_mul_le_self (n + z - 1) z
  have h3 : (k + 1) * z ≤ (n + z - 1) / z * z := Nat.mul_le_mul_right z h1
  rw [Nat.add_mul, Nat.one_mul] at h3
  omega
theorem cnt_ge {n z : Nat} (hz : 1 ≤ z) : n ≤ cnt n z * z := by
  have h1 : (n + z - 1) / z ≤ cnt n z := by unfold cnt; exact Nat.le_max_right _ _
  have h2 := Nat.mul_le_mul_right z h1
  have h3 := Nat.div_add_mod (n + z - 1) z
  have h4 := Nat.mod_lt (n + z - 1) hz
  rw [Nat.mul_comm] at h3
  omega

theorem cnt_64 {n z : Nat} (hz : 1 ≤ z) : 64 < cnt n z ↔ 64 * z < n := by
  have h : 65 ≤ (n + z - 1) / z ↔ 65 * z ≤ n + z - 1 := Nat.le_div_iff_mul_le hz
  unfold cnt
  omega
theorem ext_part {l : List UInt8} {i z : Nat} (hsz : (mkS l).size = l.length) : (mkS l).extract ((i : Int) * (z : Int)).toNat (min ((mkS l).size : Int) (((i : Int) + 1) * (z : Int))).toNat = mkS ((l.drop (i * z)).take z) := by
  have h1 : ((i : Int) * (z : Int)).toNat = i * z := by rw [← Int.natCast_mul, Int.toNat_natCast]
  have h2 : (min ((mkS l).size : Int) (((i : Int) + 1) * (z : Int))).toNat = min l.length (i * z + z) := by
    rw [Int.add_mul, Int.one_mul, ← Int.natCast_mul, hsz]
    omega
  rw [h1, h2, mkS_ext, List.drop_take]
  congr 1
  rw [List.take_eq_take_iff, List.length_drop]
  omega

theorem ext_part2 {l : List UInt8} {i z : Nat} (hsz : (mkS l).size = l.length) {e : Int} (he : e = min ((mkS l).size : Int) (((i : Int) + 1) * (z : Int))) : (mkS l).extract ((i : Int) * (z : Int)).toNat e.toNat = mkS ((l.drop (i * z)).take z) := by
  rw [he]
  exact ext_part hsz
set_option maxRecDepth 10000 in
theorem cSplit (id : Int) (l : List UInt8) (size : Int) (hl : l.length ≤ 1000000) :
    Ctr Try.prog 17 [.c (.i .i64 id), .c (.s (mkS l)), .c (.i .i64 size)] [] fun v h => ∃ c, v = .t [.c (.sl 0 0 4 0 (spl id l size).1.length c), .c (.i .i64 ((spl id l size).2 : Nat))] ∧ h = [.one (fgR (spl id l size).1 c)] := by
  have hsz : (mkS l).size = l.length := rfl
  refine Ctr.mk' tbv mixed Try.func17 rfl rfl rfl (fun _ _ => by kernel_rfl) (by kernel_rfl) (by rfl) (by rfl) (by (repeat' first | refine And.intro ?_ ?_ | exact xeC | fail)) ?_
  repeat' (first | (fail_if_success (with_reducible refine xstp ?_)); first | ((with_reducible refine And.intro (fun (hb : _ = true) => ?_) (fun (hb : _ = false) => ?_)) <;> replace hb := xnC hb <;> (try first | exact xfC | exact bff hb (by assumption) | exact bff (by assumption) hb)) | (with_reducible refine Both.mk ?_ ?_) | ((with_reducible refine And.intro ?_ ?_); focus exact xoC) | ((with_reducible refine Or.inl ⟨?_, ?_, ?_⟩); (focus rfl); focus exact xaC) | ((with_reducible refine xwB ?_ ?_); focus exact xaC) | ((with_reducible refine xwC ?_ ?_); focus exact xaC) | ((with_reducible refine xwD ?_ ?_); focus exact xaC) | ((with_reducible refine xwE ?_ ?_); focus exact xaC) | (with_reducible intro hc; (try simp only [capsP, and_true] at hc); (try exact xfC)) | ((fail_if_success (with_reducible first | refine xgon ?_ | intro _)); (conv => whnf); (fail_if_success (fail_if_success (with_reducible first | refine xstp ?_ | refine Both.mk ?_ ?_ | refine xgon ?_ | intro _)))))
  refine xcal (σ := []) (nl := []) (cwithin id 0 1099511627776) ?_
  rintro v h' ⟨rfl, rfl⟩ hcaps
  refine xret ?_
  repeat' (first | (fail_if_success (with_reducible refine xstp ?_)); first | ((with_reducible refine And.intro (fun (hb : _ = true) => ?_) (fun (hb : _ = false) => ?_)) <;> replace hb := xnC hb <;> (try first | exact xfC | exact bff hb (by assumption) | exact bff (by assumption) hb)) | (with_reducible refine Both.mk ?_ ?_) | ((with_reducible refine And.intro ?_ ?_); focus exact xoC) | ((with_reducible refine Or.inl ⟨?_, ?_, ?_⟩); (focus rfl); focus exact xaC) | ((with_reducible refine xwB ?_ ?_); focus exact xaC) | ((with_reducible refine xwC ?_ ?_); focus exact xaC) | ((with_reducible refine xwD ?_ ?_); focus exact xaC) | ((with_reducible refine xwE ?_ ?_); focus exact xaC) | (with_reducible intro hc; (try simp only [capsP, and_true] at hc); (try exact xfC)) | ((fail_if_success (with_reducible first | refine xgon ?_ | intro _)); (conv => whnf); (fail_if_success (fail_if_success (with_reducible first | refine xstp ?_ | refine Both.mk ?_ ?_ | refine xgon ?_ | intro _)))))
  · rw [show spl id l size = ([], 4) from if_pos (fun h => hb h.1)]
    refine FinK.mk ⟨[99], _, _, ⟨0, rfl, rfl⟩, ?_⟩
    (repeat' first | refine And.intro ?_ ?_ | exact xeC | fail)
    all_goals (intro i hi; exact absurd hi (Nat.not_lt_zero i))
  refine xcal (σ := []) (nl := []) (cwithin size 1 4000) ?_
  rintro v h' ⟨rfl, rfl⟩ hcaps
  refine xret ?_
  repeat' (first | (fail_if_success (with_reducible refine xstp ?_)); first | ((with_reducible refine And.intro (fun (hb : _ = true) => ?_) (fun (hb : _ = false) => ?_)) <;> replace hb := xnC hb <;> (try first | exact xfC | exact bff hb (by assumption) | exact bff (by assumption) hb)) | (with_reducible refine Both.mk ?_ ?_) | ((with_reducible refine And.intro ?_ ?_); focus exact xoC) | ((with_reducible refine Or.inl ⟨?_, ?_, ?_⟩); (focus rfl); focus exact xaC) | ((with_reducible refine xwB ?_ ?_); focus exact xaC) | ((with_reducible refine xwC ?_ ?_); focus exact xaC) | ((with_reducible refine xwD ?_ ?_); focus exact xaC) | ((with_reducible refine xwE ?_ ?_); focus exact xaC) | (with_reducible intro hc; (try simp only [capsP, and_true] at hc); (try exact xfC)) | ((fail_if_success (with_reducible first | refine xgon ?_ | intro _)); (conv => whnf); (fail_if_success (fail_if_success (with_reducible first | refine xstp ?_ | refine Both.mk ?_ ?_ | refine xgon ?_ | intro _)))))
  · rw [show spl id l size = ([], 4) from if_pos (fun h => hb h.2)]
    refine FinK.mk ⟨[99], _, _, ⟨0, rfl, rfl⟩, ?_⟩
    (repeat' first | refine And.intro ?_ ?_ | exact xeC | fail)
    all_goals (intro i hi; exact absurd hi (Nat.not_lt_zero i))
  have hoks : okS id size := ⟨by assumption, hb⟩
  obtain ⟨z, rfl⟩ : ∃ z : Nat, size = z := ⟨size.toNat, by omega⟩
  have hz1 : 1 ≤ z := by omega
  have hz2 : z ≤ 4000 := by omega
  have hq : ((mkS l).size + (z : Int) - 1).tdiv z = (((l.length + z - 1) / z : Nat) : Int) := by
    rw [Int.tdiv_eq_ediv_of_nonneg (by omega), hsz, Int.natCast_ediv]
    congr 1
    omega
  have hqm : (l.length + z - 1) / z ≤ l.length + z - 1 := Nat.div_le_self _ _
  rw [hq]
  have hcnt : cnt l.length z = max 1 ((l.length + z - 1) / z) := rfl
  generalize (l.length + z - 1) / z = q at *
  repeat' (first | (fail_if_success (with_reducible refine xstp ?_)); first | ((with_reducible refine And.intro (fun (hb : _ = true) => ?_) (fun (hb : _ = false) => ?_)) <;> replace hb := xnC hb <;> (try first | exact xfC | exact bff hb (by assumption) | exact bff (by assumption) hb)) | (with_reducible refine Both.mk ?_ ?_) | ((with_reducible refine And.intro ?_ ?_); focus exact xoC) | ((with_reducible refine Or.inl ⟨?_, ?_, ?_⟩); (focus rfl); focus exact xaC) | ((with_reducible refine xwB ?_ ?_); focus exact xaC) | ((with_reducible refine xwC ?_ ?_); focus exact xaC) | ((with_reducible refine xwD ?_ ?_); focus exact xaC) | ((with_reducible refine xwE ?_ ?_); focus exact xaC) | (with_reducible intro hc; (try simp only [capsP, and_true] at hc); (try exact xfC)) | ((fail_if_success (with_reducible first | refine xgon ?_ | intro _)); (conv => whnf); (fail_if_success (fail_if_success (with_reducible first | refine xstp ?_ | refine Both.mk ?_ ?_ | refine xgon ?_ | intro _)))))
  · have hcn : 64 < cnt l.length z := by omega
    rw [show spl id l (z : Int) = ([], 3) by unfold spl; rw [if_neg (by simpa using hoks), if_pos (by simpa using hcn)]]
    refine FinK.mk ⟨[99], _, _, ⟨0, rfl, rfl⟩, ?_⟩
    (repeat' first | refine And.intro ?_ ?_ | exact xeC | fail)
    all_goals (intro i hi; exact absurd hi (Nat.not_lt_zero i))
  have hcn : cnt l.length z ≤ 64 := by omega
  have hmx : max 1 (q : Int) = (cnt l.length z : Nat) := by omega
  rw [show spl id l (z : Int) = (parts id l z (cnt l.length z) (cnt l.length z), 0) by unfold spl; rw [if_neg (by simpa using hoks), if_neg (by rw [Int.toNat_natCast]; omega), Int.toNat_natCast]]
  rw [hmx]
  generalize hn : cnt l.length z = n at *
  refine LoopK.mk' {p : Nat × Nat // p.1 ≤ n}
    (fun ⟨(i, c), _⟩ => ⟨[(0, .c (.i .i64 id)), (1, .c (.s (mkS l))), (2, .c (.i .i64 z)), (8, .c (.i .i64 (n : Nat))), (9, .c (.sl 0 0 4 0 (parts id l z n i).length c)), (29, .c (.i .i64 (n : Nat))), (30, .c (.i .i64 (i : Nat)))],
      [.one (fgR (parts id l z n i) c)]⟩) (fun k => n - k.1.1)
    ⟨⟨(0, 0), Nat.zero_le _⟩, [99], ?_⟩ ?_
  · (repeat' first | refine And.intro ?_ ?_ | exact xeC | fail)
    all_goals (intro i hi; exact absurd hi (Nat.not_lt_zero i))
  rintro ⟨⟨i, c⟩, hi⟩
  simp only at hi
  have hiz : i < n → i * z ≤ l.length := fun h => by
    by_cases h0 : i = 0
    · subst h0; omega
    · exact cnt_le hz1 (by omega) (by omega)
  have hpl := parts_len id l z n i
  have hi1 : ((i : Int) + 1) * (z : Int) = ((i * z + z : Nat) : Int) := by rw [Int.add_mul]; push_cast; omega
  repeat' (first | (fail_if_success (with_reducible refine xstp ?_)); first | ((with_reducible refine And.intro (fun (hb : _ = true) => ?_) (fun (hb : _ = false) => ?_)) <;> replace hb := xnC hb <;> (try first | exact xfC | exact bff hb (by assumption) | exact bff (by assumption) hb)) | (with_reducible refine Both.mk ?_ ?_) | ((with_reducible refine And.intro ?_ ?_); focus exact xoC) | ((with_reducible refine Or.inl ⟨?_, ?_, ?_⟩); (focus rfl); focus exact xaC) | ((with_reducible refine xwB ?_ ?_); focus exact xaC) | ((with_reducible refine xwC ?_ ?_); focus exact xaC) | ((with_reducible refine xwD ?_ ?_); focus exact xaC) | ((with_reducible refine xwE ?_ ?_); focus exact xaC) | (with_reducible intro hc; (try simp only [capsP, and_true] at hc); (try exact xfC)) | ((fail_if_success (with_reducible first | refine xgon ?_ | intro _)); (conv => whnf); (fail_if_success (fail_if_success (with_reducible first | refine xstp ?_ | refine Both.mk ?_ ?_ | refine xgon ?_ | intro _)))))
  · rename_i c2
    rw [ext_part hsz]
    refine ⟨⟨(i + 1, c2), by simp only; omega⟩, [2], by simp only; omega, ?_⟩
    (repeat' first | refine And.intro ?_ ?_ | exact xeC | fail)
    all_goals try rw [parts_succ]
    all_goals first | omega | (simp only [List.length_append, List.length_singleton]; done) | (rw [List.length_append, List.length_singleton]; omega) | (intro i hi; (first | refine app_rowG _ _ _ _ ?_ i hi | refine app_row _ _ _ ?_ i hi); first | rfl | (simp only [Int.toNat_natCast, Nat.zero_add]; rfl))
  · obtain rfl : i = n := by omega
    refine FinK.mk ⟨[0], _, _, ⟨c, rfl, rfl⟩, ?_⟩
    (repeat' first | refine And.intro ?_ ?_ | exact xeC | fail)

set_option maxRecDepth 10000 in
theorem cSplitR (id : Int) (l : List UInt8) (size : Int) (hl : l.length ≤ 1000000) :
    Ctr Try.prog 30 [.c (.i .i64 id), .c (.s (mkS l)), .c (.i .i64 size)] [] fun v h => ∃ c, v = .t [.c (.sl 0 0 4 0 (spl id l size).1.length c), .c (.i .i64 ((spl id l size).2 : Nat))] ∧ h = [.one (fgR (spl id l size).1 c)] := by
  have hsz : (mkS l).size = l.length := rfl
  refine Ctr.mk' tbv mixed Try.func30 rfl rfl rfl (fun _ _ => by kernel_rfl) (by kernel_rfl) (by rfl) (by rfl) (by (repeat' first | refine And.intro ?_ ?_ | exact xeC | fail)) ?_
  repeat' (first | (fail_if_success (with_reducible refine xstp ?_)); first | ((with_reducible refine And.intro (fun (hb : _ = true) => ?_) (fun (hb : _ = false) => ?_)) <;> replace hb := xnC hb <;> (try first | exact xfC | exact bff hb (by assumption) | exact bff (by assumption) hb)) | (with_reducible refine Both.mk ?_ ?_) | ((with_reducible refine And.intro ?_ ?_); focus exact xoC) | ((with_reducible refine Or.inl ⟨?_, ?_, ?_⟩); (focus rfl); focus exact xaC) | ((with_reducible refine xwB ?_ ?_); focus exact xaC) | ((with_reducible refine xwC ?_ ?_); focus exact xaC) | ((with_reducible refine xwD ?_ ?_); focus exact xaC) | ((with_reducible refine xwE ?_ ?_); focus exact xaC) | (with_reducible intro hc; (try simp only [capsP, and_true] at hc); (try exact xfC)) | ((fail_if_success (with_reducible first | refine xgon ?_ | intro _)); (conv => whnf); (fail_if_success (fail_if_success (with_reducible first | refine xstp ?_ | refine Both.mk ?_ ?_ | refine xgon ?_ | intro _)))))
  all_goals try (
    rw [show spl id l size = ([], 4) from if_pos (fun h => by unfold okS at h; omega)]
    refine FinK.mk ⟨[99], _, _, ⟨0, rfl, rfl⟩, ?_⟩
    (repeat' first | refine And.intro ?_ ?_ | exact xeC | fail)
    all_goals (intro i hi; exact absurd hi (Nat.not_lt_zero i)))
  · rw [show spl id l size = ([], 3) by unfold spl; rw [if_neg (by unfold okS; omega), if_pos ((cnt_64 (by omega)).2 (by omega))]]
    refine FinK.mk ⟨[99], _, _, ⟨0, rfl, rfl⟩, ?_⟩
    (repeat' first | refine And.intro ?_ ?_ | exact xeC | fail)
    all_goals (intro i hi; exact absurd hi (Nat.not_lt_zero i))
  have hoks : okS id size := by unfold okS; omega
  obtain ⟨z, rfl⟩ : ∃ z : Nat, size = z := ⟨size.toNat, by omega⟩
  have hz1 : 1 ≤ z := by omega
  have hz2 : z ≤ 4000 := by omega
  have hq : ((mkS l).size + (z : Int) - 1).tdiv z = (((l.length + z - 1) / z : Nat) : Int) := by
    rw [Int.tdiv_eq_ediv_of_nonneg (by omega), hsz, Int.natCast_ediv]
    congr 1
    omega
  have hqm : (l.length + z - 1) / z ≤ l.length + z - 1 := Nat.div_le_self _ _
  rw [hq]
  have hcnt : cnt l.length z = max 1 ((l.length + z - 1) / z) := rfl
  have hcn : cnt l.length z ≤ 64 := by have := (cnt_64 (n := l.length) hz1).1; omega
  generalize (l.length + z - 1) / z = q at *
  rw [show spl id l (z : Int) = (parts id l z (cnt l.length z) (cnt l.length z), 0) by unfold spl; rw [if_neg (by simpa using hoks), if_neg (by rw [Int.toNat_natCast]; omega), Int.toNat_natCast]]
  generalize hn : cnt l.length z = n at *
  repeat' (first | (fail_if_success (with_reducible refine xstp ?_)); first | ((with_reducible refine And.intro (fun (hb : _ = true) => ?_) (fun (hb : _ = false) => ?_)) <;> replace hb := xnC hb <;> (try first | exact xfC | exact bff hb (by assumption) | exact bff (by assumption) hb)) | (with_reducible refine Both.mk ?_ ?_) | ((with_reducible refine And.intro ?_ ?_); focus exact xoC) | ((with_reducible refine Or.inl ⟨?_, ?_, ?_⟩); (focus rfl); focus exact xaC) | ((with_reducible refine xwB ?_ ?_); focus exact xaC) | ((with_reducible refine xwC ?_ ?_); focus exact xaC) | ((with_reducible refine xwD ?_ ?_); focus exact xaC) | ((with_reducible refine xwE ?_ ?_); focus exact xaC) | (with_reducible intro hc; (try simp only [capsP, and_true] at hc); (try exact xfC)) | ((fail_if_success (with_reducible first | refine xgon ?_ | intro _)); (conv => whnf); (fail_if_success (fail_if_success (with_reducible first | refine xstp ?_ | refine Both.mk ?_ ?_ | refine xgon ?_ | intro _)))))
  · skip
    refine LoopK.mk' {p : Nat × Nat // p.1 ≤ n}
      (fun ⟨(i, c), _⟩ => ⟨[(0, .c (.i .i64 id)), (1, .c (.s (mkS l))), (2, .c (.i .i64 z)), (8, .c (.i .i64 (n : Nat))), (9, .c (.sl 0 0 4 0 (parts id l z n i).length c)), (10, .c (.i .i64 (i : Nat)))],
        [.one (fgR (parts id l z n i) c)]⟩) (fun k => n - k.1.1)
      ⟨⟨(0, 0), Nat.zero_le _⟩, [99], ?_⟩ ?_
    · (repeat' first | refine And.intro ?_ ?_ | exact xeC | fail)
      all_goals first | omega | (intro i hi; exact absurd hi (Nat.not_lt_zero i))
    rintro ⟨⟨i, c⟩, hi⟩
    simp only at hi
    have hiz : i < n → i * z ≤ l.length := fun h => by
      by_cases h0 : i = 0
      · subst h0; omega
      · exact cnt_le hz1 (by omega) (by omega)
    have hpl := parts_len id l z n i
    have hi1 : ((i : Int) + 1) * (z : Int) = ((i * z + z : Nat) : Int) := by rw [Int.add_mul]; push_cast; omega
    repeat' (first | (fail_if_success (with_reducible refine xstp ?_)); first | ((with_reducible refine And.intro (fun (hb : _ = true) => ?_) (fun (hb : _ = false) => ?_)) <;> replace hb := xnC hb <;> (try first | exact xfC | exact bff hb (by assumption) | exact bff (by assumption) hb)) | (with_reducible refine Both.mk ?_ ?_) | ((with_reducible refine And.intro ?_ ?_); focus exact xoC) | ((with_reducible refine Or.inl ⟨?_, ?_, ?_⟩); (focus rfl); focus exact xaC) | ((with_reducible refine xwB ?_ ?_); focus exact xaC) | ((with_reducible refine xwC ?_ ?_); focus exact xaC) | ((with_reducible refine xwD ?_ ?_); focus exact xaC) | ((with_reducible refine xwE ?_ ?_); focus exact xaC) | (with_reducible intro hc; (try simp only [capsP, and_true] at hc); (try exact xfC)) | ((fail_if_success (with_reducible first | refine xgon ?_ | intro _)); (conv => whnf); (fail_if_success (fail_if_success (with_reducible first | refine xstp ?_ | refine Both.mk ?_ ?_ | refine xgon ?_ | intro _)))))
    · rename_i c2
      rw [ext_part2 hsz (e := ((mkS l).size : Int)) (by omega)]
      refine ⟨⟨(i + 1, c2), by simp only; omega⟩, [2], by simp only; omega, ?_⟩
      (repeat' first | refine And.intro ?_ ?_ | exact xeC | fail)
      all_goals try rw [parts_succ]
      all_goals first | omega | (simp only [List.length_append, List.length_singleton]; done) | (rw [List.length_append, List.length_singleton]; omega) | (intro i hi; (first | refine app_rowG _ _ _ _ ?_ i hi | refine app_row _ _ _ ?_ i hi); first | rfl | (simp only [Int.toNat_natCast, Nat.zero_add]; rfl))
    · rename_i c2
      rw [ext_part2 hsz (e := ((i : Int) + 1) * (z : Int)) (by omega)]
      refine ⟨⟨(i + 1, c2), by simp only; omega⟩, [2], by simp only; omega, ?_⟩
      (repeat' first | refine And.intro ?_ ?_ | exact xeC | fail)
      all_goals try rw [parts_succ]
      all_goals first | omega | (simp only [List.length_append, List.length_singleton]; done) | (rw [List.length_append, List.length_singleton]; omega) | (intro i hi; (first | refine app_rowG _ _ _ _ ?_ i hi | refine app_row _ _ _ ?_ i hi); first | rfl | (simp only [Int.toNat_natCast, Nat.zero_add]; rfl))
    · obtain rfl : i = n := by omega
      refine FinK.mk ⟨[0], _, _, ⟨c, rfl, rfl⟩, ?_⟩
      (repeat' first | refine And.intro ?_ ?_ | exact xeC | fail)
  · skip
    refine LoopK.mk' {p : Nat × Nat // p.1 ≤ n}
      (fun ⟨(i, c), _⟩ => ⟨[(0, .c (.i .i64 id)), (1, .c (.s (mkS l))), (2, .c (.i .i64 z)), (8, .c (.i .i64 (n : Nat))), (9, .c (.sl 0 0 4 0 (parts id l z n i).length c)), (10, .c (.i .i64 (i : Nat)))],
        [.one (fgR (parts id l z n i) c)]⟩) (fun k => n - k.1.1)
      ⟨⟨(0, 0), Nat.zero_le _⟩, [99], ?_⟩ ?_
    · (repeat' first | refine And.intro ?_ ?_ | exact xeC | fail)
      all_goals first | omega | (intro i hi; exact absurd hi (Nat.not_lt_zero i))
    rintro ⟨⟨i, c⟩, hi⟩
    simp only at hi
    have hiz : i < n → i * z ≤ l.length := fun h => by
      by_cases h0 : i = 0
      · subst h0; omega
      · exact cnt_le hz1 (by omega) (by omega)
    have hpl := parts_len id l z n i
    have hi1 : ((i : Int) + 1) * (z : Int) = ((i * z + z : Nat) : Int) := by rw [Int.add_mul]; push_cast; omega
    repeat' (first | (fail_if_success (with_reducible refine xstp ?_)); first | ((with_reducible refine And.intro (fun (hb : _ = true) => ?_) (fun (hb : _ = false) => ?_)) <;> replace hb := xnC hb <;> (try first | exact xfC | exact bff hb (by assumption) | exact bff (by assumption) hb)) | (with_reducible refine Both.mk ?_ ?_) | ((with_reducible refine And.intro ?_ ?_); focus exact xoC) | ((with_reducible refine Or.inl ⟨?_, ?_, ?_⟩); (focus rfl); focus exact xaC) | ((with_reducible refine xwB ?_ ?_); focus exact xaC) | ((with_reducible refine xwC ?_ ?_); focus exact xaC) | ((with_reducible refine xwD ?_ ?_); focus exact xaC) | ((with_reducible refine xwE ?_ ?_); focus exact xaC) | (with_reducible intro hc; (try simp only [capsP, and_true] at hc); (try exact xfC)) | ((fail_if_success (with_reducible first | refine xgon ?_ | intro _)); (conv => whnf); (fail_if_success (fail_if_success (with_reducible first | refine xstp ?_ | refine Both.mk ?_ ?_ | refine xgon ?_ | intro _)))))
    · rename_i c2
      rw [ext_part2 hsz (e := ((mkS l).size : Int)) (by omega)]
      refine ⟨⟨(i + 1, c2), by simp only; omega⟩, [2], by simp only; omega, ?_⟩
      (repeat' first | refine And.intro ?_ ?_ | exact xeC | fail)
      all_goals try rw [parts_succ]
      all_goals first | omega | (simp only [List.length_append, List.length_singleton]; done) | (rw [List.length_append, List.length_singleton]; omega) | (intro i hi; (first | refine app_rowG _ _ _ _ ?_ i hi | refine app_row _ _ _ ?_ i hi); first | rfl | (simp only [Int.toNat_natCast, Nat.zero_add]; rfl))
    · rename_i c2
      rw [ext_part2 hsz (e := ((i : Int) + 1) * (z : Int)) (by omega)]
      refine ⟨⟨(i + 1, c2), by simp only; omega⟩, [2], by simp only; omega, ?_⟩
      (repeat' first | refine And.intro ?_ ?_ | exact xeC | fail)
      all_goals try rw [parts_succ]
      all_goals first | omega | (simp only [List.length_append, List.length_singleton]; done) | (rw [List.length_append, List.length_singleton]; omega) | (intro i hi; (first | refine app_rowG _ _ _ _ ?_ i hi | refine app_row _ _ _ ?_ i hi); first | rfl | (simp only [Int.toNat_natCast, Nat.zero_add]; rfl))
    · obtain rfl : i = n := by omega
      refine FinK.mk ⟨[0], _, _, ⟨c, rfl, rfl⟩, ?_⟩
      (repeat' first | refine And.intro ?_ ?_ | exact xeC | fail)
end Go.Proofs.Ytgaodeffbgppmaa

namespace Go.Proofs.Ytgaodeffbgppmaa
open Go.X
set_option linter.unusedSimpArgs false
set_option linter.unusedVariables false
open P4
open P5
theorem parts_get (id : Int) (l : List UInt8) (z n k i : Nat) (h : i < k) : (parts id l z n k).getD i default = part id l z n i := by
  simp [parts, List.getD, h]
theorem part_ok {id size : Int} {l : List UInt8} (h : okS id size) (hc : cnt l.length size.toNat ≤ 64) {i : Nat} (hi : i < cnt l.length size.toNat) : okF (part id l size.toNat (cnt l.length size.toNat) i) := by
  unfold okS at h
  unfold okF part
  simp only [List.length_take]
  have := cnt_le (n := l.length) (z := size.toNat) (k := 1)
  refine ⟨h.1, by omega, by omega, by omega⟩
theorem spl_ok {id size : Int} {l : List UInt8} : ∀ x ∈ (spl id l size).1, okF x := by
  intro x hx
  unfold spl at hx
  split at hx
  · cases hx
  rename_i h
  split at hx
  · cases hx
  rename_i h2
  obtain ⟨i, hi, rfl⟩ := List.mem_map.1 hx
  exact part_ok (by simpa using h) (by omega) (by simpa using hi)
theorem parts_flat (id : Int) (l : List UInt8) (z n : Nat) : ∀ k, (parts id l z n k).flatMap Fg.d = l.take (k * z)
  | 0 => by simp [parts]
  | k + 1 => by
    rw [parts_succ, List.flatMap_append, parts_flat id l z n k]
    simp only [part, List.flatMap_cons, List.flatMap_nil, List.append_nil]
    rw [Nat.add_mul, Nat.one_mul, List.take_add]
theorem spl_flat {id size : Int} {l : List UInt8} (h : (spl id l size).2 = 0) : (spl id l size).1.flatMap Fg.d = l := by
  unfold spl at h ⊢
  split at h
  · exact absurd h (by decide)
  rename_i h1
  rw [if_neg h1]
  split at h
  · exact absurd h (by decide)
  rename_i h2
  rw [if_neg h2, parts_flat, List.take_of_length_le]
  have h1 : okS id size := by simpa using h1
  unfold okS at h1
  exact cnt_ge (by omega)
theorem spl_le (id size : Int) (l : List UInt8) : ((spl id l size).1.flatMap Fg.d).length ≤ l.length := by
  by_cases h : (spl id l size).2 = 0
  · rw [spl_flat h]; exact Nat.le_refl _
  · unfold spl at h ⊢
    repeat' split
    all_goals first | exact Nat.zero_le _ | skip
    rename_i h1 h2
    rw [if_neg h1, if_neg h2] at h
    exact absurd rfl h
theorem spl_len (id size : Int) (l : List UInt8) : (spl id l size).1.length ≤ 64 := by
  unfold spl
  repeat' split
  all_goals first | exact Nat.zero_le _ | (rw [parts_len]; omega)
theorem flat_take (P : List Fg) (i : Nat) : ((P.take i).flatMap Fg.d).length ≤ (P.flatMap Fg.d).length := by
  conv => rhs; rw [← List.take_append_drop i P, List.flatMap_append, List.length_append]
  omega

theorem frame_len {f : Fg} (h : okF f) : (frameL f).length ≤ 5000 := by
  unfold frameL
  rw [if_pos h]
  unfold okF at h
  unfold sealL frmL textL
  have h1 := venc_le f.id.toNat
  have h2 := venc_le f.ix.toNat
  have h3 := venc_le f.ct.toNat
  have h4 := venc_le f.d.length
  simp only [List.length_append, le_length]
  omega

theorem rH15vB0 {σ : List Sg} {H h' : List Fam} {v : T} {K : T → List Fam → Prop} {H' : List Fam} {v' : T} {N : Nat} (hk : K v' H') (hN : H.length = N := by (try simp only [↓List.length_cons, ↓List.length_nil, Nat.reduceAdd]) <;> rfl) (h : givesF σ N H σ h' = some H' := by (try simp (maxSteps := 1000000) only [givesF, setF, updF, Fam.zeroth, Fam.rk, Ck.rk, C.rk, E.rk, T.rk, key, List.map_cons, List.map_nil, List.cons_append, List.nil_append, List.length_cons, List.length_nil, Option.map_some, Option.bind_some, Nat.reduceAdd, Nat.zero_add, Nat.add_zero, Nat.add_sub_cancel_left, Int.toNat_natCast, reps, List.all_cons, List.all_nil, C.flat, List.append_eq, Bool.not_true, Bool.and_true, Bool.or_false, Bool.or_self, Bool.not_false, List.append_nil, Bool.and_self, encG]) <;> rfl) (hv : v.rk σ N = v' := by (try simp only [givesF, setF, updF, Fam.zeroth, Fam.rk, Ck.rk, C.rk, E.rk, T.rk, key, List.map_cons, List.map_nil, List.cons_append, List.nil_append, List.length_cons, List.length_nil, Option.map_some, Option.bind_some, Nat.reduceAdd, Nat.zero_add, Nat.add_zero, Nat.add_sub_cancel_left, Int.toNat_natCast, reps, List.all_cons, List.all_nil, C.flat, List.append_eq, Bool.not_true, Bool.and_true, Bool.or_false, Bool.or_self, Bool.not_false, List.append_nil, Bool.and_self, encG]) <;> rfl) : RetG σ H h' v K := ret_mk3 hN h hv hk
set_option maxRecDepth 20000 in
set_option maxHeartbeats 4000000 in
theorem csplits (id : Int) (l : List UInt8) (size : Int) (hl : l.length ≤ 9223372036854775807) :
    Ctr Try.prog 7 [.c (.i .i64 id), .c (.s (mkS l)), .c (.i .i64 size)] [] fun v _ => v = .c .tt := by
  have hzl : (mkS l).size = l.length := rfl
  refine Ctr.mk' tbv mixed Try.func7 rfl rfl rfl (fun _ _ => by kernel_rfl) (by kernel_rfl) (by rfl) (by rfl) (by (repeat' first | refine And.intro ?_ ?_ | exact xeC | fail)) ?_
  repeat' (first | (fail_if_success (with_reducible refine xstp ?_)); first | ((with_reducible refine And.intro (fun (hb : _ = true) => ?_) (fun (hb : _ = false) => ?_)) <;> replace hb := xnC hb <;> (try first | exact xfC | exact bff hb (by assumption) | exact bff (by assumption) hb)) | (with_reducible refine Both.mk ?_ ?_) | ((with_reducible refine And.intro ?_ ?_); focus exact xoC) | ((with_reducible refine Or.inl ⟨?_, ?_, ?_⟩); (focus rfl); focus exact xaC) | ((with_reducible refine xwB ?_ ?_); focus exact xaC) | ((with_reducible refine xwC ?_ ?_); focus exact xaC) | ((with_reducible refine xwD ?_ ?_); focus exact xaC) | ((with_reducible refine xwE ?_ ?_); focus exact xaC) | (with_reducible intro hc; (try simp only [capsP, and_true] at hc); (try exact xfC)) | ((fail_if_success (with_reducible first | refine xgon ?_ | intro _)); (conv => whnf); (fail_if_success (fail_if_success (with_reducible first | refine xstp ?_ | refine Both.mk ?_ ?_ | refine xgon ?_ | intro _)))))
  · skip
    refine xcal (σ := []) (nl := []) (cawake) ?_
    rintro v h' ⟨rfl, rfl⟩ hcaps
    refine rH15vB0 ?_
    repeat' (first | (fail_if_success (with_reducible refine xstp ?_)); first | ((with_reducible refine And.intro (fun (hb : _ = true) => ?_) (fun (hb : _ = false) => ?_)) <;> replace hb := xnC hb <;> (try first | exact xfC | exact bff hb (by assumption) | exact bff (by assumption) hb)) | (with_reducible refine Both.mk ?_ ?_) | ((with_reducible refine And.intro ?_ ?_); focus exact xoC) | ((with_reducible refine Or.inl ⟨?_, ?_, ?_⟩); (focus rfl); focus exact xaC) | ((with_reducible refine xwB ?_ ?_); focus exact xaC) | ((with_reducible refine xwC ?_ ?_); focus exact xaC) | ((with_reducible refine xwD ?_ ?_); focus exact xaC) | ((with_reducible refine xwE ?_ ?_); focus exact xaC) | (with_reducible intro hc; (try simp only [capsP, and_true] at hc); (try exact xfC)) | ((fail_if_success (with_reducible first | refine xgon ?_ | intro _)); (conv => whnf); (fail_if_success (fail_if_success (with_reducible first | refine xstp ?_ | refine Both.mk ?_ ?_ | refine xgon ?_ | intro _)))))
    refine FinK.mk ⟨[], _, [], rfl, ?_⟩
    (repeat' first | refine And.intro ?_ ?_ | exact xeC | fail)
  refine xcal (σ := []) (nl := []) (cSplit id l size (by omega)) ?_
  rintro v h' ⟨c, rfl, rfl⟩ hcaps
  refine xret ?_
  repeat' (first | (fail_if_success (with_reducible refine xstp ?_)); first | ((with_reducible refine And.intro (fun (hb : _ = true) => ?_) (fun (hb : _ = false) => ?_)) <;> replace hb := xnC hb <;> (try first | exact xfC | exact bff hb (by assumption) | exact bff (by assumption) hb)) | (with_reducible refine Both.mk ?_ ?_) | ((with_reducible refine And.intro ?_ ?_); focus exact xoC) | ((with_reducible refine Or.inl ⟨?_, ?_, ?_⟩); (focus rfl); focus exact xaC) | ((with_reducible refine xwB ?_ ?_); focus exact xaC) | ((with_reducible refine xwC ?_ ?_); focus exact xaC) | ((with_reducible refine xwD ?_ ?_); focus exact xaC) | ((with_reducible refine xwE ?_ ?_); focus exact xaC) | (with_reducible intro hc; (try simp only [capsP, and_true] at hc); (try exact xfC)) | ((fail_if_success (with_reducible first | refine xgon ?_ | intro _)); (conv => whnf); (fail_if_success (fail_if_success (with_reducible first | refine xstp ?_ | refine Both.mk ?_ ?_ | refine xgon ?_ | intro _)))))
  refine xcal (σ := []) (nl := []) (cSplitR id l size (by omega)) ?_
  rintro v h' ⟨c', rfl, rfl⟩ hcaps
  refine xret ?_
  repeat' (first | (fail_if_success (with_reducible refine xstp ?_)); first | ((with_reducible refine And.intro (fun (hb : _ = true) => ?_) (fun (hb : _ = false) => ?_)) <;> replace hb := xnC hb <;> (try first | exact xfC | exact bff hb (by assumption) | exact bff (by assumption) hb)) | (with_reducible refine Both.mk ?_ ?_) | ((with_reducible refine And.intro ?_ ?_); focus exact xoC) | ((with_reducible refine Or.inl ⟨?_, ?_, ?_⟩); (focus rfl); focus exact xaC) | ((with_reducible refine xwB ?_ ?_); focus exact xaC) | ((with_reducible refine xwC ?_ ?_); focus exact xaC) | ((with_reducible refine xwD ?_ ?_); focus exact xaC) | ((with_reducible refine xwE ?_ ?_); focus exact xaC) | (with_reducible intro hc; (try simp only [capsP, and_true] at hc); (try exact xfC)) | ((fail_if_success (with_reducible first | refine xgon ?_ | intro _)); (conv => whnf); (fail_if_success (fail_if_success (with_reducible first | refine xstp ?_ | refine Both.mk ?_ ?_ | refine xgon ?_ | intro _)))))
  have hle := spl_le id size l
  have hln := spl_len id size l
  have hok := spl_ok (id := id) (size := size) (l := l)
  have hfl := spl_flat (id := id) (size := size) (l := l)
  generalize spl id l size = R at *
  obtain ⟨P, e⟩ := R
  simp only at hle hln hok hfl
  refine LoopK.mk' {i : Nat // i ≤ P.length}
    (fun ⟨i, _⟩ => ⟨[(1, .c (.s (mkS l))), (7, .c (.sl 0 0 4 0 P.length c)), (8, .c (.i .i64 (e : Nat))), (9, .c (.sl 1 0 4 0 P.length c')), (11, .c (.s (mkS ((P.take i).flatMap Fg.d)))), (12, .c (.i .i64 (i : Nat)))],
      [.one (fgR P c), .one (fgR P c')]⟩) (fun k => P.length - k.1)
    ⟨⟨0, Nat.zero_le _⟩, [0, 1], ?_⟩ ?_
  · (repeat' first | refine And.intro ?_ ?_ | exact xeC | fail)
  rintro ⟨i, hi⟩
  have hft := flat_take P i
  have hfz : (mkS ((P.take i).flatMap Fg.d)).size = ((P.take i).flatMap Fg.d).length := rfl
  repeat' (first | (fail_if_success (with_reducible refine xstp ?_)); first | ((with_reducible refine And.intro (fun (hb : _ = true) => ?_) (fun (hb : _ = false) => ?_)) <;> replace hb := xnC hb <;> (try first | exact xfC | exact bff hb (by assumption) | exact bff (by assumption) hb)) | (with_reducible refine Both.mk ?_ ?_) | ((with_reducible refine And.intro ?_ ?_); focus exact xoC) | ((with_reducible refine Or.inl ⟨?_, ?_, ?_⟩); (focus rfl); focus exact xaC) | ((with_reducible refine xwB ?_ ?_); focus exact xaC) | ((with_reducible refine xwC ?_ ?_); focus exact xaC) | ((with_reducible refine xwD ?_ ?_); focus exact xaC) | ((with_reducible refine xwE ?_ ?_); focus exact xaC) | (with_reducible intro hc; (try simp only [capsP, and_true] at hc); (try exact xfC)) | ((fail_if_success (with_reducible first | refine xgon ?_ | intro _)); (conv => whnf); (fail_if_success (fail_if_success (with_reducible first | refine xstp ?_ | refine Both.mk ?_ ?_ | refine xgon ?_ | intro _)))))
  · have hxo : okF (P.getD i default) := hok _ (by rw [getD_at (by omega)]; exact List.getElem_mem _)
    have hxd : (P.getD i default).d.length ≤ 4000 := by unfold okF at hxo; exact hxo.2.2.2
    have hfl2 := frame_len hxo
    have hstep : (P.take (i + 1)).flatMap Fg.d = (P.take i).flatMap Fg.d ++ (P.getD i default).d := by
      rw [take_snocG P (by omega), List.flatMap_append]
      simp
    have huf := unf_fw hxo
    have hlast := flat_take P (i + 1)
    rw [hstep, List.length_append] at hlast
    have hdz : (mkS (P.getD i default).d).size = (P.getD i default).d.length := rfl
    simp only [Int.toNat_natCast, Nat.zero_add] at *
    refine xcal (σ := []) (nl := []) (cFrame (P.getD i default) (by omega)) ?_
    rintro v h' ⟨rfl, rfl⟩ hcaps
    refine rH15vB0 ?_
    repeat' (first | (fail_if_success (with_reducible refine xstp ?_)); first | ((with_reducible refine And.intro (fun (hb : _ = true) => ?_) (fun (hb : _ = false) => ?_)) <;> replace hb := xnC hb <;> (try first | exact xfC | exact bff hb (by assumption) | exact bff (by assumption) hb)) | (with_reducible refine Both.mk ?_ ?_) | ((with_reducible refine And.intro ?_ ?_); focus exact xoC) | ((with_reducible refine Or.inl ⟨?_, ?_, ?_⟩); (focus rfl); focus exact xaC) | ((with_reducible refine xwB ?_ ?_); focus exact xaC) | ((with_reducible refine xwC ?_ ?_); focus exact xaC) | ((with_reducible refine xwD ?_ ?_); focus exact xaC) | ((with_reducible refine xwE ?_ ?_); focus exact xaC) | (with_reducible intro hc; (try simp only [capsP, and_true] at hc); (try exact xfC)) | ((fail_if_success (with_reducible first | refine xgon ?_ | intro _)); (conv => whnf); (fail_if_success (fail_if_success (with_reducible first | refine xstp ?_ | refine Both.mk ?_ ?_ | refine xgon ?_ | intro _)))))
    refine xcal (σ := []) (nl := []) (cUnframe (frameL (P.getD i default)) (by omega)) ?_
    rintro v h' ⟨rfl, rfl⟩ hcaps
    rw [huf]
    refine rH15vB0 ?_
    repeat' (first | (fail_if_success (with_reducible refine xstp ?_)); first | ((with_reducible refine And.intro (fun (hb : _ = true) => ?_) (fun (hb : _ = false) => ?_)) <;> replace hb := xnC hb <;> (try first | exact xfC | exact bff hb (by assumption) | exact bff (by assumption) hb)) | (with_reducible refine Both.mk ?_ ?_) | ((with_reducible refine And.intro ?_ ?_); focus exact xoC) | ((with_reducible refine Or.inl ⟨?_, ?_, ?_⟩); (focus rfl); focus exact xaC) | ((with_reducible refine xwB ?_ ?_); focus exact xaC) | ((with_reducible refine xwC ?_ ?_); focus exact xaC) | ((with_reducible refine xwD ?_ ?_); focus exact xaC) | ((with_reducible refine xwE ?_ ?_); focus exact xaC) | (with_reducible intro hc; (try simp only [capsP, and_true] at hc); (try exact xfC)) | ((fail_if_success (with_reducible first | refine xgon ?_ | intro _)); (conv => whnf); (fail_if_success (fail_if_success (with_reducible first | refine xstp ?_ | refine Both.mk ?_ ?_ | refine xgon ?_ | intro _)))))
    refine xcal (σ := []) (nl := []) (cFrame (P.getD i default) (by omega)) ?_
    rintro v h' ⟨rfl, rfl⟩ hcaps
    refine rH15vB0 ?_
    repeat' (first | (fail_if_success (with_reducible refine xstp ?_)); first | ((with_reducible refine And.intro (fun (hb : _ = true) => ?_) (fun (hb : _ = false) => ?_)) <;> replace hb := xnC hb <;> (try first | exact xfC | exact bff hb (by assumption) | exact bff (by assumption) hb)) | (with_reducible refine Both.mk ?_ ?_) | ((with_reducible refine And.intro ?_ ?_); focus exact xoC) | ((with_reducible refine Or.inl ⟨?_, ?_, ?_⟩); (focus rfl); focus exact xaC) | ((with_reducible refine xwB ?_ ?_); focus exact xaC) | ((with_reducible refine xwC ?_ ?_); focus exact xaC) | ((with_reducible refine xwD ?_ ?_); focus exact xaC) | ((with_reducible refine xwE ?_ ?_); focus exact xaC) | (with_reducible intro hc; (try simp only [capsP, and_true] at hc); (try exact xfC)) | ((fail_if_success (with_reducible first | refine xgon ?_ | intro _)); (conv => whnf); (fail_if_success (fail_if_success (with_reducible first | refine xstp ?_ | refine Both.mk ?_ ?_ | refine xgon ?_ | intro _)))))
    refine xcal (σ := []) (nl := []) (cFrameR (P.getD i default) (by omega)) ?_
    rintro v h' ⟨rfl, rfl⟩ hcaps
    refine rH15vB0 ?_
    repeat' (first | (fail_if_success (with_reducible refine xstp ?_)); first | ((with_reducible refine And.intro (fun (hb : _ = true) => ?_) (fun (hb : _ = false) => ?_)) <;> replace hb := xnC hb <;> (try first | exact xfC | exact bff hb (by assumption) | exact bff (by assumption) hb)) | (with_reducible refine Both.mk ?_ ?_) | ((with_reducible refine And.intro ?_ ?_); focus exact xoC) | ((with_reducible refine Or.inl ⟨?_, ?_, ?_⟩); (focus rfl); focus exact xaC) | ((with_reducible refine xwB ?_ ?_); focus exact xaC) | ((with_reducible refine xwC ?_ ?_); focus exact xaC) | ((with_reducible refine xwD ?_ ?_); focus exact xaC) | ((with_reducible refine xwE ?_ ?_); focus exact xaC) | (with_reducible intro hc; (try simp only [capsP, and_true] at hc); (try exact xfC)) | ((fail_if_success (with_reducible first | refine xgon ?_ | intro _)); (conv => whnf); (fail_if_success (fail_if_success (with_reducible first | refine xstp ?_ | refine Both.mk ?_ ?_ | refine xgon ?_ | intro _)))))
    rw [mkS_append]
    refine ⟨⟨i + 1, by omega⟩, [0, 1], by simp only; omega, ?_⟩
    (repeat' first | refine And.intro ?_ ?_ | exact xeC | fail)
    rw [Int.toNat_natCast, Nat.zero_add]
    exact congrArg mkS hstep.symm
  · skip
    refine xcal (σ := []) (nl := []) (cawake) ?_
    rintro v h' ⟨rfl, rfl⟩ hcaps
    refine rH15vB0 ?_
    repeat' (first | (fail_if_success (with_reducible refine xstp ?_)); first | ((with_reducible refine And.intro (fun (hb : _ = true) => ?_) (fun (hb : _ = false) => ?_)) <;> replace hb := xnC hb <;> (try first | exact xfC | exact bff hb (by assumption) | exact bff (by assumption) hb)) | (with_reducible refine Both.mk ?_ ?_) | ((with_reducible refine And.intro ?_ ?_); focus exact xoC) | ((with_reducible refine Or.inl ⟨?_, ?_, ?_⟩); (focus rfl); focus exact xaC) | ((with_reducible refine xwB ?_ ?_); focus exact xaC) | ((with_reducible refine xwC ?_ ?_); focus exact xaC) | ((with_reducible refine xwD ?_ ?_); focus exact xaC) | ((with_reducible refine xwE ?_ ?_); focus exact xaC) | (with_reducible intro hc; (try simp only [capsP, and_true] at hc); (try exact xfC)) | ((fail_if_success (with_reducible first | refine xgon ?_ | intro _)); (conv => whnf); (fail_if_success (fail_if_success (with_reducible first | refine xstp ?_ | refine Both.mk ?_ ?_ | refine xgon ?_ | intro _)))))
    refine FinK.mk ⟨[], _, [], rfl, ?_⟩
    (repeat' first | refine And.intro ?_ ?_ | exact xeC | fail)
  · skip
    refine xcal (σ := []) (nl := []) (cawake) ?_
    rintro v h' ⟨rfl, rfl⟩ hcaps
    refine rH15vB0 ?_
    repeat' (first | (fail_if_success (with_reducible refine xstp ?_)); first | ((with_reducible refine And.intro (fun (hb : _ = true) => ?_) (fun (hb : _ = false) => ?_)) <;> replace hb := xnC hb <;> (try first | exact xfC | exact bff hb (by assumption) | exact bff (by assumption) hb)) | (with_reducible refine Both.mk ?_ ?_) | ((with_reducible refine And.intro ?_ ?_); focus exact xoC) | ((with_reducible refine Or.inl ⟨?_, ?_, ?_⟩); (focus rfl); focus exact xaC) | ((with_reducible refine xwB ?_ ?_); focus exact xaC) | ((with_reducible refine xwC ?_ ?_); focus exact xaC) | ((with_reducible refine xwD ?_ ?_); focus exact xaC) | ((with_reducible refine xwE ?_ ?_); focus exact xaC) | (with_reducible intro hc; (try simp only [capsP, and_true] at hc); (try exact xfC)) | ((fail_if_success (with_reducible first | refine xgon ?_ | intro _)); (conv => whnf); (fail_if_success (fail_if_success (with_reducible first | refine xstp ?_ | refine Both.mk ?_ ?_ | refine xgon ?_ | intro _)))))
    refine FinK.mk ⟨[], _, [], rfl, ?_⟩
    (repeat' first | refine And.intro ?_ ?_ | exact xeC | fail)
  · exfalso
    rw [List.take_of_length_le (by omega)] at hb
    exact hb (by rw [hfl (by omega)])

open Go.RowKit in
theorem walk_PacketSplits (W : World) (a0 : Int) (w0 : (Lit.int .i64 a0).wf = true) (a1 : ByteArray) (s1 : a1.size ≤ 140737488351232) (a2 : Int) (w2 : (Lit.int .i64 a2).wf = true) :
    Calls Try.prog 7 #[.int .i64 a0, .string a1, .int .i64 a2] W fun e W' => e = .returned (.bool true) ∧ Below W.heap.size W W' := by
  obtain ⟨hf, hno⟩ := nil_read (fun _ _ => (0, 0, .nil)) W
  have := glue (csplits a0 a1.data.toList a2 (by rw [P4.size_len]; omega)) hf hno
  rw [mkS_of] at this
  exact this
end Go.Proofs.Ytgaodeffbgppmaa
