/- Part 4 of the texts that a walk of this program rests on: an abstract machine, its soundness, contracts of functions. No statement of the seat is proved in this file. -/
import Derived.Test.YtohghplabennjaaZ3
namespace Go.Proofs.Ytohghplabennjaa
open Go.X
set_option linter.unusedSimpArgs false
set_option linter.unusedVariables false

theorem inew_ok (q : Qos) (hq : okQ q) : Ctr Try.prog 7 [.a (encQ q)] [] fun v h => v = .t [.c (.p 0 0 0), .c (.i .i64 0)] ∧ h = [.one (hist 1 q 0 0), .one (smps true [] 0)] :=
  Ctr.mono' (inew q) fun v h hh => hh.elim (fun h => h.2) (fun h => absurd hq h.1)
theorem inew_no (q : Qos) (hq : ¬ okQ q) : Ctr Try.prog 7 [.a (encQ q)] [] fun v h => v = .t [.c .nilp, .c (.i .i64 4)] ∧ h = [] :=
  Ctr.mono' (inew q) fun v h hh => hh.elim (fun h => absurd h.1 hq) (fun h => h.2)
theorem rnew_ok (q : Qos) (hq : okQ q) : Ctr Try.prog 18 [.a (encQ q)] [] fun v h => v = .t [.c (.p 0 0 0), .c (.i .i64 0)] ∧ h = [.one (hist 1 q 0 0), .one (smps true [] 0)] :=
  Ctr.mono' (rnew q) fun v h hh => hh.elim (fun h => h.2) (fun h => absurd hq h.1)
theorem rnew_no (q : Qos) (hq : ¬ okQ q) : Ctr Try.prog 18 [.a (encQ q)] [] fun v h => v = .t [.c .nilp, .c (.i .i64 4)] ∧ h = [] :=
  Ctr.mono' (rnew q) fun v h hh => hh.elim (fun h => absurd h.1 hq) (fun h => h.2)

def q1 : Qos := ⟨false, false, false, 1, 0, 0, 0⟩
def q0 : Qos := ⟨false, false, false, 0, 0, 0, 0⟩
def sa : Smp := ⟨1, 1, 0, ⟨#[97]⟩⟩
def sb : Smp := ⟨1, 2, 0, ⟨#[]⟩⟩
theorem aw1 : addE q1 [] sa = 0 ∧ newS q1 [] sa = [sa] ∧ outS q1 [] sa = [] := by decide
theorem aw2 : addE q1 [sa] sb = 0 ∧ newS q1 [sa] sb = [sb] ∧ outS q1 [sa] sb = [sa] := by decide
theorem aw3 : addE q1 [sb] sb = 7 ∧ newS q1 [sb] sb = [sb] ∧ outS q1 [sb] sb = [] := by decide

set_option maxRecDepth 10000 in
set_option maxHeartbeats 2000000 in
theorem cawake : Ctr Try.prog 8 [] [] fun v h => v = .c .tt ∧ h = [] := by
  refine Ctr.mk' tbv mixed Try.func8 rfl rfl rfl (fun _ _ => by kernel_rfl) (by kernel_rfl) (by rfl) (by rfl) (by exact trivial) ?_
  repeat' (first
    | ((fail_if_success (with_reducible first | apply LoopK.mk | apply CallK.mk | apply FinK.mk)); first
      | ((with_reducible refine And.intro (fun (hb : _ = true) => ?_) (fun (hb : _ = false) => ?_)) <;> (try simp only [decide_eq_true_eq, decide_eq_false_iff_not, Bool.not_eq_true', Bool.not_eq_false', Bool.and_eq_true, Bool.and_eq_false_iff, Bool.or_eq_true, Bool.or_eq_false_iff, Bool.and_true, Int.not_lt, Int.not_le, not_true_eq_false, or_self, true_and, Bool.true_eq_false, Bool.false_eq_true, reduceCtorEq, not_false_eq_true, decide_true, decide_false, Int.toNat_natCast, Nat.zero_add] at hb) <;> (try (first | (exfalso; omega) | exact (Bool.false_ne_true (Eq.trans (Eq.symm hb) (by assumption))).elim | exact (Bool.false_ne_true (Eq.trans (Eq.symm (by assumption)) hb)).elim)))
      | (with_reducible refine Both.mk ?_ ?_)
      | ((with_reducible refine And.intro ?_ ?_); (focus (first | rfl | omega | (split <;> omega) | (refine ⟨?_, ?_, ?_⟩ <;> first | rfl | omega | (split <;> omega)) | assumption | (refine ⟨?_, ?_⟩ <;> omega) | (refine ⟨?_, ?_, ?_⟩ <;> omega) | (refine ⟨?_, ?_, ?_, ?_⟩ <;> omega) | (dsimp only [maxLen]; refine ⟨?_, ?_⟩ <;> omega) | (refine ⟨rfl, ?_⟩ <;> omega) | exact ⟨rfl, rfl⟩ | exact ⟨rfl, rfl, by omega⟩)))
      | ((with_reducible refine Or.inl (And.intro ?_ (And.intro ?_ ?_))); (focus (rfl)); (focus (refine ⟨?_, ?_, ?_, ?_⟩ <;> first | rfl | omega)))
      | ((with_reducible refine Or.inr (Or.inl (And.intro ?_ ?_))); (focus (refine ⟨?_, ?_, ?_⟩ <;> first | rfl | omega)))
      | ((with_reducible refine Or.inr (Or.inr (Or.inl (And.intro ?_ ?_)))); (focus (refine ⟨?_, ?_, ?_, ?_, ?_⟩ <;> first | rfl | omega)))
      | ((with_reducible refine Or.inr (Or.inr (Or.inr (And.intro ?_ ?_)))); (focus (refine ⟨?_, ?_, ?_, ?_, ?_, ?_, ?_⟩ <;> first | rfl | omega)))
      | (with_reducible intro hc; (try simp only [capsP, and_true] at hc); (try (exfalso; omega)))
      | ((fail_if_success (with_reducible first | refine And.intro ?_ ?_ | refine Or.inl ?_ | intro _)); (conv => whnf); (fail_if_success (fail_if_success (with_reducible first | apply LoopK.mk | apply CallK.mk | apply FinK.mk | refine Both.mk ?_ ?_ | refine And.intro ?_ ?_ | refine Or.inl ?_ | intro _))))))
  refine CallK.mk2 (σ := []) (nl := []) (inew_ok q1 (by decide)) rfl rfl (by (try simp only [givesF, setF, updF, Fam.zeroth, Fam.rk, Ck.rk, C.rk, E.rk, T.rk, key, List.map_cons, List.map_nil, List.cons_append, List.nil_append, List.length_cons, List.length_nil, Option.map_some, Option.bind_some, Nat.reduceAdd, Nat.zero_add, Nat.add_zero, Nat.add_sub_cancel_left, Int.toNat_natCast, reps, List.all_cons, List.all_nil, C.flat, List.append_eq, Bool.not_true, Bool.and_true, Bool.or_false, Bool.or_self, Bool.not_false, List.append_nil, Bool.and_self]); rfl) (by (repeat' (first | (refine And.intro ?_ ?_) | exact trivial | rfl | exact Nat.le_refl _ | exact (fun _ _ => rfl) | exact all_one (by rfl) | (simp only [Int.toNat_natCast, Nat.zero_add, Nat.add_zero]; done)))) ?_
  rintro v h' ⟨rfl, rfl⟩ hcaps
  refine ret_mk (by (try simp only [givesF, setF, updF, Fam.zeroth, Fam.rk, Ck.rk, C.rk, E.rk, T.rk, key, List.map_cons, List.map_nil, List.cons_append, List.nil_append, List.length_cons, List.length_nil, Option.map_some, Option.bind_some, Nat.reduceAdd, Nat.zero_add, Nat.add_zero, Nat.add_sub_cancel_left, Int.toNat_natCast, reps, List.all_cons, List.all_nil, C.flat, List.append_eq, Bool.not_true, Bool.and_true, Bool.or_false, Bool.or_self, Bool.not_false, List.append_nil, Bool.and_self]); rfl) (by (try simp only [givesF, setF, updF, Fam.zeroth, Fam.rk, Ck.rk, C.rk, E.rk, T.rk, key, List.map_cons, List.map_nil, List.cons_append, List.nil_append, List.length_cons, List.length_nil, Option.map_some, Option.bind_some, Nat.reduceAdd, Nat.zero_add, Nat.add_zero, Nat.add_sub_cancel_left, Int.toNat_natCast, reps, List.all_cons, List.all_nil, C.flat, List.append_eq, Bool.not_true, Bool.and_true, Bool.or_false, Bool.or_self, Bool.not_false, List.append_nil, Bool.and_self]); rfl) ?_
  repeat' (first
    | ((fail_if_success (with_reducible first | apply LoopK.mk | apply CallK.mk | apply FinK.mk)); first
      | ((with_reducible refine And.intro (fun (hb : _ = true) => ?_) (fun (hb : _ = false) => ?_)) <;> (try simp only [decide_eq_true_eq, decide_eq_false_iff_not, Bool.not_eq_true', Bool.not_eq_false', Bool.and_eq_true, Bool.and_eq_false_iff, Bool.or_eq_true, Bool.or_eq_false_iff, Bool.and_true, Int.not_lt, Int.not_le, not_true_eq_false, or_self, true_and, Bool.true_eq_false, Bool.false_eq_true, reduceCtorEq, not_false_eq_true, decide_true, decide_false, Int.toNat_natCast, Nat.zero_add] at hb) <;> (try (first | (exfalso; omega) | exact (Bool.false_ne_true (Eq.trans (Eq.symm hb) (by assumption))).elim | exact (Bool.false_ne_true (Eq.trans (Eq.symm (by assumption)) hb)).elim)))
      | (with_reducible refine Both.mk ?_ ?_)
      | ((with_reducible refine And.intro ?_ ?_); (focus (first | rfl | omega | (split <;> omega) | (refine ⟨?_, ?_, ?_⟩ <;> first | rfl | omega | (split <;> omega)) | assumption | (refine ⟨?_, ?_⟩ <;> omega) | (refine ⟨?_, ?_, ?_⟩ <;> omega) | (refine ⟨?_, ?_, ?_, ?_⟩ <;> omega) | (dsimp only [maxLen]; refine ⟨?_, ?_⟩ <;> omega) | (refine ⟨rfl, ?_⟩ <;> omega) | exact ⟨rfl, rfl⟩ | exact ⟨rfl, rfl, by omega⟩)))
      | ((with_reducible refine Or.inl (And.intro ?_ (And.intro ?_ ?_))); (focus (rfl)); (focus (refine ⟨?_, ?_, ?_, ?_⟩ <;> first | rfl | omega)))
      | ((with_reducible refine Or.inr (Or.inl (And.intro ?_ ?_))); (focus (refine ⟨?_, ?_, ?_⟩ <;> first | rfl | omega)))
      | ((with_reducible refine Or.inr (Or.inr (Or.inl (And.intro ?_ ?_)))); (focus (refine ⟨?_, ?_, ?_, ?_, ?_⟩ <;> first | rfl | omega)))
      | ((with_reducible refine Or.inr (Or.inr (Or.inr (And.intro ?_ ?_)))); (focus (refine ⟨?_, ?_, ?_, ?_, ?_, ?_, ?_⟩ <;> first | rfl | omega)))
      | (with_reducible intro hc; (try simp only [capsP, and_true] at hc); (try (exfalso; omega)))
      | ((fail_if_success (with_reducible first | refine And.intro ?_ ?_ | refine Or.inl ?_ | intro _)); (conv => whnf); (fail_if_success (fail_if_success (with_reducible first | apply LoopK.mk | apply CallK.mk | apply FinK.mk | refine Both.mk ?_ ?_ | refine And.intro ?_ ?_ | refine Or.inl ?_ | intro _))))))
  refine CallK.mk2 (σ := []) (nl := []) (inew_no q0 (by decide)) rfl rfl (by (try simp only [givesF, setF, updF, Fam.zeroth, Fam.rk, Ck.rk, C.rk, E.rk, T.rk, key, List.map_cons, List.map_nil, List.cons_append, List.nil_append, List.length_cons, List.length_nil, Option.map_some, Option.bind_some, Nat.reduceAdd, Nat.zero_add, Nat.add_zero, Nat.add_sub_cancel_left, Int.toNat_natCast, reps, List.all_cons, List.all_nil, C.flat, List.append_eq, Bool.not_true, Bool.and_true, Bool.or_false, Bool.or_self, Bool.not_false, List.append_nil, Bool.and_self]); rfl) (by (repeat' (first | (refine And.intro ?_ ?_) | exact trivial | rfl | exact Nat.le_refl _ | exact (fun _ _ => rfl) | exact all_one (by rfl) | (simp only [Int.toNat_natCast, Nat.zero_add, Nat.add_zero]; done)))) ?_
  rintro v h' ⟨rfl, rfl⟩ hcaps
  refine ret_mk (by (try simp only [givesF, setF, updF, Fam.zeroth, Fam.rk, Ck.rk, C.rk, E.rk, T.rk, key, List.map_cons, List.map_nil, List.cons_append, List.nil_append, List.length_cons, List.length_nil, Option.map_some, Option.bind_some, Nat.reduceAdd, Nat.zero_add, Nat.add_zero, Nat.add_sub_cancel_left, Int.toNat_natCast, reps, List.all_cons, List.all_nil, C.flat, List.append_eq, Bool.not_true, Bool.and_true, Bool.or_false, Bool.or_self, Bool.not_false, List.append_nil, Bool.and_self]); rfl) (by (try simp only [givesF, setF, updF, Fam.zeroth, Fam.rk, Ck.rk, C.rk, E.rk, T.rk, key, List.map_cons, List.map_nil, List.cons_append, List.nil_append, List.length_cons, List.length_nil, Option.map_some, Option.bind_some, Nat.reduceAdd, Nat.zero_add, Nat.add_zero, Nat.add_sub_cancel_left, Int.toNat_natCast, reps, List.all_cons, List.all_nil, C.flat, List.append_eq, Bool.not_true, Bool.and_true, Bool.or_false, Bool.or_self, Bool.not_false, List.append_nil, Bool.and_self]); rfl) ?_
  repeat' (first
    | ((fail_if_success (with_reducible first | apply LoopK.mk | apply CallK.mk | apply FinK.mk)); first
      | ((with_reducible refine And.intro (fun (hb : _ = true) => ?_) (fun (hb : _ = false) => ?_)) <;> (try simp only [decide_eq_true_eq, decide_eq_false_iff_not, Bool.not_eq_true', Bool.not_eq_false', Bool.and_eq_true, Bool.and_eq_false_iff, Bool.or_eq_true, Bool.or_eq_false_iff, Bool.and_true, Int.not_lt, Int.not_le, not_true_eq_false, or_self, true_and, Bool.true_eq_false, Bool.false_eq_true, reduceCtorEq, not_false_eq_true, decide_true, decide_false, Int.toNat_natCast, Nat.zero_add] at hb) <;> (try (first | (exfalso; omega) | exact (Bool.false_ne_true (Eq.trans (Eq.symm hb) (by assumption))).elim | exact (Bool.false_ne_true (Eq.trans (Eq.symm (by assumption)) hb)).elim)))
      | (with_reducible refine Both.mk ?_ ?_)
      | ((with_reducible refine And.intro ?_ ?_); (focus (first | rfl | omega | (split <;> omega) | (refine ⟨?_, ?_, ?_⟩ <;> first | rfl | omega | (split <;> omega)) | assumption | (refine ⟨?_, ?_⟩ <;> omega) | (refine ⟨?_, ?_, ?_⟩ <;> omega) | (refine ⟨?_, ?_, ?_, ?_⟩ <;> omega) | (dsimp only [maxLen]; refine ⟨?_, ?_⟩ <;> omega) | (refine ⟨rfl, ?_⟩ <;> omega) | exact ⟨rfl, rfl⟩ | exact ⟨rfl, rfl, by omega⟩)))
      | ((with_reducible refine Or.inl (And.intro ?_ (And.intro ?_ ?_))); (focus (rfl)); (focus (refine ⟨?_, ?_, ?_, ?_⟩ <;> first | rfl | omega)))
      | ((with_reducible refine Or.inr (Or.inl (And.intro ?_ ?_))); (focus (refine ⟨?_, ?_, ?_⟩ <;> first | rfl | omega)))
      | ((with_reducible refine Or.inr (Or.inr (Or.inl (And.intro ?_ ?_)))); (focus (refine ⟨?_, ?_, ?_, ?_, ?_⟩ <;> first | rfl | omega)))
      | ((with_reducible refine Or.inr (Or.inr (Or.inr (And.intro ?_ ?_)))); (focus (refine ⟨?_, ?_, ?_, ?_, ?_, ?_, ?_⟩ <;> first | rfl | omega)))
      | (with_reducible intro hc; (try simp only [capsP, and_true] at hc); (try (exfalso; omega)))
      | ((fail_if_success (with_reducible first | refine And.intro ?_ ?_ | refine Or.inl ?_ | intro _)); (conv => whnf); (fail_if_success (fail_if_success (with_reducible first | apply LoopK.mk | apply CallK.mk | apply FinK.mk | refine Both.mk ?_ ?_ | refine And.intro ?_ ?_ | refine Or.inl ?_ | intro _))))))
  refine CallK.mk2 (σ := [.whole 0, .whole 1]) (nl := []) (iadd q1 [] 0 sa (by simp)) rfl rfl (by (try simp only [givesF, setF, updF, Fam.zeroth, Fam.rk, Ck.rk, C.rk, E.rk, T.rk, key, List.map_cons, List.map_nil, List.cons_append, List.nil_append, List.length_cons, List.length_nil, Option.map_some, Option.bind_some, Nat.reduceAdd, Nat.zero_add, Nat.add_zero, Nat.add_sub_cancel_left, Int.toNat_natCast, reps, List.all_cons, List.all_nil, C.flat, List.append_eq, Bool.not_true, Bool.and_true, Bool.or_false, Bool.or_self, Bool.not_false, List.append_nil, Bool.and_self]); rfl) (by (repeat' (first | (refine And.intro ?_ ?_) | exact trivial | rfl | exact Nat.le_refl _ | exact (fun _ _ => rfl) | exact all_one (by rfl) | (simp only [Int.toNat_natCast, Nat.zero_add, Nat.add_zero]; done)))) ?_
  rintro v h' ⟨co, c1, rfl, rfl⟩ hcaps
  rw [aw1.1, aw1.2.1, aw1.2.2]
  refine ret_mk (by (try simp only [givesF, setF, updF, Fam.zeroth, Fam.rk, Ck.rk, C.rk, E.rk, T.rk, key, List.map_cons, List.map_nil, List.cons_append, List.nil_append, List.length_cons, List.length_nil, Option.map_some, Option.bind_some, Nat.reduceAdd, Nat.zero_add, Nat.add_zero, Nat.add_sub_cancel_left, Int.toNat_natCast, reps, List.all_cons, List.all_nil, C.flat, List.append_eq, Bool.not_true, Bool.and_true, Bool.or_false, Bool.or_self, Bool.not_false, List.append_nil, Bool.and_self]); rfl) (by (try simp only [givesF, setF, updF, Fam.zeroth, Fam.rk, Ck.rk, C.rk, E.rk, T.rk, key, List.map_cons, List.map_nil, List.cons_append, List.nil_append, List.length_cons, List.length_nil, Option.map_some, Option.bind_some, Nat.reduceAdd, Nat.zero_add, Nat.add_zero, Nat.add_sub_cancel_left, Int.toNat_natCast, reps, List.all_cons, List.all_nil, C.flat, List.append_eq, Bool.not_true, Bool.and_true, Bool.or_false, Bool.or_self, Bool.not_false, List.append_nil, Bool.and_self]); rfl) ?_
  repeat' (first
    | ((fail_if_success (with_reducible first | apply LoopK.mk | apply CallK.mk | apply FinK.mk)); first
      | ((with_reducible refine And.intro (fun (hb : _ = true) => ?_) (fun (hb : _ = false) => ?_)) <;> (try simp only [decide_eq_true_eq, decide_eq_false_iff_not, Bool.not_eq_true', Bool.not_eq_false', Bool.and_eq_true, Bool.and_eq_false_iff, Bool.or_eq_true, Bool.or_eq_false_iff, Bool.and_true, Int.not_lt, Int.not_le, not_true_eq_false, or_self, true_and, Bool.true_eq_false, Bool.false_eq_true, reduceCtorEq, not_false_eq_true, decide_true, decide_false, Int.toNat_natCast, Nat.zero_add] at hb) <;> (try (first | (exfalso; omega) | exact (Bool.false_ne_true (Eq.trans (Eq.symm hb) (by assumption))).elim | exact (Bool.false_ne_true (Eq.trans (Eq.symm (by assumption)) hb)).elim)))
      | (with_reducible refine Both.mk ?_ ?_)
      | ((with_reducible refine And.intro ?_ ?_); (focus (first | rfl | omega | (split <;> omega) | (refine ⟨?_, ?_, ?_⟩ <;> first | rfl | omega | (split <;> omega)) | assumption | (refine ⟨?_, ?_⟩ <;> omega) | (refine ⟨?_, ?_, ?_⟩ <;> omega) | (refine ⟨?_, ?_, ?_, ?_⟩ <;> omega) | (dsimp only [maxLen]; refine ⟨?_, ?_⟩ <;> omega) | (refine ⟨rfl, ?_⟩ <;> omega) | exact ⟨rfl, rfl⟩ | exact ⟨rfl, rfl, by omega⟩)))
      | ((with_reducible refine Or.inl (And.intro ?_ (And.intro ?_ ?_))); (focus (rfl)); (focus (refine ⟨?_, ?_, ?_, ?_⟩ <;> first | rfl | omega)))
      | ((with_reducible refine Or.inr (Or.inl (And.intro ?_ ?_))); (focus (refine ⟨?_, ?_, ?_⟩ <;> first | rfl | omega)))
      | ((with_reducible refine Or.inr (Or.inr (Or.inl (And.intro ?_ ?_)))); (focus (refine ⟨?_, ?_, ?_, ?_, ?_⟩ <;> first | rfl | omega)))
      | ((with_reducible refine Or.inr (Or.inr (Or.inr (And.intro ?_ ?_)))); (focus (refine ⟨?_, ?_, ?_, ?_, ?_, ?_, ?_⟩ <;> first | rfl | omega)))
      | (with_reducible intro hc; (try simp only [capsP, and_true] at hc); (try (exfalso; omega)))
      | ((fail_if_success (with_reducible first | refine And.intro ?_ ?_ | refine Or.inl ?_ | intro _)); (conv => whnf); (fail_if_success (fail_if_success (with_reducible first | apply LoopK.mk | apply CallK.mk | apply FinK.mk | refine Both.mk ?_ ?_ | refine And.intro ?_ ?_ | refine Or.inl ?_ | intro _))))))
  refine CallK.mk2 (σ := [.whole 0, .whole 4]) (nl := []) (iadd q1 [sa] c1 sb (by simp)) rfl rfl (by (try simp only [givesF, setF, updF, Fam.zeroth, Fam.rk, Ck.rk, C.rk, E.rk, T.rk, key, List.map_cons, List.map_nil, List.cons_append, List.nil_append, List.length_cons, List.length_nil, Option.map_some, Option.bind_some, Nat.reduceAdd, Nat.zero_add, Nat.add_zero, Nat.add_sub_cancel_left, Int.toNat_natCast, reps, List.all_cons, List.all_nil, C.flat, List.append_eq, Bool.not_true, Bool.and_true, Bool.or_false, Bool.or_self, Bool.not_false, List.append_nil, Bool.and_self]); rfl) (by (repeat' (first | (refine And.intro ?_ ?_) | exact trivial | rfl | exact Nat.le_refl _ | exact (fun _ _ => rfl) | exact all_one (by rfl) | (simp only [Int.toNat_natCast, Nat.zero_add, Nat.add_zero]; done)))) ?_
  rintro v h' ⟨co2, c2, rfl, rfl⟩ hcaps
  rw [aw2.1, aw2.2.1, aw2.2.2]
  refine ret_mk (by (try simp only [givesF, setF, updF, Fam.zeroth, Fam.rk, Ck.rk, C.rk, E.rk, T.rk, key, List.map_cons, List.map_nil, List.cons_append, List.nil_append, List.length_cons, List.length_nil, Option.map_some, Option.bind_some, Nat.reduceAdd, Nat.zero_add, Nat.add_zero, Nat.add_sub_cancel_left, Int.toNat_natCast, reps, List.all_cons, List.all_nil, C.flat, List.append_eq, Bool.not_true, Bool.and_true, Bool.or_false, Bool.or_self, Bool.not_false, List.append_nil, Bool.and_self]); rfl) (by (try simp only [givesF, setF, updF, Fam.zeroth, Fam.rk, Ck.rk, C.rk, E.rk, T.rk, key, List.map_cons, List.map_nil, List.cons_append, List.nil_append, List.length_cons, List.length_nil, Option.map_some, Option.bind_some, Nat.reduceAdd, Nat.zero_add, Nat.add_zero, Nat.add_sub_cancel_left, Int.toNat_natCast, reps, List.all_cons, List.all_nil, C.flat, List.append_eq, Bool.not_true, Bool.and_true, Bool.or_false, Bool.or_self, Bool.not_false, List.append_nil, Bool.and_self]); rfl) ?_
  repeat' (first
    | ((fail_if_success (with_reducible first | apply LoopK.mk | apply CallK.mk | apply FinK.mk)); first
      | ((with_reducible refine And.intro (fun (hb : _ = true) => ?_) (fun (hb : _ = false) => ?_)) <;> (try simp only [decide_eq_true_eq, decide_eq_false_iff_not, Bool.not_eq_true', Bool.not_eq_false', Bool.and_eq_true, Bool.and_eq_false_iff, Bool.or_eq_true, Bool.or_eq_false_iff, Bool.and_true, Int.not_lt, Int.not_le, not_true_eq_false, or_self, true_and, Bool.true_eq_false, Bool.false_eq_true, reduceCtorEq, not_false_eq_true, decide_true, decide_false, Int.toNat_natCast, Nat.zero_add] at hb) <;> (try (first | (exfalso; omega) | exact (Bool.false_ne_true (Eq.trans (Eq.symm hb) (by assumption))).elim | exact (Bool.false_ne_true (Eq.trans (Eq.symm (by assumption)) hb)).elim)))
      | (with_reducible refine Both.mk ?_ ?_)
      | ((with_reducible refine And.intro ?_ ?_); (focus (first | rfl | omega | (split <;> omega) | (refine ⟨?_, ?_, ?_⟩ <;> first | rfl | omega | (split <;> omega)) | assumption | (refine ⟨?_, ?_⟩ <;> omega) | (refine ⟨?_, ?_, ?_⟩ <;> omega) | (refine ⟨?_, ?_, ?_, ?_⟩ <;> omega) | (dsimp only [maxLen]; refine ⟨?_, ?_⟩ <;> omega) | (refine ⟨rfl, ?_⟩ <;> omega) | exact ⟨rfl, rfl⟩ | exact ⟨rfl, rfl, by omega⟩)))
      | ((with_reducible refine Or.inl (And.intro ?_ (And.intro ?_ ?_))); (focus (rfl)); (focus (refine ⟨?_, ?_, ?_, ?_⟩ <;> first | rfl | omega)))
      | ((with_reducible refine Or.inr (Or.inl (And.intro ?_ ?_))); (focus (refine ⟨?_, ?_, ?_⟩ <;> first | rfl | omega)))
      | ((with_reducible refine Or.inr (Or.inr (Or.inl (And.intro ?_ ?_)))); (focus (refine ⟨?_, ?_, ?_, ?_, ?_⟩ <;> first | rfl | omega)))
      | ((with_reducible refine Or.inr (Or.inr (Or.inr (And.intro ?_ ?_)))); (focus (refine ⟨?_, ?_, ?_, ?_, ?_, ?_, ?_⟩ <;> first | rfl | omega)))
      | (with_reducible intro hc; (try simp only [capsP, and_true] at hc); (try (exfalso; omega)))
      | ((fail_if_success (with_reducible first | refine And.intro ?_ ?_ | refine Or.inl ?_ | intro _)); (conv => whnf); (fail_if_success (fail_if_success (with_reducible first | apply LoopK.mk | apply CallK.mk | apply FinK.mk | refine Both.mk ?_ ?_ | refine And.intro ?_ ?_ | refine Or.inl ?_ | intro _))))))
  refine CallK.mk2 (σ := [.whole 0, .whole 6]) (nl := []) (iadd q1 [sb] c2 sb (by simp)) rfl rfl (by (try simp only [givesF, setF, updF, Fam.zeroth, Fam.rk, Ck.rk, C.rk, E.rk, T.rk, key, List.map_cons, List.map_nil, List.cons_append, List.nil_append, List.length_cons, List.length_nil, Option.map_some, Option.bind_some, Nat.reduceAdd, Nat.zero_add, Nat.add_zero, Nat.add_sub_cancel_left, Int.toNat_natCast, reps, List.all_cons, List.all_nil, C.flat, List.append_eq, Bool.not_true, Bool.and_true, Bool.or_false, Bool.or_self, Bool.not_false, List.append_nil, Bool.and_self]); rfl) (by (repeat' (first | (refine And.intro ?_ ?_) | exact trivial | rfl | exact Nat.le_refl _ | exact (fun _ _ => rfl) | exact all_one (by rfl) | (simp only [Int.toNat_natCast, Nat.zero_add, Nat.add_zero]; done)))) ?_
  rintro v h' ⟨co3, c3, rfl, rfl⟩ hcaps
  rw [aw3.1, aw3.2.1, aw3.2.2]
  refine ret_mk (by (try simp only [givesF, setF, updF, Fam.zeroth, Fam.rk, Ck.rk, C.rk, E.rk, T.rk, key, List.map_cons, List.map_nil, List.cons_append, List.nil_append, List.length_cons, List.length_nil, Option.map_some, Option.bind_some, Nat.reduceAdd, Nat.zero_add, Nat.add_zero, Nat.add_sub_cancel_left, Int.toNat_natCast, reps, List.all_cons, List.all_nil, C.flat, List.append_eq, Bool.not_true, Bool.and_true, Bool.or_false, Bool.or_self, Bool.not_false, List.append_nil, Bool.and_self]); rfl) (by (try simp only [givesF, setF, updF, Fam.zeroth, Fam.rk, Ck.rk, C.rk, E.rk, T.rk, key, List.map_cons, List.map_nil, List.cons_append, List.nil_append, List.length_cons, List.length_nil, Option.map_some, Option.bind_some, Nat.reduceAdd, Nat.zero_add, Nat.add_zero, Nat.add_sub_cancel_left, Int.toNat_natCast, reps, List.all_cons, List.all_nil, C.flat, List.append_eq, Bool.not_true, Bool.and_true, Bool.or_false, Bool.or_self, Bool.not_false, List.append_nil, Bool.and_self]); rfl) ?_
  repeat' (first
    | ((fail_if_success (with_reducible first | apply LoopK.mk | apply CallK.mk | apply FinK.mk)); first
      | ((with_reducible refine And.intro (fun (hb : _ = true) => ?_) (fun (hb : _ = false) => ?_)) <;> (try simp only [decide_eq_true_eq, decide_eq_false_iff_not, Bool.not_eq_true', Bool.not_eq_false', Bool.and_eq_true, Bool.and_eq_false_iff, Bool.or_eq_true, Bool.or_eq_false_iff, Bool.and_true, Int.not_lt, Int.not_le, not_true_eq_false, or_self, true_and, Bool.true_eq_false, Bool.false_eq_true, reduceCtorEq, not_false_eq_true, decide_true, decide_false, Int.toNat_natCast, Nat.zero_add] at hb) <;> (try (first | (exfalso; omega) | exact (Bool.false_ne_true (Eq.trans (Eq.symm hb) (by assumption))).elim | exact (Bool.false_ne_true (Eq.trans (Eq.symm (by assumption)) hb)).elim | (exfalso; revert hb; decide) | (exfalso; simp at hb; done))))
      | (with_reducible refine Both.mk ?_ ?_)
      | ((with_reducible refine And.intro ?_ ?_); (focus (first | rfl | omega | (split <;> omega) | (refine ⟨?_, ?_, ?_⟩ <;> first | rfl | omega | (split <;> omega)) | assumption | (refine ⟨?_, ?_⟩ <;> omega) | (refine ⟨?_, ?_, ?_⟩ <;> omega) | (refine ⟨?_, ?_, ?_, ?_⟩ <;> omega) | (dsimp only [maxLen]; refine ⟨?_, ?_⟩ <;> omega) | (refine ⟨rfl, ?_⟩ <;> omega) | exact ⟨rfl, rfl⟩ | exact ⟨rfl, rfl, by omega⟩)))
      | ((with_reducible refine Or.inl (And.intro ?_ (And.intro ?_ ?_))); (focus (rfl)); (focus (refine ⟨?_, ?_, ?_, ?_⟩ <;> first | rfl | omega)))
      | ((with_reducible refine Or.inr (Or.inl (And.intro ?_ ?_))); (focus (refine ⟨?_, ?_, ?_⟩ <;> first | rfl | omega)))
      | ((with_reducible refine Or.inr (Or.inr (Or.inl (And.intro ?_ ?_)))); (focus (refine ⟨?_, ?_, ?_, ?_, ?_⟩ <;> first | rfl | omega)))
      | ((with_reducible refine Or.inr (Or.inr (Or.inr (And.intro ?_ ?_)))); (focus (refine ⟨?_, ?_, ?_, ?_, ?_, ?_, ?_⟩ <;> first | rfl | omega)))
      | (with_reducible intro hc; (try simp only [capsP, and_true] at hc); (try (exfalso; omega)))
      | ((fail_if_success (with_reducible first | refine And.intro ?_ ?_ | refine Or.inl ?_ | intro _)); (conv => whnf); (fail_if_success (fail_if_success (with_reducible first | apply LoopK.mk | apply CallK.mk | apply FinK.mk | refine Both.mk ?_ ?_ | refine And.intro ?_ ?_ | refine Or.inl ?_ | intro _))))))
  · refine CallK.mk2 (σ := [.whole 0, .whole 8]) (nl := []) (ilist q1 [sb] c3 (by simp)) rfl rfl (by (try simp only [givesF, setF, updF, Fam.zeroth, Fam.rk, Ck.rk, C.rk, E.rk, T.rk, key, List.map_cons, List.map_nil, List.cons_append, List.nil_append, List.length_cons, List.length_nil, Option.map_some, Option.bind_some, Nat.reduceAdd, Nat.zero_add, Nat.add_zero, Nat.add_sub_cancel_left, Int.toNat_natCast, reps, List.all_cons, List.all_nil, C.flat, List.append_eq, Bool.not_true, Bool.and_true, Bool.or_false, Bool.or_self, Bool.not_false, List.append_nil, Bool.and_self]); rfl) (by (repeat' (first | (refine And.intro ?_ ?_) | exact trivial | rfl | exact Nat.le_refl _ | exact (fun _ _ => rfl) | exact all_one (by rfl) | (simp only [Int.toNat_natCast, Nat.zero_add, Nat.add_zero]; done)))) ?_
    rintro v h' ⟨c4, rfl, rfl⟩ hcaps
    refine ret_mk (by (try simp only [givesF, setF, updF, Fam.zeroth, Fam.rk, Ck.rk, C.rk, E.rk, T.rk, key, List.map_cons, List.map_nil, List.cons_append, List.nil_append, List.length_cons, List.length_nil, Option.map_some, Option.bind_some, Nat.reduceAdd, Nat.zero_add, Nat.add_zero, Nat.add_sub_cancel_left, Int.toNat_natCast, reps, List.all_cons, List.all_nil, C.flat, List.append_eq, Bool.not_true, Bool.and_true, Bool.or_false, Bool.or_self, Bool.not_false, List.append_nil, Bool.and_self]); rfl) (by (try simp only [givesF, setF, updF, Fam.zeroth, Fam.rk, Ck.rk, C.rk, E.rk, T.rk, key, List.map_cons, List.map_nil, List.cons_append, List.nil_append, List.length_cons, List.length_nil, Option.map_some, Option.bind_some, Nat.reduceAdd, Nat.zero_add, Nat.add_zero, Nat.add_sub_cancel_left, Int.toNat_natCast, reps, List.all_cons, List.all_nil, C.flat, List.append_eq, Bool.not_true, Bool.and_true, Bool.or_false, Bool.or_self, Bool.not_false, List.append_nil, Bool.and_self]); rfl) ?_
    repeat' (first
      | ((fail_if_success (with_reducible first | apply LoopK.mk | apply CallK.mk | apply FinK.mk)); first
        | ((with_reducible refine And.intro (fun (hb : _ = true) => ?_) (fun (hb : _ = false) => ?_)) <;> (try simp only [decide_eq_true_eq, decide_eq_false_iff_not, Bool.not_eq_true', Bool.not_eq_false', Bool.and_eq_true, Bool.and_eq_false_iff, Bool.or_eq_true, Bool.or_eq_false_iff, Bool.and_true, Int.not_lt, Int.not_le, not_true_eq_false, or_self, true_and, Bool.true_eq_false, Bool.false_eq_true, reduceCtorEq, not_false_eq_true, decide_true, decide_false, Int.toNat_natCast, Nat.zero_add] at hb) <;> (try (first | (exfalso; omega) | exact (Bool.false_ne_true (Eq.trans (Eq.symm hb) (by assumption))).elim | exact (Bool.false_ne_true (Eq.trans (Eq.symm (by assumption)) hb)).elim)))
        | (with_reducible refine Both.mk ?_ ?_)
        | ((with_reducible refine And.intro ?_ ?_); (focus (first | rfl | omega | (split <;> omega) | (refine ⟨?_, ?_, ?_⟩ <;> first | rfl | omega | (split <;> omega)) | assumption | (refine ⟨?_, ?_⟩ <;> omega) | (refine ⟨?_, ?_, ?_⟩ <;> omega) | (refine ⟨?_, ?_, ?_, ?_⟩ <;> omega) | (dsimp only [maxLen]; refine ⟨?_, ?_⟩ <;> omega) | (refine ⟨rfl, ?_⟩ <;> omega) | exact ⟨rfl, rfl⟩ | exact ⟨rfl, rfl, by omega⟩)))
        | ((with_reducible refine Or.inl (And.intro ?_ (And.intro ?_ ?_))); (focus (rfl)); (focus (refine ⟨?_, ?_, ?_, ?_⟩ <;> first | rfl | omega)))
        | ((with_reducible refine Or.inr (Or.inl (And.intro ?_ ?_))); (focus (refine ⟨?_, ?_, ?_⟩ <;> first | rfl | omega)))
        | ((with_reducible refine Or.inr (Or.inr (Or.inl (And.intro ?_ ?_)))); (focus (refine ⟨?_, ?_, ?_, ?_, ?_⟩ <;> first | rfl | omega)))
        | ((with_reducible refine Or.inr (Or.inr (Or.inr (And.intro ?_ ?_)))); (focus (refine ⟨?_, ?_, ?_, ?_, ?_, ?_, ?_⟩ <;> first | rfl | omega)))
        | (with_reducible intro hc; (try simp only [capsP, and_true] at hc); (try (exfalso; omega)))
        | ((fail_if_success (with_reducible first | refine And.intro ?_ ?_ | refine Or.inl ?_ | intro _)); (conv => whnf); (fail_if_success (fail_if_success (with_reducible first | apply LoopK.mk | apply CallK.mk | apply FinK.mk | refine Both.mk ?_ ?_ | refine And.intro ?_ ?_ | refine Or.inl ?_ | intro _))))))
    refine CallK.mk2 (σ := [.whole 10, .whole 11]) (nl := []) (rsameT c4 1 true true [sb] (by simp)) rfl rfl (by (try simp only [givesF, setF, updF, Fam.zeroth, Fam.rk, Ck.rk, C.rk, E.rk, T.rk, key, List.map_cons, List.map_nil, List.cons_append, List.nil_append, List.length_cons, List.length_nil, Option.map_some, Option.bind_some, Nat.reduceAdd, Nat.zero_add, Nat.add_zero, Nat.add_sub_cancel_left, Int.toNat_natCast, reps, List.all_cons, List.all_nil, C.flat, List.append_eq, Bool.not_true, Bool.and_true, Bool.or_false, Bool.or_self, Bool.not_false, List.append_nil, Bool.and_self]); rfl) (by (repeat' (first | (refine And.intro ?_ ?_) | exact trivial | rfl | exact Nat.le_refl _ | exact (fun _ _ => rfl) | exact all_one (by rfl) | (simp only [Int.toNat_natCast, Nat.zero_add, Nat.add_zero]; done)))) ?_
    rintro v h' ⟨rfl, rfl⟩ hcaps
    refine ret_mk (by (try simp only [givesF, setF, updF, Fam.zeroth, Fam.rk, Ck.rk, C.rk, E.rk, T.rk, key, List.map_cons, List.map_nil, List.cons_append, List.nil_append, List.length_cons, List.length_nil, Option.map_some, Option.bind_some, Nat.reduceAdd, Nat.zero_add, Nat.add_zero, Nat.add_sub_cancel_left, Int.toNat_natCast, reps, List.all_cons, List.all_nil, C.flat, List.append_eq, Bool.not_true, Bool.and_true, Bool.or_false, Bool.or_self, Bool.not_false, List.append_nil, Bool.and_self]); rfl) (by (try simp only [givesF, setF, updF, Fam.zeroth, Fam.rk, Ck.rk, C.rk, E.rk, T.rk, key, List.map_cons, List.map_nil, List.cons_append, List.nil_append, List.length_cons, List.length_nil, Option.map_some, Option.bind_some, Nat.reduceAdd, Nat.zero_add, Nat.add_zero, Nat.add_sub_cancel_left, Int.toNat_natCast, reps, List.all_cons, List.all_nil, C.flat, List.append_eq, Bool.not_true, Bool.and_true, Bool.or_false, Bool.or_self, Bool.not_false, List.append_nil, Bool.and_self]); rfl) ?_
    repeat' (first
      | ((fail_if_success (with_reducible first | apply LoopK.mk | apply CallK.mk | apply FinK.mk)); first
        | ((with_reducible refine And.intro (fun (hb : _ = true) => ?_) (fun (hb : _ = false) => ?_)) <;> (try simp only [decide_eq_true_eq, decide_eq_false_iff_not, Bool.not_eq_true', Bool.not_eq_false', Bool.and_eq_true, Bool.and_eq_false_iff, Bool.or_eq_true, Bool.or_eq_false_iff, Bool.and_true, Int.not_lt, Int.not_le, not_true_eq_false, or_self, true_and, Bool.true_eq_false, Bool.false_eq_true, reduceCtorEq, not_false_eq_true, decide_true, decide_false, Int.toNat_natCast, Nat.zero_add] at hb) <;> (try (first | (exfalso; omega) | exact (Bool.false_ne_true (Eq.trans (Eq.symm hb) (by assumption))).elim | exact (Bool.false_ne_true (Eq.trans (Eq.symm (by assumption)) hb)).elim)))
        | (with_reducible refine Both.mk ?_ ?_)
        | ((with_reducible refine And.intro ?_ ?_); (focus (first | rfl | omega | (split <;> omega) | (refine ⟨?_, ?_, ?_⟩ <;> first | rfl | omega | (split <;> omega)) | assumption | (refine ⟨?_, ?_⟩ <;> omega) | (refine ⟨?_, ?_, ?_⟩ <;> omega) | (refine ⟨?_, ?_, ?_, ?_⟩ <;> omega) | (dsimp only [maxLen]; refine ⟨?_, ?_⟩ <;> omega) | (refine ⟨rfl, ?_⟩ <;> omega) | exact ⟨rfl, rfl⟩ | exact ⟨rfl, rfl, by omega⟩)))
        | ((with_reducible refine Or.inl (And.intro ?_ (And.intro ?_ ?_))); (focus (rfl)); (focus (refine ⟨?_, ?_, ?_, ?_⟩ <;> first | rfl | omega)))
        | ((with_reducible refine Or.inr (Or.inl (And.intro ?_ ?_))); (focus (refine ⟨?_, ?_, ?_⟩ <;> first | rfl | omega)))
        | ((with_reducible refine Or.inr (Or.inr (Or.inl (And.intro ?_ ?_)))); (focus (refine ⟨?_, ?_, ?_, ?_, ?_⟩ <;> first | rfl | omega)))
        | ((with_reducible refine Or.inr (Or.inr (Or.inr (And.intro ?_ ?_)))); (focus (refine ⟨?_, ?_, ?_, ?_, ?_, ?_, ?_⟩ <;> first | rfl | omega)))
        | (with_reducible intro hc; (try simp only [capsP, and_true] at hc); (try (exfalso; omega)))
        | ((fail_if_success (with_reducible first | refine And.intro ?_ ?_ | refine Or.inl ?_ | intro _)); (conv => whnf); (fail_if_success (fail_if_success (with_reducible first | apply LoopK.mk | apply CallK.mk | apply FinK.mk | refine Both.mk ?_ ?_ | refine And.intro ?_ ?_ | refine Or.inl ?_ | intro _))))))
    all_goals (
      refine FinK.mk ⟨[], _, _, ⟨rfl, rfl⟩, ?_⟩
      (repeat' (first | (refine And.intro ?_ ?_) | exact trivial | rfl | exact Nat.le_refl _ | exact (fun _ _ => rfl) | exact all_one (by rfl) | (simp only [Int.toNat_natCast, Nat.zero_add, Nat.add_zero]; done))))
  · refine CallK.mk2 (σ := [.whole 0, .whole 8]) (nl := []) (ilist q1 [sb] c3 (by simp)) rfl rfl (by (try simp only [givesF, setF, updF, Fam.zeroth, Fam.rk, Ck.rk, C.rk, E.rk, T.rk, key, List.map_cons, List.map_nil, List.cons_append, List.nil_append, List.length_cons, List.length_nil, Option.map_some, Option.bind_some, Nat.reduceAdd, Nat.zero_add, Nat.add_zero, Nat.add_sub_cancel_left, Int.toNat_natCast, reps, List.all_cons, List.all_nil, C.flat, List.append_eq, Bool.not_true, Bool.and_true, Bool.or_false, Bool.or_self, Bool.not_false, List.append_nil, Bool.and_self]); rfl) (by (repeat' (first | (refine And.intro ?_ ?_) | exact trivial | rfl | exact Nat.le_refl _ | exact (fun _ _ => rfl) | exact all_one (by rfl) | (simp only [Int.toNat_natCast, Nat.zero_add, Nat.add_zero]; done)))) ?_
    rintro v h' ⟨c4, rfl, rfl⟩ hcaps
    refine ret_mk (by (try simp only [givesF, setF, updF, Fam.zeroth, Fam.rk, Ck.rk, C.rk, E.rk, T.rk, key, List.map_cons, List.map_nil, List.cons_append, List.nil_append, List.length_cons, List.length_nil, Option.map_some, Option.bind_some, Nat.reduceAdd, Nat.zero_add, Nat.add_zero, Nat.add_sub_cancel_left, Int.toNat_natCast, reps, List.all_cons, List.all_nil, C.flat, List.append_eq, Bool.not_true, Bool.and_true, Bool.or_false, Bool.or_self, Bool.not_false, List.append_nil, Bool.and_self]); rfl) (by (try simp only [givesF, setF, updF, Fam.zeroth, Fam.rk, Ck.rk, C.rk, E.rk, T.rk, key, List.map_cons, List.map_nil, List.cons_append, List.nil_append, List.length_cons, List.length_nil, Option.map_some, Option.bind_some, Nat.reduceAdd, Nat.zero_add, Nat.add_zero, Nat.add_sub_cancel_left, Int.toNat_natCast, reps, List.all_cons, List.all_nil, C.flat, List.append_eq, Bool.not_true, Bool.and_true, Bool.or_false, Bool.or_self, Bool.not_false, List.append_nil, Bool.and_self]); rfl) ?_
    repeat' (first
      | ((fail_if_success (with_reducible first | apply LoopK.mk | apply CallK.mk | apply FinK.mk)); first
        | ((with_reducible refine And.intro (fun (hb : _ = true) => ?_) (fun (hb : _ = false) => ?_)) <;> (try simp only [decide_eq_true_eq, decide_eq_false_iff_not, Bool.not_eq_true', Bool.not_eq_false', Bool.and_eq_true, Bool.and_eq_false_iff, Bool.or_eq_true, Bool.or_eq_false_iff, Bool.and_true, Int.not_lt, Int.not_le, not_true_eq_false, or_self, true_and, Bool.true_eq_false, Bool.false_eq_true, reduceCtorEq, not_false_eq_true, decide_true, decide_false, Int.toNat_natCast, Nat.zero_add] at hb) <;> (try (first | (exfalso; omega) | exact (Bool.false_ne_true (Eq.trans (Eq.symm hb) (by assumption))).elim | exact (Bool.false_ne_true (Eq.trans (Eq.symm (by assumption)) hb)).elim)))
        | (with_reducible refine Both.mk ?_ ?_)
        | ((with_reducible refine And.intro ?_ ?_); (focus (first | rfl | omega | (split <;> omega) | (refine ⟨?_, ?_, ?_⟩ <;> first | rfl | omega | (split <;> omega)) | assumption | (refine ⟨?_, ?_⟩ <;> omega) | (refine ⟨?_, ?_, ?_⟩ <;> omega) | (refine ⟨?_, ?_, ?_, ?_⟩ <;> omega) | (dsimp only [maxLen]; refine ⟨?_, ?_⟩ <;> omega) | (refine ⟨rfl, ?_⟩ <;> omega) | exact ⟨rfl, rfl⟩ | exact ⟨rfl, rfl, by omega⟩)))
        | ((with_reducible refine Or.inl (And.intro ?_ (And.intro ?_ ?_))); (focus (rfl)); (focus (refine ⟨?_, ?_, ?_, ?_⟩ <;> first | rfl | omega)))
        | ((with_reducible refine Or.inr (Or.inl (And.intro ?_ ?_))); (focus (refine ⟨?_, ?_, ?_⟩ <;> first | rfl | omega)))
        | ((with_reducible refine Or.inr (Or.inr (Or.inl (And.intro ?_ ?_)))); (focus (refine ⟨?_, ?_, ?_, ?_, ?_⟩ <;> first | rfl | omega)))
        | ((with_reducible refine Or.inr (Or.inr (Or.inr (And.intro ?_ ?_)))); (focus (refine ⟨?_, ?_, ?_, ?_, ?_, ?_, ?_⟩ <;> first | rfl | omega)))
        | (with_reducible intro hc; (try simp only [capsP, and_true] at hc); (try (exfalso; omega)))
        | ((fail_if_success (with_reducible first | refine And.intro ?_ ?_ | refine Or.inl ?_ | intro _)); (conv => whnf); (fail_if_success (fail_if_success (with_reducible first | apply LoopK.mk | apply CallK.mk | apply FinK.mk | refine Both.mk ?_ ?_ | refine And.intro ?_ ?_ | refine Or.inl ?_ | intro _))))))
    refine CallK.mk2 (σ := [.whole 11, .whole 10]) (nl := []) (rsameT c4 1 true true [sb] (by simp)) rfl rfl (by (try simp only [givesF, setF, updF, Fam.zeroth, Fam.rk, Ck.rk, C.rk, E.rk, T.rk, key, List.map_cons, List.map_nil, List.cons_append, List.nil_append, List.length_cons, List.length_nil, Option.map_some, Option.bind_some, Nat.reduceAdd, Nat.zero_add, Nat.add_zero, Nat.add_sub_cancel_left, Int.toNat_natCast, reps, List.all_cons, List.all_nil, C.flat, List.append_eq, Bool.not_true, Bool.and_true, Bool.or_false, Bool.or_self, Bool.not_false, List.append_nil, Bool.and_self]); rfl) (by (repeat' (first | (refine And.intro ?_ ?_) | exact trivial | rfl | exact Nat.le_refl _ | exact (fun _ _ => rfl) | exact all_one (by rfl) | (simp only [Int.toNat_natCast, Nat.zero_add, Nat.add_zero]; done)))) ?_
    rintro v h' ⟨rfl, rfl⟩ hcaps
    refine ret_mk (by (try simp only [givesF, setF, updF, Fam.zeroth, Fam.rk, Ck.rk, C.rk, E.rk, T.rk, key, List.map_cons, List.map_nil, List.cons_append, List.nil_append, List.length_cons, List.length_nil, Option.map_some, Option.bind_some, Nat.reduceAdd, Nat.zero_add, Nat.add_zero, Nat.add_sub_cancel_left, Int.toNat_natCast, reps, List.all_cons, List.all_nil, C.flat, List.append_eq, Bool.not_true, Bool.and_true, Bool.or_false, Bool.or_self, Bool.not_false, List.append_nil, Bool.and_self]); rfl) (by (try simp only [givesF, setF, updF, Fam.zeroth, Fam.rk, Ck.rk, C.rk, E.rk, T.rk, key, List.map_cons, List.map_nil, List.cons_append, List.nil_append, List.length_cons, List.length_nil, Option.map_some, Option.bind_some, Nat.reduceAdd, Nat.zero_add, Nat.add_zero, Nat.add_sub_cancel_left, Int.toNat_natCast, reps, List.all_cons, List.all_nil, C.flat, List.append_eq, Bool.not_true, Bool.and_true, Bool.or_false, Bool.or_self, Bool.not_false, List.append_nil, Bool.and_self]); rfl) ?_
    repeat' (first
      | ((fail_if_success (with_reducible first | apply LoopK.mk | apply CallK.mk | apply FinK.mk)); first
        | ((with_reducible refine And.intro (fun (hb : _ = true) => ?_) (fun (hb : _ = false) => ?_)) <;> (try simp only [decide_eq_true_eq, decide_eq_false_iff_not, Bool.not_eq_true', Bool.not_eq_false', Bool.and_eq_true, Bool.and_eq_false_iff, Bool.or_eq_true, Bool.or_eq_false_iff, Bool.and_true, Int.not_lt, Int.not_le, not_true_eq_false, or_self, true_and, Bool.true_eq_false, Bool.false_eq_true, reduceCtorEq, not_false_eq_true, decide_true, decide_false, Int.toNat_natCast, Nat.zero_add] at hb) <;> (try (first | (exfalso; omega) | exact (Bool.false_ne_true (Eq.trans (Eq.symm hb) (by assumption))).elim | exact (Bool.false_ne_true (Eq.trans (Eq.symm (by assumption)) hb)).elim)))
        | (with_reducible refine Both.mk ?_ ?_)
        | ((with_reducible refine And.intro ?_ ?_); (focus (first | rfl | omega | (split <;> omega) | (refine ⟨?_, ?_, ?_⟩ <;> first | rfl | omega | (split <;> omega)) | assumption | (refine ⟨?_, ?_⟩ <;> omega) | (refine ⟨?_, ?_, ?_⟩ <;> omega) | (refine ⟨?_, ?_, ?_, ?_⟩ <;> omega) | (dsimp only [maxLen]; refine ⟨?_, ?_⟩ <;> omega) | (refine ⟨rfl, ?_⟩ <;> omega) | exact ⟨rfl, rfl⟩ | exact ⟨rfl, rfl, by omega⟩)))
        | ((with_reducible refine Or.inl (And.intro ?_ (And.intro ?_ ?_))); (focus (rfl)); (focus (refine ⟨?_, ?_, ?_, ?_⟩ <;> first | rfl | omega)))
        | ((with_reducible refine Or.inr (Or.inl (And.intro ?_ ?_))); (focus (refine ⟨?_, ?_, ?_⟩ <;> first | rfl | omega)))
        | ((with_reducible refine Or.inr (Or.inr (Or.inl (And.intro ?_ ?_)))); (focus (refine ⟨?_, ?_, ?_, ?_, ?_⟩ <;> first | rfl | omega)))
        | ((with_reducible refine Or.inr (Or.inr (Or.inr (And.intro ?_ ?_)))); (focus (refine ⟨?_, ?_, ?_, ?_, ?_, ?_, ?_⟩ <;> first | rfl | omega)))
        | (with_reducible intro hc; (try simp only [capsP, and_true] at hc); (try (exfalso; omega)))
        | ((fail_if_success (with_reducible first | refine And.intro ?_ ?_ | refine Or.inl ?_ | intro _)); (conv => whnf); (fail_if_success (fail_if_success (with_reducible first | apply LoopK.mk | apply CallK.mk | apply FinK.mk | refine Both.mk ?_ ?_ | refine And.intro ?_ ?_ | refine Or.inl ?_ | intro _))))))
    all_goals (
      refine FinK.mk ⟨[], _, _, ⟨rfl, rfl⟩, ?_⟩
      (repeat' (first | (refine And.intro ?_ ?_) | exact trivial | rfl | exact Nat.le_refl _ | exact (fun _ _ => rfl) | exact all_one (by rfl) | (simp only [Int.toNat_natCast, Nat.zero_add, Nat.add_zero]; done))))
end Go.Proofs.Ytohghplabennjaa

namespace Go.Proofs.Ytohghplabennjaa
open Go.X
set_option linter.unusedSimpArgs false
set_option linter.unusedVariables false

abbrev opsRow (l : List OpV) (c : Nat) : Ck := .row false false 43 6 l.length c (rowOf encO l)

set_option maxRecDepth 10000 in
set_option maxHeartbeats 2000000 in
theorem cplays (q : Qos) (ops : List OpV) (c : Nat) (hn : ∀ k, k < ops.length → In64 (ops.getD k default).n) (hm : ops.length ≤ 9223372036854775807) :
    Ctr Try.prog 6 [.a (encQ q), .c (.sl 0 0 6 0 ops.length c)] [.one (opsRow ops c)] fun v _ => v = .c .tt := by
  refine Ctr.mk' tbv mixed Try.func6 rfl rfl rfl (fun _ _ => by kernel_rfl) (by kernel_rfl) (by rfl) (by rfl) (by exact trivial) ?_
  repeat' (first
    | ((fail_if_success (with_reducible first | apply LoopK.mk | apply CallK.mk | apply FinK.mk)); first
      | ((with_reducible refine And.intro (fun (hb : _ = true) => ?_) (fun (hb : _ = false) => ?_)) <;> (try simp only [decide_eq_true_eq, decide_eq_false_iff_not, Bool.not_eq_true', Bool.not_eq_false', Bool.and_eq_true, Bool.and_eq_false_iff, Bool.or_eq_true, Bool.or_eq_false_iff, Bool.and_true, Int.not_lt, Int.not_le, not_true_eq_false, or_self, true_and, Bool.true_eq_false, Bool.false_eq_true, reduceCtorEq, not_false_eq_true, decide_true, decide_false, Int.toNat_natCast, Nat.zero_add] at hb) <;> (try (first | (exfalso; omega) | exact (Bool.false_ne_true (Eq.trans (Eq.symm hb) (by assumption))).elim | exact (Bool.false_ne_true (Eq.trans (Eq.symm (by assumption)) hb)).elim)))
      | (with_reducible refine Both.mk ?_ ?_)
      | ((with_reducible refine And.intro ?_ ?_); (focus (first | rfl | omega | (split <;> omega) | (refine ⟨?_, ?_, ?_⟩ <;> first | rfl | omega | (split <;> omega)) | assumption | (refine ⟨?_, ?_⟩ <;> omega) | (refine ⟨?_, ?_, ?_⟩ <;> omega) | (refine ⟨?_, ?_, ?_, ?_⟩ <;> omega) | (dsimp only [maxLen]; refine ⟨?_, ?_⟩ <;> omega) | (refine ⟨rfl, ?_⟩ <;> omega) | exact ⟨rfl, rfl⟩ | exact ⟨rfl, rfl, by omega⟩)))
      | ((with_reducible refine Or.inl (And.intro ?_ (And.intro ?_ ?_))); (focus (rfl)); (focus (refine ⟨?_, ?_, ?_, ?_⟩ <;> first | rfl | omega)))
      | ((with_reducible refine Or.inr (Or.inl (And.intro ?_ ?_))); (focus (refine ⟨?_, ?_, ?_⟩ <;> first | rfl | omega)))
      | ((with_reducible refine Or.inr (Or.inr (Or.inl (And.intro ?_ ?_)))); (focus (refine ⟨?_, ?_, ?_, ?_, ?_⟩ <;> first | rfl | omega)))
      | ((with_reducible refine Or.inr (Or.inr (Or.inr (And.intro ?_ ?_)))); (focus (refine ⟨?_, ?_, ?_, ?_, ?_, ?_, ?_⟩ <;> first | rfl | omega)))
      | (with_reducible intro hc; (try simp only [capsP, and_true] at hc); (try (exfalso; omega)))
      | ((fail_if_success (with_reducible first | refine And.intro ?_ ?_ | refine Or.inl ?_ | intro _)); (conv => whnf); (fail_if_success (fail_if_success (with_reducible first | apply LoopK.mk | apply CallK.mk | apply FinK.mk | refine Both.mk ?_ ?_ | refine And.intro ?_ ?_ | refine Or.inl ?_ | intro _))))))
  by_cases hq : okQ q
  · refine CallK.mk2 (σ := []) (nl := []) (inew_ok q hq) rfl rfl (by (try simp only [givesF, setF, updF, Fam.zeroth, Fam.rk, Ck.rk, C.rk, E.rk, T.rk, key, List.map_cons, List.map_nil, List.cons_append, List.nil_append, List.length_cons, List.length_nil, Option.map_some, Option.bind_some, Nat.reduceAdd, Nat.zero_add, Nat.add_zero, Nat.add_sub_cancel_left, Int.toNat_natCast, reps, List.all_cons, List.all_nil, C.flat, List.append_eq, Bool.not_true, Bool.and_true, Bool.or_false, Bool.or_self, Bool.not_false, List.append_nil, Bool.and_self]); rfl) (by (repeat' (first | (refine And.intro ?_ ?_) | exact trivial | rfl | exact Nat.le_refl _ | exact (fun _ _ => rfl) | exact all_one (by rfl) | (simp only [Int.toNat_natCast, Nat.zero_add, Nat.add_zero]; done)))) ?_
    rintro v h' ⟨rfl, rfl⟩ hcaps
    refine ret_mk (by (try simp only [givesF, setF, updF, Fam.zeroth, Fam.rk, Ck.rk, C.rk, E.rk, T.rk, key, List.map_cons, List.map_nil, List.cons_append, List.nil_append, List.length_cons, List.length_nil, Option.map_some, Option.bind_some, Nat.reduceAdd, Nat.zero_add, Nat.add_zero, Nat.add_sub_cancel_left, Int.toNat_natCast, reps, List.all_cons, List.all_nil, C.flat, List.append_eq, Bool.not_true, Bool.and_true, Bool.or_false, Bool.or_self, Bool.not_false, List.append_nil, Bool.and_self]); rfl) (by (try simp only [givesF, setF, updF, Fam.zeroth, Fam.rk, Ck.rk, C.rk, E.rk, T.rk, key, List.map_cons, List.map_nil, List.cons_append, List.nil_append, List.length_cons, List.length_nil, Option.map_some, Option.bind_some, Nat.reduceAdd, Nat.zero_add, Nat.add_zero, Nat.add_sub_cancel_left, Int.toNat_natCast, reps, List.all_cons, List.all_nil, C.flat, List.append_eq, Bool.not_true, Bool.and_true, Bool.or_false, Bool.or_self, Bool.not_false, List.append_nil, Bool.and_self]); rfl) ?_
    repeat' (first
      | ((fail_if_success (with_reducible first | apply LoopK.mk | apply CallK.mk | apply FinK.mk)); first
        | ((with_reducible refine And.intro (fun (hb : _ = true) => ?_) (fun (hb : _ = false) => ?_)) <;> (try simp only [decide_eq_true_eq, decide_eq_false_iff_not, Bool.not_eq_true', Bool.not_eq_false', Bool.and_eq_true, Bool.and_eq_false_iff, Bool.or_eq_true, Bool.or_eq_false_iff, Bool.and_true, Int.not_lt, Int.not_le, not_true_eq_false, or_self, true_and, Bool.true_eq_false, Bool.false_eq_true, reduceCtorEq, not_false_eq_true, decide_true, decide_false, Int.toNat_natCast, Nat.zero_add] at hb) <;> (try (first | (exfalso; omega) | exact (Bool.false_ne_true (Eq.trans (Eq.symm hb) (by assumption))).elim | exact (Bool.false_ne_true (Eq.trans (Eq.symm (by assumption)) hb)).elim)))
        | (with_reducible refine Both.mk ?_ ?_)
        | ((with_reducible refine And.intro ?_ ?_); (focus (first | rfl | omega | (split <;> omega) | (refine ⟨?_, ?_, ?_⟩ <;> first | rfl | omega | (split <;> omega)) | assumption | (refine ⟨?_, ?_⟩ <;> omega) | (refine ⟨?_, ?_, ?_⟩ <;> omega) | (refine ⟨?_, ?_, ?_, ?_⟩ <;> omega) | (dsimp only [maxLen]; refine ⟨?_, ?_⟩ <;> omega) | (refine ⟨rfl, ?_⟩ <;> omega) | exact ⟨rfl, rfl⟩ | exact ⟨rfl, rfl, by omega⟩)))
        | ((with_reducible refine Or.inl (And.intro ?_ (And.intro ?_ ?_))); (focus (rfl)); (focus (refine ⟨?_, ?_, ?_, ?_⟩ <;> first | rfl | omega)))
        | ((with_reducible refine Or.inr (Or.inl (And.intro ?_ ?_))); (focus (refine ⟨?_, ?_, ?_⟩ <;> first | rfl | omega)))
        | ((with_reducible refine Or.inr (Or.inr (Or.inl (And.intro ?_ ?_)))); (focus (refine ⟨?_, ?_, ?_, ?_, ?_⟩ <;> first | rfl | omega)))
        | ((with_reducible refine Or.inr (Or.inr (Or.inr (And.intro ?_ ?_)))); (focus (refine ⟨?_, ?_, ?_, ?_, ?_, ?_, ?_⟩ <;> first | rfl | omega)))
        | (with_reducible intro hc; (try simp only [capsP, and_true] at hc); (try (exfalso; omega)))
        | ((fail_if_success (with_reducible first | refine And.intro ?_ ?_ | refine Or.inl ?_ | intro _)); (conv => whnf); (fail_if_success (fail_if_success (with_reducible first | apply LoopK.mk | apply CallK.mk | apply FinK.mk | refine Both.mk ?_ ?_ | refine And.intro ?_ ?_ | refine Or.inl ?_ | intro _))))))
    refine CallK.mk2 (σ := []) (nl := []) (rnew_ok q hq) rfl rfl (by (try simp only [givesF, setF, updF, Fam.zeroth, Fam.rk, Ck.rk, C.rk, E.rk, T.rk, key, List.map_cons, List.map_nil, List.cons_append, List.nil_append, List.length_cons, List.length_nil, Option.map_some, Option.bind_some, Nat.reduceAdd, Nat.zero_add, Nat.add_zero, Nat.add_sub_cancel_left, Int.toNat_natCast, reps, List.all_cons, List.all_nil, C.flat, List.append_eq, Bool.not_true, Bool.and_true, Bool.or_false, Bool.or_self, Bool.not_false, List.append_nil, Bool.and_self]); rfl) (by (repeat' (first | (refine And.intro ?_ ?_) | exact trivial | rfl | exact Nat.le_refl _ | exact (fun _ _ => rfl) | exact all_one (by rfl) | (simp only [Int.toNat_natCast, Nat.zero_add, Nat.add_zero]; done)))) ?_
    rintro v h' ⟨rfl, rfl⟩ hcaps
    refine ret_mk (by (try simp only [givesF, setF, updF, Fam.zeroth, Fam.rk, Ck.rk, C.rk, E.rk, T.rk, key, List.map_cons, List.map_nil, List.cons_append, List.nil_append, List.length_cons, List.length_nil, Option.map_some, Option.bind_some, Nat.reduceAdd, Nat.zero_add, Nat.add_zero, Nat.add_sub_cancel_left, Int.toNat_natCast, reps, List.all_cons, List.all_nil, C.flat, List.append_eq, Bool.not_true, Bool.and_true, Bool.or_false, Bool.or_self, Bool.not_false, List.append_nil, Bool.and_self]); rfl) (by (try simp only [givesF, setF, updF, Fam.zeroth, Fam.rk, Ck.rk, C.rk, E.rk, T.rk, key, List.map_cons, List.map_nil, List.cons_append, List.nil_append, List.length_cons, List.length_nil, Option.map_some, Option.bind_some, Nat.reduceAdd, Nat.zero_add, Nat.add_zero, Nat.add_sub_cancel_left, Int.toNat_natCast, reps, List.all_cons, List.all_nil, C.flat, List.append_eq, Bool.not_true, Bool.and_true, Bool.or_false, Bool.or_self, Bool.not_false, List.append_nil, Bool.and_self]); rfl) ?_
    repeat' (first
      | ((fail_if_success (with_reducible first | apply LoopK.mk | apply CallK.mk | apply FinK.mk)); first
        | ((with_reducible refine And.intro (fun (hb : _ = true) => ?_) (fun (hb : _ = false) => ?_)) <;> (try simp only [decide_eq_true_eq, decide_eq_false_iff_not, Bool.not_eq_true', Bool.not_eq_false', Bool.and_eq_true, Bool.and_eq_false_iff, Bool.or_eq_true, Bool.or_eq_false_iff, Bool.and_true, Int.not_lt, Int.not_le, not_true_eq_false, or_self, true_and, Bool.true_eq_false, Bool.false_eq_true, reduceCtorEq, not_false_eq_true, decide_true, decide_false, Int.toNat_natCast, Nat.zero_add] at hb) <;> (try (first | (exfalso; omega) | exact (Bool.false_ne_true (Eq.trans (Eq.symm hb) (by assumption))).elim | exact (Bool.false_ne_true (Eq.trans (Eq.symm (by assumption)) hb)).elim)))
        | (with_reducible refine Both.mk ?_ ?_)
        | ((with_reducible refine And.intro ?_ ?_); (focus (first | rfl | omega | (split <;> omega) | (refine ⟨?_, ?_, ?_⟩ <;> first | rfl | omega | (split <;> omega)) | assumption | (refine ⟨?_, ?_⟩ <;> omega) | (refine ⟨?_, ?_, ?_⟩ <;> omega) | (refine ⟨?_, ?_, ?_, ?_⟩ <;> omega) | (dsimp only [maxLen]; refine ⟨?_, ?_⟩ <;> omega) | (refine ⟨rfl, ?_⟩ <;> omega) | exact ⟨rfl, rfl⟩ | exact ⟨rfl, rfl, by omega⟩)))
        | ((with_reducible refine Or.inl (And.intro ?_ (And.intro ?_ ?_))); (focus (rfl)); (focus (refine ⟨?_, ?_, ?_, ?_⟩ <;> first | rfl | omega)))
        | ((with_reducible refine Or.inr (Or.inl (And.intro ?_ ?_))); (focus (refine ⟨?_, ?_, ?_⟩ <;> first | rfl | omega)))
        | ((with_reducible refine Or.inr (Or.inr (Or.inl (And.intro ?_ ?_)))); (focus (refine ⟨?_, ?_, ?_, ?_, ?_⟩ <;> first | rfl | omega)))
        | ((with_reducible refine Or.inr (Or.inr (Or.inr (And.intro ?_ ?_)))); (focus (refine ⟨?_, ?_, ?_, ?_, ?_, ?_, ?_⟩ <;> first | rfl | omega)))
        | (with_reducible intro hc; (try simp only [capsP, and_true] at hc); (try (exfalso; omega)))
        | ((fail_if_success (with_reducible first | refine And.intro ?_ ?_ | refine Or.inl ?_ | intro _)); (conv => whnf); (fail_if_success (fail_if_success (with_reducible first | apply LoopK.mk | apply CallK.mk | apply FinK.mk | refine Both.mk ?_ ?_ | refine And.intro ?_ ?_ | refine Or.inl ?_ | intro _))))))
    refine LoopK.mk' {p : Nat × List Smp × Nat × Nat // p.1 ≤ ops.length ∧ p.1 ≤ 400 ∧ Inv p.2.1}
      (fun ⟨(k, l, ci, cr), _⟩ => ⟨[(1, .c (.sl 0 0 6 0 ops.length c)), (5, .c (.p 1 0 0)), (7, .c (.p 2 0 0)), (9, .c (.i .i64 k))], [.one (opsRow ops c), .one (hist 3 q l.length ci), .one (hist 4 q l.length cr), .one (smps true l ci), .one (smps true l cr)]⟩) (fun k => 400 - k.1.1)
      ⟨⟨(0, [], 0, 0), Nat.zero_le _, Nat.zero_le _, Inv.nil⟩, [0, 2, 4, 3, 5], ?_⟩ ?_
    · (repeat' (first | (refine And.intro ?_ ?_) | exact trivial | rfl | exact Nat.le_refl _ | exact (fun _ _ => rfl) | exact all_one (by rfl) | (simp only [Int.toNat_natCast, Nat.zero_add, Nat.add_zero]; done)))
    rintro ⟨⟨k, l, ci, cr⟩, hk, hk4, hi⟩
    simp only at hk hk4 hi
    have hl : l.length ≤ 1000000 := Nat.le_trans hi.len (by omega)
    repeat' (first
      | ((fail_if_success (with_reducible first | apply LoopK.mk | apply CallK.mk | apply FinK.mk)); first
        | ((with_reducible refine And.intro (fun (hb : _ = true) => ?_) (fun (hb : _ = false) => ?_)) <;> (try simp only [decide_eq_true_eq, decide_eq_false_iff_not, Bool.not_eq_true', Bool.not_eq_false', Bool.and_eq_true, Bool.and_eq_false_iff, Bool.or_eq_true, Bool.or_eq_false_iff, Bool.and_true, Int.not_lt, Int.not_le, not_true_eq_false, or_self, true_and, Bool.true_eq_false, Bool.false_eq_true, reduceCtorEq, not_false_eq_true, decide_true, decide_false, Int.toNat_natCast, Nat.zero_add] at hb) <;> (try (first | (exfalso; omega) | exact (Bool.false_ne_true (Eq.trans (Eq.symm hb) (by assumption))).elim | exact (Bool.false_ne_true (Eq.trans (Eq.symm (by assumption)) hb)).elim)))
        | (with_reducible refine Both.mk ?_ ?_)
        | ((with_reducible refine And.intro ?_ ?_); (focus (first | rfl | omega | (split <;> omega) | (refine ⟨?_, ?_, ?_⟩ <;> first | rfl | omega | (split <;> omega)) | assumption | (refine ⟨?_, ?_⟩ <;> omega) | (refine ⟨?_, ?_, ?_⟩ <;> omega) | (refine ⟨?_, ?_, ?_, ?_⟩ <;> omega) | (dsimp only [maxLen]; refine ⟨?_, ?_⟩ <;> omega) | (refine ⟨rfl, ?_⟩ <;> omega) | exact ⟨rfl, rfl⟩ | exact ⟨rfl, rfl, by omega⟩)))
        | ((with_reducible refine Or.inl (And.intro ?_ (And.intro ?_ ?_))); (focus (rfl)); (focus (refine ⟨?_, ?_, ?_, ?_⟩ <;> first | rfl | omega)))
        | ((with_reducible refine Or.inr (Or.inl (And.intro ?_ ?_))); (focus (refine ⟨?_, ?_, ?_⟩ <;> first | rfl | omega)))
        | ((with_reducible refine Or.inr (Or.inr (Or.inl (And.intro ?_ ?_)))); (focus (refine ⟨?_, ?_, ?_, ?_, ?_⟩ <;> first | rfl | omega)))
        | ((with_reducible refine Or.inr (Or.inr (Or.inr (And.intro ?_ ?_)))); (focus (refine ⟨?_, ?_, ?_, ?_, ?_, ?_, ?_⟩ <;> first | rfl | omega)))
        | (with_reducible intro hc; (try simp only [capsP, and_true] at hc); (try (exfalso; omega)))
        | ((fail_if_success (with_reducible first | refine And.intro ?_ ?_ | refine Or.inl ?_ | intro _)); (conv => whnf); (fail_if_success (fail_if_success (with_reducible first | apply LoopK.mk | apply CallK.mk | apply FinK.mk | refine Both.mk ?_ ?_ | refine And.intro ?_ ?_ | refine Or.inl ?_ | intro _))))))
    · refine CallK.mk2 (σ := [.whole 1, .whole 2, .whole 3, .whole 4]) (nl := []) (cstep q l ci cr (ops.getD k default) hq hi (hn k (by omega))) rfl rfl (by (try simp only [givesF, setF, updF, Fam.zeroth, Fam.rk, Ck.rk, C.rk, E.rk, T.rk, key, List.map_cons, List.map_nil, List.cons_append, List.nil_append, List.length_cons, List.length_nil, Option.map_some, Option.bind_some, Nat.reduceAdd, Nat.zero_add, Nat.add_zero, Nat.add_sub_cancel_left, Int.toNat_natCast, reps, List.all_cons, List.all_nil, C.flat, List.append_eq, Bool.not_true, Bool.and_true, Bool.or_false, Bool.or_self, Bool.not_false, List.append_nil, Bool.and_self]); rfl) (by (repeat' (first | (refine And.intro ?_ ?_) | exact trivial | rfl | exact Nat.le_refl _ | exact (fun _ _ => rfl) | exact all_one (by rfl) | (simp only [Int.toNat_natCast, Nat.zero_add, Nat.add_zero]; done)))) ?_
      rintro v h' ⟨rfl, ci', cr', rfl⟩ hcaps
      refine ret_mk (by (try simp only [givesF, setF, updF, Fam.zeroth, Fam.rk, Ck.rk, C.rk, E.rk, T.rk, key, List.map_cons, List.map_nil, List.cons_append, List.nil_append, List.length_cons, List.length_nil, Option.map_some, Option.bind_some, Nat.reduceAdd, Nat.zero_add, Nat.add_zero, Nat.add_sub_cancel_left, Int.toNat_natCast, reps, List.all_cons, List.all_nil, C.flat, List.append_eq, Bool.not_true, Bool.and_true, Bool.or_false, Bool.or_self, Bool.not_false, List.append_nil, Bool.and_self]); rfl) (by (try simp only [givesF, setF, updF, Fam.zeroth, Fam.rk, Ck.rk, C.rk, E.rk, T.rk, key, List.map_cons, List.map_nil, List.cons_append, List.nil_append, List.length_cons, List.length_nil, Option.map_some, Option.bind_some, Nat.reduceAdd, Nat.zero_add, Nat.add_zero, Nat.add_sub_cancel_left, Int.toNat_natCast, reps, List.all_cons, List.all_nil, C.flat, List.append_eq, Bool.not_true, Bool.and_true, Bool.or_false, Bool.or_self, Bool.not_false, List.append_nil, Bool.and_self]); rfl) ?_
      repeat' (first
        | ((fail_if_success (with_reducible first | apply LoopK.mk | apply CallK.mk | apply FinK.mk)); first
          | ((with_reducible refine And.intro (fun (hb : _ = true) => ?_) (fun (hb : _ = false) => ?_)) <;> (try simp only [decide_eq_true_eq, decide_eq_false_iff_not, Bool.not_eq_true', Bool.not_eq_false', Bool.and_eq_true, Bool.and_eq_false_iff, Bool.or_eq_true, Bool.or_eq_false_iff, Bool.and_true, Int.not_lt, Int.not_le, not_true_eq_false, or_self, true_and, Bool.true_eq_false, Bool.false_eq_true, reduceCtorEq, not_false_eq_true, decide_true, decide_false, Int.toNat_natCast, Nat.zero_add] at hb) <;> (try (first | (exfalso; omega) | exact (Bool.false_ne_true (Eq.trans (Eq.symm hb) (by assumption))).elim | exact (Bool.false_ne_true (Eq.trans (Eq.symm (by assumption)) hb)).elim)))
          | (with_reducible refine Both.mk ?_ ?_)
          | ((with_reducible refine And.intro ?_ ?_); (focus (first | rfl | omega | (split <;> omega) | (refine ⟨?_, ?_, ?_⟩ <;> first | rfl | omega | (split <;> omega)) | assumption | (refine ⟨?_, ?_⟩ <;> omega) | (refine ⟨?_, ?_, ?_⟩ <;> omega) | (refine ⟨?_, ?_, ?_, ?_⟩ <;> omega) | (dsimp only [maxLen]; refine ⟨?_, ?_⟩ <;> omega) | (refine ⟨rfl, ?_⟩ <;> omega) | exact ⟨rfl, rfl⟩ | exact ⟨rfl, rfl, by omega⟩)))
          | ((with_reducible refine Or.inl (And.intro ?_ (And.intro ?_ ?_))); (focus (rfl)); (focus (refine ⟨?_, ?_, ?_, ?_⟩ <;> first | rfl | omega)))
          | ((with_reducible refine Or.inr (Or.inl (And.intro ?_ ?_))); (focus (refine ⟨?_, ?_, ?_⟩ <;> first | rfl | omega)))
          | ((with_reducible refine Or.inr (Or.inr (Or.inl (And.intro ?_ ?_)))); (focus (refine ⟨?_, ?_, ?_, ?_, ?_⟩ <;> first | rfl | omega)))
          | ((with_reducible refine Or.inr (Or.inr (Or.inr (And.intro ?_ ?_)))); (focus (refine ⟨?_, ?_, ?_, ?_, ?_, ?_, ?_⟩ <;> first | rfl | omega)))
          | (with_reducible intro hc; (try simp only [capsP, and_true] at hc); (try (exfalso; omega)))
          | ((fail_if_success (with_reducible first | refine And.intro ?_ ?_ | refine Or.inl ?_ | intro _)); (conv => whnf); (fail_if_success (fail_if_success (with_reducible first | apply LoopK.mk | apply CallK.mk | apply FinK.mk | refine Both.mk ?_ ?_ | refine And.intro ?_ ?_ | refine Or.inl ?_ | intro _))))))
      refine CallK.mk2 (σ := [.whole 1, .whole 5]) (nl := []) (ilen q (opL q l (ops.getD k default)) ci') rfl rfl (by (try simp only [givesF, setF, updF, Fam.zeroth, Fam.rk, Ck.rk, C.rk, E.rk, T.rk, key, List.map_cons, List.map_nil, List.cons_append, List.nil_append, List.length_cons, List.length_nil, Option.map_some, Option.bind_some, Nat.reduceAdd, Nat.zero_add, Nat.add_zero, Nat.add_sub_cancel_left, Int.toNat_natCast, reps, List.all_cons, List.all_nil, C.flat, List.append_eq, Bool.not_true, Bool.and_true, Bool.or_false, Bool.or_self, Bool.not_false, List.append_nil, Bool.and_self]); rfl) (by (repeat' (first | (refine And.intro ?_ ?_) | exact trivial | rfl | exact Nat.le_refl _ | exact (fun _ _ => rfl) | exact all_one (by rfl) | (simp only [Int.toNat_natCast, Nat.zero_add, Nat.add_zero]; done)))) ?_
      rintro v h' ⟨rfl, rfl⟩ hcaps
      refine ret_mk (by (try simp only [givesF, setF, updF, Fam.zeroth, Fam.rk, Ck.rk, C.rk, E.rk, T.rk, key, List.map_cons, List.map_nil, List.cons_append, List.nil_append, List.length_cons, List.length_nil, Option.map_some, Option.bind_some, Nat.reduceAdd, Nat.zero_add, Nat.add_zero, Nat.add_sub_cancel_left, Int.toNat_natCast, reps, List.all_cons, List.all_nil, C.flat, List.append_eq, Bool.not_true, Bool.and_true, Bool.or_false, Bool.or_self, Bool.not_false, List.append_nil, Bool.and_self]); rfl) (by (try simp only [givesF, setF, updF, Fam.zeroth, Fam.rk, Ck.rk, C.rk, E.rk, T.rk, key, List.map_cons, List.map_nil, List.cons_append, List.nil_append, List.length_cons, List.length_nil, Option.map_some, Option.bind_some, Nat.reduceAdd, Nat.zero_add, Nat.add_zero, Nat.add_sub_cancel_left, Int.toNat_natCast, reps, List.all_cons, List.all_nil, C.flat, List.append_eq, Bool.not_true, Bool.and_true, Bool.or_false, Bool.or_self, Bool.not_false, List.append_nil, Bool.and_self]); rfl) ?_
      repeat' (first
        | ((fail_if_success (with_reducible first | apply LoopK.mk | apply CallK.mk | apply FinK.mk)); first
          | ((with_reducible refine And.intro (fun (hb : _ = true) => ?_) (fun (hb : _ = false) => ?_)) <;> (try simp only [decide_eq_true_eq, decide_eq_false_iff_not, Bool.not_eq_true', Bool.not_eq_false', Bool.and_eq_true, Bool.and_eq_false_iff, Bool.or_eq_true, Bool.or_eq_false_iff, Bool.and_true, Int.not_lt, Int.not_le, not_true_eq_false, or_self, true_and, Bool.true_eq_false, Bool.false_eq_true, reduceCtorEq, not_false_eq_true, decide_true, decide_false, Int.toNat_natCast, Nat.zero_add] at hb) <;> (try (first | (exfalso; omega) | exact (Bool.false_ne_true (Eq.trans (Eq.symm hb) (by assumption))).elim | exact (Bool.false_ne_true (Eq.trans (Eq.symm (by assumption)) hb)).elim)))
          | (with_reducible refine Both.mk ?_ ?_)
          | ((with_reducible refine And.intro ?_ ?_); (focus (first | rfl | omega | (split <;> omega) | (refine ⟨?_, ?_, ?_⟩ <;> first | rfl | omega | (split <;> omega)) | assumption | (refine ⟨?_, ?_⟩ <;> omega) | (refine ⟨?_, ?_, ?_⟩ <;> omega) | (refine ⟨?_, ?_, ?_, ?_⟩ <;> omega) | (dsimp only [maxLen]; refine ⟨?_, ?_⟩ <;> omega) | (refine ⟨rfl, ?_⟩ <;> omega) | exact ⟨rfl, rfl⟩ | exact ⟨rfl, rfl, by omega⟩)))
          | ((with_reducible refine Or.inl (And.intro ?_ (And.intro ?_ ?_))); (focus (rfl)); (focus (refine ⟨?_, ?_, ?_, ?_⟩ <;> first | rfl | omega)))
          | ((with_reducible refine Or.inr (Or.inl (And.intro ?_ ?_))); (focus (refine ⟨?_, ?_, ?_⟩ <;> first | rfl | omega)))
          | ((with_reducible refine Or.inr (Or.inr (Or.inl (And.intro ?_ ?_)))); (focus (refine ⟨?_, ?_, ?_, ?_, ?_⟩ <;> first | rfl | omega)))
          | ((with_reducible refine Or.inr (Or.inr (Or.inr (And.intro ?_ ?_)))); (focus (refine ⟨?_, ?_, ?_, ?_, ?_, ?_, ?_⟩ <;> first | rfl | omega)))
          | (with_reducible intro hc; (try simp only [capsP, and_true] at hc); (try (exfalso; omega)))
          | ((fail_if_success (with_reducible first | refine And.intro ?_ ?_ | refine Or.inl ?_ | intro _)); (conv => whnf); (fail_if_success (fail_if_success (with_reducible first | apply LoopK.mk | apply CallK.mk | apply FinK.mk | refine Both.mk ?_ ?_ | refine And.intro ?_ ?_ | refine Or.inl ?_ | intro _))))))
      refine ⟨⟨(k + 1, opL q l (ops.getD k default), ci', cr'), by simp only; omega, by simp only; omega, hi.op _⟩, [0, 1, 2, 5, 6], by simp only; omega, ?_⟩
      (repeat' (first | (refine And.intro ?_ ?_) | exact trivial | rfl | exact Nat.le_refl _ | exact (fun _ _ => rfl) | exact all_one (by rfl) | (simp only [Int.toNat_natCast, Nat.zero_add, Nat.add_zero]; done)))
    all_goals (
      refine CallK.mk2 (σ := [.whole 1, .whole 3]) (nl := []) (ilist q l ci hl) rfl rfl (by (try simp only [givesF, setF, updF, Fam.zeroth, Fam.rk, Ck.rk, C.rk, E.rk, T.rk, key, List.map_cons, List.map_nil, List.cons_append, List.nil_append, List.length_cons, List.length_nil, Option.map_some, Option.bind_some, Nat.reduceAdd, Nat.zero_add, Nat.add_zero, Nat.add_sub_cancel_left, Int.toNat_natCast, reps, List.all_cons, List.all_nil, C.flat, List.append_eq, Bool.not_true, Bool.and_true, Bool.or_false, Bool.or_self, Bool.not_false, List.append_nil, Bool.and_self]); rfl) (by (repeat' (first | (refine And.intro ?_ ?_) | exact trivial | rfl | exact Nat.le_refl _ | exact (fun _ _ => rfl) | exact all_one (by rfl) | (simp only [Int.toNat_natCast, Nat.zero_add, Nat.add_zero]; done)))) ?_
      rintro v h' ⟨c2, rfl, rfl⟩ hcaps
      refine ret_mk (by (try simp only [givesF, setF, updF, Fam.zeroth, Fam.rk, Ck.rk, C.rk, E.rk, T.rk, key, List.map_cons, List.map_nil, List.cons_append, List.nil_append, List.length_cons, List.length_nil, Option.map_some, Option.bind_some, Nat.reduceAdd, Nat.zero_add, Nat.add_zero, Nat.add_sub_cancel_left, Int.toNat_natCast, reps, List.all_cons, List.all_nil, C.flat, List.append_eq, Bool.not_true, Bool.and_true, Bool.or_false, Bool.or_self, Bool.not_false, List.append_nil, Bool.and_self]); rfl) (by (try simp only [givesF, setF, updF, Fam.zeroth, Fam.rk, Ck.rk, C.rk, E.rk, T.rk, key, List.map_cons, List.map_nil, List.cons_append, List.nil_append, List.length_cons, List.length_nil, Option.map_some, Option.bind_some, Nat.reduceAdd, Nat.zero_add, Nat.add_zero, Nat.add_sub_cancel_left, Int.toNat_natCast, reps, List.all_cons, List.all_nil, C.flat, List.append_eq, Bool.not_true, Bool.and_true, Bool.or_false, Bool.or_self, Bool.not_false, List.append_nil, Bool.and_self]); rfl) ?_
      repeat' (first
        | ((fail_if_success (with_reducible first | apply LoopK.mk | apply CallK.mk | apply FinK.mk)); first
          | ((with_reducible refine And.intro (fun (hb : _ = true) => ?_) (fun (hb : _ = false) => ?_)) <;> (try simp only [decide_eq_true_eq, decide_eq_false_iff_not, Bool.not_eq_true', Bool.not_eq_false', Bool.and_eq_true, Bool.and_eq_false_iff, Bool.or_eq_true, Bool.or_eq_false_iff, Bool.and_true, Int.not_lt, Int.not_le, not_true_eq_false, or_self, true_and, Bool.true_eq_false, Bool.false_eq_true, reduceCtorEq, not_false_eq_true, decide_true, decide_false, Int.toNat_natCast, Nat.zero_add] at hb) <;> (try (first | (exfalso; omega) | exact (Bool.false_ne_true (Eq.trans (Eq.symm hb) (by assumption))).elim | exact (Bool.false_ne_true (Eq.trans (Eq.symm (by assumption)) hb)).elim)))
          | (with_reducible refine Both.mk ?_ ?_)
          | ((with_reducible refine And.intro ?_ ?_); (focus (first | rfl | omega | (split <;> omega) | (refine ⟨?_, ?_, ?_⟩ <;> first | rfl | omega | (split <;> omega)) | assumption | (refine ⟨?_, ?_⟩ <;> omega) | (refine ⟨?_, ?_, ?_⟩ <;> omega) | (refine ⟨?_, ?_, ?_, ?_⟩ <;> omega) | (dsimp only [maxLen]; refine ⟨?_, ?_⟩ <;> omega) | (refine ⟨rfl, ?_⟩ <;> omega) | exact ⟨rfl, rfl⟩ | exact ⟨rfl, rfl, by omega⟩)))
          | ((with_reducible refine Or.inl (And.intro ?_ (And.intro ?_ ?_))); (focus (rfl)); (focus (refine ⟨?_, ?_, ?_, ?_⟩ <;> first | rfl | omega)))
          | ((with_reducible refine Or.inr (Or.inl (And.intro ?_ ?_))); (focus (refine ⟨?_, ?_, ?_⟩ <;> first | rfl | omega)))
          | ((with_reducible refine Or.inr (Or.inr (Or.inl (And.intro ?_ ?_)))); (focus (refine ⟨?_, ?_, ?_, ?_, ?_⟩ <;> first | rfl | omega)))
          | ((with_reducible refine Or.inr (Or.inr (Or.inr (And.intro ?_ ?_)))); (focus (refine ⟨?_, ?_, ?_, ?_, ?_, ?_, ?_⟩ <;> first | rfl | omega)))
          | (with_reducible intro hc; (try simp only [capsP, and_true] at hc); (try (exfalso; omega)))
          | ((fail_if_success (with_reducible first | refine And.intro ?_ ?_ | refine Or.inl ?_ | intro _)); (conv => whnf); (fail_if_success (fail_if_success (with_reducible first | apply LoopK.mk | apply CallK.mk | apply FinK.mk | refine Both.mk ?_ ?_ | refine And.intro ?_ ?_ | refine Or.inl ?_ | intro _))))))
      refine CallK.mk2 (σ := [.whole 5, .whole 4]) (nl := []) (rsameT c2 cr true true l hl) rfl rfl (by (try simp only [givesF, setF, updF, Fam.zeroth, Fam.rk, Ck.rk, C.rk, E.rk, T.rk, key, List.map_cons, List.map_nil, List.cons_append, List.nil_append, List.length_cons, List.length_nil, Option.map_some, Option.bind_some, Nat.reduceAdd, Nat.zero_add, Nat.add_zero, Nat.add_sub_cancel_left, Int.toNat_natCast, reps, List.all_cons, List.all_nil, C.flat, List.append_eq, Bool.not_true, Bool.and_true, Bool.or_false, Bool.or_self, Bool.not_false, List.append_nil, Bool.and_self]); rfl) (by (repeat' (first | (refine And.intro ?_ ?_) | exact trivial | rfl | exact Nat.le_refl _ | exact (fun _ _ => rfl) | exact all_one (by rfl) | (simp only [Int.toNat_natCast, Nat.zero_add, Nat.add_zero]; done)))) ?_
      rintro v h' ⟨rfl, rfl⟩ hcaps
      refine ret_mk (by (try simp only [givesF, setF, updF, Fam.zeroth, Fam.rk, Ck.rk, C.rk, E.rk, T.rk, key, List.map_cons, List.map_nil, List.cons_append, List.nil_append, List.length_cons, List.length_nil, Option.map_some, Option.bind_some, Nat.reduceAdd, Nat.zero_add, Nat.add_zero, Nat.add_sub_cancel_left, Int.toNat_natCast, reps, List.all_cons, List.all_nil, C.flat, List.append_eq, Bool.not_true, Bool.and_true, Bool.or_false, Bool.or_self, Bool.not_false, List.append_nil, Bool.and_self]); rfl) (by (try simp only [givesF, setF, updF, Fam.zeroth, Fam.rk, Ck.rk, C.rk, E.rk, T.rk, key, List.map_cons, List.map_nil, List.cons_append, List.nil_append, List.length_cons, List.length_nil, Option.map_some, Option.bind_some, Nat.reduceAdd, Nat.zero_add, Nat.add_zero, Nat.add_sub_cancel_left, Int.toNat_natCast, reps, List.all_cons, List.all_nil, C.flat, List.append_eq, Bool.not_true, Bool.and_true, Bool.or_false, Bool.or_self, Bool.not_false, List.append_nil, Bool.and_self]); rfl) ?_
      repeat' (first
        | ((fail_if_success (with_reducible first | apply LoopK.mk | apply CallK.mk | apply FinK.mk)); first
          | ((with_reducible refine And.intro (fun (hb : _ = true) => ?_) (fun (hb : _ = false) => ?_)) <;> (try simp only [decide_eq_true_eq, decide_eq_false_iff_not, Bool.not_eq_true', Bool.not_eq_false', Bool.and_eq_true, Bool.and_eq_false_iff, Bool.or_eq_true, Bool.or_eq_false_iff, Bool.and_true, Int.not_lt, Int.not_le, not_true_eq_false, or_self, true_and, Bool.true_eq_false, Bool.false_eq_true, reduceCtorEq, not_false_eq_true, decide_true, decide_false, Int.toNat_natCast, Nat.zero_add] at hb) <;> (try (first | (exfalso; omega) | exact (Bool.false_ne_true (Eq.trans (Eq.symm hb) (by assumption))).elim | exact (Bool.false_ne_true (Eq.trans (Eq.symm (by assumption)) hb)).elim)))
          | (with_reducible refine Both.mk ?_ ?_)
          | ((with_reducible refine And.intro ?_ ?_); (focus (first | rfl | omega | (split <;> omega) | (refine ⟨?_, ?_, ?_⟩ <;> first | rfl | omega | (split <;> omega)) | assumption | (refine ⟨?_, ?_⟩ <;> omega) | (refine ⟨?_, ?_, ?_⟩ <;> omega) | (refine ⟨?_, ?_, ?_, ?_⟩ <;> omega) | (dsimp only [maxLen]; refine ⟨?_, ?_⟩ <;> omega) | (refine ⟨rfl, ?_⟩ <;> omega) | exact ⟨rfl, rfl⟩ | exact ⟨rfl, rfl, by omega⟩)))
          | ((with_reducible refine Or.inl (And.intro ?_ (And.intro ?_ ?_))); (focus (rfl)); (focus (refine ⟨?_, ?_, ?_, ?_⟩ <;> first | rfl | omega)))
          | ((with_reducible refine Or.inr (Or.inl (And.intro ?_ ?_))); (focus (refine ⟨?_, ?_, ?_⟩ <;> first | rfl | omega)))
          | ((with_reducible refine Or.inr (Or.inr (Or.inl (And.intro ?_ ?_)))); (focus (refine ⟨?_, ?_, ?_, ?_, ?_⟩ <;> first | rfl | omega)))
          | ((with_reducible refine Or.inr (Or.inr (Or.inr (And.intro ?_ ?_)))); (focus (refine ⟨?_, ?_, ?_, ?_, ?_, ?_, ?_⟩ <;> first | rfl | omega)))
          | (with_reducible intro hc; (try simp only [capsP, and_true] at hc); (try (exfalso; omega)))
          | ((fail_if_success (with_reducible first | refine And.intro ?_ ?_ | refine Or.inl ?_ | intro _)); (conv => whnf); (fail_if_success (fail_if_success (with_reducible first | apply LoopK.mk | apply CallK.mk | apply FinK.mk | refine Both.mk ?_ ?_ | refine And.intro ?_ ?_ | refine Or.inl ?_ | intro _))))))
      refine CallK.mk2 (σ := []) (nl := []) (cawake) rfl rfl (by (try simp only [givesF, setF, updF, Fam.zeroth, Fam.rk, Ck.rk, C.rk, E.rk, T.rk, key, List.map_cons, List.map_nil, List.cons_append, List.nil_append, List.length_cons, List.length_nil, Option.map_some, Option.bind_some, Nat.reduceAdd, Nat.zero_add, Nat.add_zero, Nat.add_sub_cancel_left, Int.toNat_natCast, reps, List.all_cons, List.all_nil, C.flat, List.append_eq, Bool.not_true, Bool.and_true, Bool.or_false, Bool.or_self, Bool.not_false, List.append_nil, Bool.and_self]); rfl) (by (repeat' (first | (refine And.intro ?_ ?_) | exact trivial | rfl | exact Nat.le_refl _ | exact (fun _ _ => rfl) | exact all_one (by rfl) | (simp only [Int.toNat_natCast, Nat.zero_add, Nat.add_zero]; done)))) ?_
      rintro v h' ⟨rfl, rfl⟩ hcaps
      refine ret_mk (by (try simp only [givesF, setF, updF, Fam.zeroth, Fam.rk, Ck.rk, C.rk, E.rk, T.rk, key, List.map_cons, List.map_nil, List.cons_append, List.nil_append, List.length_cons, List.length_nil, Option.map_some, Option.bind_some, Nat.reduceAdd, Nat.zero_add, Nat.add_zero, Nat.add_sub_cancel_left, Int.toNat_natCast, reps, List.all_cons, List.all_nil, C.flat, List.append_eq, Bool.not_true, Bool.and_true, Bool.or_false, Bool.or_self, Bool.not_false, List.append_nil, Bool.and_self]); rfl) (by (try simp only [givesF, setF, updF, Fam.zeroth, Fam.rk, Ck.rk, C.rk, E.rk, T.rk, key, List.map_cons, List.map_nil, List.cons_append, List.nil_append, List.length_cons, List.length_nil, Option.map_some, Option.bind_some, Nat.reduceAdd, Nat.zero_add, Nat.add_zero, Nat.add_sub_cancel_left, Int.toNat_natCast, reps, List.all_cons, List.all_nil, C.flat, List.append_eq, Bool.not_true, Bool.and_true, Bool.or_false, Bool.or_self, Bool.not_false, List.append_nil, Bool.and_self]); rfl) ?_
      repeat' (first
        | ((fail_if_success (with_reducible first | apply LoopK.mk | apply CallK.mk | apply FinK.mk)); first
          | ((with_reducible refine And.intro (fun (hb : _ = true) => ?_) (fun (hb : _ = false) => ?_)) <;> (try simp only [decide_eq_true_eq, decide_eq_false_iff_not, Bool.not_eq_true', Bool.not_eq_false', Bool.and_eq_true, Bool.and_eq_false_iff, Bool.or_eq_true, Bool.or_eq_false_iff, Bool.and_true, Int.not_lt, Int.not_le, not_true_eq_false, or_self, true_and, Bool.true_eq_false, Bool.false_eq_true, reduceCtorEq, not_false_eq_true, decide_true, decide_false, Int.toNat_natCast, Nat.zero_add] at hb) <;> (try (first | (exfalso; omega) | exact (Bool.false_ne_true (Eq.trans (Eq.symm hb) (by assumption))).elim | exact (Bool.false_ne_true (Eq.trans (Eq.symm (by assumption)) hb)).elim)))
          | (with_reducible refine Both.mk ?_ ?_)
          | ((with_reducible refine And.intro ?_ ?_); (focus (first | rfl | omega | (split <;> omega) | (refine ⟨?_, ?_, ?_⟩ <;> first | rfl | omega | (split <;> omega)) | assumption | (refine ⟨?_, ?_⟩ <;> omega) | (refine ⟨?_, ?_, ?_⟩ <;> omega) | (refine ⟨?_, ?_, ?_, ?_⟩ <;> omega) | (dsimp only [maxLen]; refine ⟨?_, ?_⟩ <;> omega) | (refine ⟨rfl, ?_⟩ <;> omega) | exact ⟨rfl, rfl⟩ | exact ⟨rfl, rfl, by omega⟩)))
          | ((with_reducible refine Or.inl (And.intro ?_ (And.intro ?_ ?_))); (focus (rfl)); (focus (refine ⟨?_, ?_, ?_, ?_⟩ <;> first | rfl | omega)))
          | ((with_reducible refine Or.inr (Or.inl (And.intro ?_ ?_))); (focus (refine ⟨?_, ?_, ?_⟩ <;> first | rfl | omega)))
          | ((with_reducible refine Or.inr (Or.inr (Or.inl (And.intro ?_ ?_)))); (focus (refine ⟨?_, ?_, ?_, ?_, ?_⟩ <;> first | rfl | omega)))
          | ((with_reducible refine Or.inr (Or.inr (Or.inr (And.intro ?_ ?_)))); (focus (refine ⟨?_, ?_, ?_, ?_, ?_, ?_, ?_⟩ <;> first | rfl | omega)))
          | (with_reducible intro hc; (try simp only [capsP, and_true] at hc); (try (exfalso; omega)))
          | ((fail_if_success (with_reducible first | refine And.intro ?_ ?_ | refine Or.inl ?_ | intro _)); (conv => whnf); (fail_if_success (fail_if_success (with_reducible first | apply LoopK.mk | apply CallK.mk | apply FinK.mk | refine Both.mk ?_ ?_ | refine And.intro ?_ ?_ | refine Or.inl ?_ | intro _))))))
      refine FinK.mk ⟨[0], _, [.one .no], rfl, ?_⟩
      (repeat' (first | (refine And.intro ?_ ?_) | exact trivial | rfl | exact Nat.le_refl _ | exact (fun _ _ => rfl) | exact all_one (by rfl) | (simp only [Int.toNat_natCast, Nat.zero_add, Nat.add_zero]; done))))
  · refine CallK.mk2 (σ := []) (nl := []) (inew_no q hq) rfl rfl (by (try simp only [givesF, setF, updF, Fam.zeroth, Fam.rk, Ck.rk, C.rk, E.rk, T.rk, key, List.map_cons, List.map_nil, List.cons_append, List.nil_append, List.length_cons, List.length_nil, Option.map_some, Option.bind_some, Nat.reduceAdd, Nat.zero_add, Nat.add_zero, Nat.add_sub_cancel_left, Int.toNat_natCast, reps, List.all_cons, List.all_nil, C.flat, List.append_eq, Bool.not_true, Bool.and_true, Bool.or_false, Bool.or_self, Bool.not_false, List.append_nil, Bool.and_self]); rfl) (by (repeat' (first | (refine And.intro ?_ ?_) | exact trivial | rfl | exact Nat.le_refl _ | exact (fun _ _ => rfl) | exact all_one (by rfl) | (simp only [Int.toNat_natCast, Nat.zero_add, Nat.add_zero]; done)))) ?_
    rintro v h' ⟨rfl, rfl⟩ hcaps
    refine ret_mk (by (try simp only [givesF, setF, updF, Fam.zeroth, Fam.rk, Ck.rk, C.rk, E.rk, T.rk, key, List.map_cons, List.map_nil, List.cons_append, List.nil_append, List.length_cons, List.length_nil, Option.map_some, Option.bind_some, Nat.reduceAdd, Nat.zero_add, Nat.add_zero, Nat.add_sub_cancel_left, Int.toNat_natCast, reps, List.all_cons, List.all_nil, C.flat, List.append_eq, Bool.not_true, Bool.and_true, Bool.or_false, Bool.or_self, Bool.not_false, List.append_nil, Bool.and_self]); rfl) (by (try simp only [givesF, setF, updF, Fam.zeroth, Fam.rk, Ck.rk, C.rk, E.rk, T.rk, key, List.map_cons, List.map_nil, List.cons_append, List.nil_append, List.length_cons, List.length_nil, Option.map_some, Option.bind_some, Nat.reduceAdd, Nat.zero_add, Nat.add_zero, Nat.add_sub_cancel_left, Int.toNat_natCast, reps, List.all_cons, List.all_nil, C.flat, List.append_eq, Bool.not_true, Bool.and_true, Bool.or_false, Bool.or_self, Bool.not_false, List.append_nil, Bool.and_self]); rfl) ?_
    repeat' (first
      | ((fail_if_success (with_reducible first | apply LoopK.mk | apply CallK.mk | apply FinK.mk)); first
        | ((with_reducible refine And.intro (fun (hb : _ = true) => ?_) (fun (hb : _ = false) => ?_)) <;> (try simp only [decide_eq_true_eq, decide_eq_false_iff_not, Bool.not_eq_true', Bool.not_eq_false', Bool.and_eq_true, Bool.and_eq_false_iff, Bool.or_eq_true, Bool.or_eq_false_iff, Bool.and_true, Int.not_lt, Int.not_le, not_true_eq_false, or_self, true_and, Bool.true_eq_false, Bool.false_eq_true, reduceCtorEq, not_false_eq_true, decide_true, decide_false, Int.toNat_natCast, Nat.zero_add] at hb) <;> (try (first | (exfalso; omega) | exact (Bool.false_ne_true (Eq.trans (Eq.symm hb) (by assumption))).elim | exact (Bool.false_ne_true (Eq.trans (Eq.symm (by assumption)) hb)).elim)))
        | (with_reducible refine Both.mk ?_ ?_)
        | ((with_reducible refine And.intro ?_ ?_); (focus (first | rfl | omega | (split <;> omega) | (refine ⟨?_, ?_, ?_⟩ <;> first | rfl | omega | (split <;> omega)) | assumption | (refine ⟨?_, ?_⟩ <;> omega) | (refine ⟨?_, ?_, ?_⟩ <;> omega) | (refine ⟨?_, ?_, ?_, ?_⟩ <;> omega) | (dsimp only [maxLen]; refine ⟨?_, ?_⟩ <;> omega) | (refine ⟨rfl, ?_⟩ <;> omega) | exact ⟨rfl, rfl⟩ | exact ⟨rfl, rfl, by omega⟩)))
        | ((with_reducible refine Or.inl (And.intro ?_ (And.intro ?_ ?_))); (focus (rfl)); (focus (refine ⟨?_, ?_, ?_, ?_⟩ <;> first | rfl | omega)))
        | ((with_reducible refine Or.inr (Or.inl (And.intro ?_ ?_))); (focus (refine ⟨?_, ?_, ?_⟩ <;> first | rfl | omega)))
        | ((with_reducible refine Or.inr (Or.inr (Or.inl (And.intro ?_ ?_)))); (focus (refine ⟨?_, ?_, ?_, ?_, ?_⟩ <;> first | rfl | omega)))
        | ((with_reducible refine Or.inr (Or.inr (Or.inr (And.intro ?_ ?_)))); (focus (refine ⟨?_, ?_, ?_, ?_, ?_, ?_, ?_⟩ <;> first | rfl | omega)))
        | (with_reducible intro hc; (try simp only [capsP, and_true] at hc); (try (exfalso; omega)))
        | ((fail_if_success (with_reducible first | refine And.intro ?_ ?_ | refine Or.inl ?_ | intro _)); (conv => whnf); (fail_if_success (fail_if_success (with_reducible first | apply LoopK.mk | apply CallK.mk | apply FinK.mk | refine Both.mk ?_ ?_ | refine And.intro ?_ ?_ | refine Or.inl ?_ | intro _))))))
    refine CallK.mk2 (σ := []) (nl := []) (rnew_no q hq) rfl rfl (by (try simp only [givesF, setF, updF, Fam.zeroth, Fam.rk, Ck.rk, C.rk, E.rk, T.rk, key, List.map_cons, List.map_nil, List.cons_append, List.nil_append, List.length_cons, List.length_nil, Option.map_some, Option.bind_some, Nat.reduceAdd, Nat.zero_add, Nat.add_zero, Nat.add_sub_cancel_left, Int.toNat_natCast, reps, List.all_cons, List.all_nil, C.flat, List.append_eq, Bool.not_true, Bool.and_true, Bool.or_false, Bool.or_self, Bool.not_false, List.append_nil, Bool.and_self]); rfl) (by (repeat' (first | (refine And.intro ?_ ?_) | exact trivial | rfl | exact Nat.le_refl _ | exact (fun _ _ => rfl) | exact all_one (by rfl) | (simp only [Int.toNat_natCast, Nat.zero_add, Nat.add_zero]; done)))) ?_
    rintro v h' ⟨rfl, rfl⟩ hcaps
    refine ret_mk (by (try simp only [givesF, setF, updF, Fam.zeroth, Fam.rk, Ck.rk, C.rk, E.rk, T.rk, key, List.map_cons, List.map_nil, List.cons_append, List.nil_append, List.length_cons, List.length_nil, Option.map_some, Option.bind_some, Nat.reduceAdd, Nat.zero_add, Nat.add_zero, Nat.add_sub_cancel_left, Int.toNat_natCast, reps, List.all_cons, List.all_nil, C.flat, List.append_eq, Bool.not_true, Bool.and_true, Bool.or_false, Bool.or_self, Bool.not_false, List.append_nil, Bool.and_self]); rfl) (by (try simp only [givesF, setF, updF, Fam.zeroth, Fam.rk, Ck.rk, C.rk, E.rk, T.rk, key, List.map_cons, List.map_nil, List.cons_append, List.nil_append, List.length_cons, List.length_nil, Option.map_some, Option.bind_some, Nat.reduceAdd, Nat.zero_add, Nat.add_zero, Nat.add_sub_cancel_left, Int.toNat_natCast, reps, List.all_cons, List.all_nil, C.flat, List.append_eq, Bool.not_true, Bool.and_true, Bool.or_false, Bool.or_self, Bool.not_false, List.append_nil, Bool.and_self]); rfl) ?_
    repeat' (first
      | ((fail_if_success (with_reducible first | apply LoopK.mk | apply CallK.mk | apply FinK.mk)); first
        | ((with_reducible refine And.intro (fun (hb : _ = true) => ?_) (fun (hb : _ = false) => ?_)) <;> (try simp only [decide_eq_true_eq, decide_eq_false_iff_not, Bool.not_eq_true', Bool.not_eq_false', Bool.and_eq_true, Bool.and_eq_false_iff, Bool.or_eq_true, Bool.or_eq_false_iff, Bool.and_true, Int.not_lt, Int.not_le, not_true_eq_false, or_self, true_and, Bool.true_eq_false, Bool.false_eq_true, reduceCtorEq, not_false_eq_true, decide_true, decide_false, Int.toNat_natCast, Nat.zero_add] at hb) <;> (try (first | (exfalso; omega) | exact (Bool.false_ne_true (Eq.trans (Eq.symm hb) (by assumption))).elim | exact (Bool.false_ne_true (Eq.trans (Eq.symm (by assumption)) hb)).elim)))
        | (with_reducible refine Both.mk ?_ ?_)
        | ((with_reducible refine And.intro ?_ ?_); (focus (first | rfl | omega | (split <;> omega) | (refine ⟨?_, ?_, ?_⟩ <;> first | rfl | omega | (split <;> omega)) | assumption | (refine ⟨?_, ?_⟩ <;> omega) | (refine ⟨?_, ?_, ?_⟩ <;> omega) | (refine ⟨?_, ?_, ?_, ?_⟩ <;> omega) | (dsimp only [maxLen]; refine ⟨?_, ?_⟩ <;> omega) | (refine ⟨rfl, ?_⟩ <;> omega) | exact ⟨rfl, rfl⟩ | exact ⟨rfl, rfl, by omega⟩)))
        | ((with_reducible refine Or.inl (And.intro ?_ (And.intro ?_ ?_))); (focus (rfl)); (focus (refine ⟨?_, ?_, ?_, ?_⟩ <;> first | rfl | omega)))
        | ((with_reducible refine Or.inr (Or.inl (And.intro ?_ ?_))); (focus (refine ⟨?_, ?_, ?_⟩ <;> first | rfl | omega)))
        | ((with_reducible refine Or.inr (Or.inr (Or.inl (And.intro ?_ ?_)))); (focus (refine ⟨?_, ?_, ?_, ?_, ?_⟩ <;> first | rfl | omega)))
        | ((with_reducible refine Or.inr (Or.inr (Or.inr (And.intro ?_ ?_)))); (focus (refine ⟨?_, ?_, ?_, ?_, ?_, ?_, ?_⟩ <;> first | rfl | omega)))
        | (with_reducible intro hc; (try simp only [capsP, and_true] at hc); (try (exfalso; omega)))
        | ((fail_if_success (with_reducible first | refine And.intro ?_ ?_ | refine Or.inl ?_ | intro _)); (conv => whnf); (fail_if_success (fail_if_success (with_reducible first | apply LoopK.mk | apply CallK.mk | apply FinK.mk | refine Both.mk ?_ ?_ | refine And.intro ?_ ?_ | refine Or.inl ?_ | intro _))))))
    refine CallK.mk2 (σ := []) (nl := []) (cawake) rfl rfl (by (try simp only [givesF, setF, updF, Fam.zeroth, Fam.rk, Ck.rk, C.rk, E.rk, T.rk, key, List.map_cons, List.map_nil, List.cons_append, List.nil_append, List.length_cons, List.length_nil, Option.map_some, Option.bind_some, Nat.reduceAdd, Nat.zero_add, Nat.add_zero, Nat.add_sub_cancel_left, Int.toNat_natCast, reps, List.all_cons, List.all_nil, C.flat, List.append_eq, Bool.not_true, Bool.and_true, Bool.or_false, Bool.or_self, Bool.not_false, List.append_nil, Bool.and_self]); rfl) (by (repeat' (first | (refine And.intro ?_ ?_) | exact trivial | rfl | exact Nat.le_refl _ | exact (fun _ _ => rfl) | exact all_one (by rfl) | (simp only [Int.toNat_natCast, Nat.zero_add, Nat.add_zero]; done)))) ?_
    rintro v h' ⟨rfl, rfl⟩ hcaps
    refine ret_mk (by (try simp only [givesF, setF, updF, Fam.zeroth, Fam.rk, Ck.rk, C.rk, E.rk, T.rk, key, List.map_cons, List.map_nil, List.cons_append, List.nil_append, List.length_cons, List.length_nil, Option.map_some, Option.bind_some, Nat.reduceAdd, Nat.zero_add, Nat.add_zero, Nat.add_sub_cancel_left, Int.toNat_natCast, reps, List.all_cons, List.all_nil, C.flat, List.append_eq, Bool.not_true, Bool.and_true, Bool.or_false, Bool.or_self, Bool.not_false, List.append_nil, Bool.and_self]); rfl) (by (try simp only [givesF, setF, updF, Fam.zeroth, Fam.rk, Ck.rk, C.rk, E.rk, T.rk, key, List.map_cons, List.map_nil, List.cons_append, List.nil_append, List.length_cons, List.length_nil, Option.map_some, Option.bind_some, Nat.reduceAdd, Nat.zero_add, Nat.add_zero, Nat.add_sub_cancel_left, Int.toNat_natCast, reps, List.all_cons, List.all_nil, C.flat, List.append_eq, Bool.not_true, Bool.and_true, Bool.or_false, Bool.or_self, Bool.not_false, List.append_nil, Bool.and_self]); rfl) ?_
    repeat' (first
      | ((fail_if_success (with_reducible first | apply LoopK.mk | apply CallK.mk | apply FinK.mk)); first
        | ((with_reducible refine And.intro (fun (hb : _ = true) => ?_) (fun (hb : _ = false) => ?_)) <;> (try simp only [decide_eq_true_eq, decide_eq_false_iff_not, Bool.not_eq_true', Bool.not_eq_false', Bool.and_eq_true, Bool.and_eq_false_iff, Bool.or_eq_true, Bool.or_eq_false_iff, Bool.and_true, Int.not_lt, Int.not_le, not_true_eq_false, or_self, true_and, Bool.true_eq_false, Bool.false_eq_true, reduceCtorEq, not_false_eq_true, decide_true, decide_false, Int.toNat_natCast, Nat.zero_add] at hb) <;> (try (first | (exfalso; omega) | exact (Bool.false_ne_true (Eq.trans (Eq.symm hb) (by assumption))).elim | exact (Bool.false_ne_true (Eq.trans (Eq.symm (by assumption)) hb)).elim)))
        | (with_reducible refine Both.mk ?_ ?_)
        | ((with_reducible refine And.intro ?_ ?_); (focus (first | rfl | omega | (split <;> omega) | (refine ⟨?_, ?_, ?_⟩ <;> first | rfl | omega | (split <;> omega)) | assumption | (refine ⟨?_, ?_⟩ <;> omega) | (refine ⟨?_, ?_, ?_⟩ <;> omega) | (refine ⟨?_, ?_, ?_, ?_⟩ <;> omega) | (dsimp only [maxLen]; refine ⟨?_, ?_⟩ <;> omega) | (refine ⟨rfl, ?_⟩ <;> omega) | exact ⟨rfl, rfl⟩ | exact ⟨rfl, rfl, by omega⟩)))
        | ((with_reducible refine Or.inl (And.intro ?_ (And.intro ?_ ?_))); (focus (rfl)); (focus (refine ⟨?_, ?_, ?_, ?_⟩ <;> first | rfl | omega)))
        | ((with_reducible refine Or.inr (Or.inl (And.intro ?_ ?_))); (focus (refine ⟨?_, ?_, ?_⟩ <;> first | rfl | omega)))
        | ((with_reducible refine Or.inr (Or.inr (Or.inl (And.intro ?_ ?_)))); (focus (refine ⟨?_, ?_, ?_, ?_, ?_⟩ <;> first | rfl | omega)))
        | ((with_reducible refine Or.inr (Or.inr (Or.inr (And.intro ?_ ?_)))); (focus (refine ⟨?_, ?_, ?_, ?_, ?_, ?_, ?_⟩ <;> first | rfl | omega)))
        | (with_reducible intro hc; (try simp only [capsP, and_true] at hc); (try (exfalso; omega)))
        | ((fail_if_success (with_reducible first | refine And.intro ?_ ?_ | refine Or.inl ?_ | intro _)); (conv => whnf); (fail_if_success (fail_if_success (with_reducible first | apply LoopK.mk | apply CallK.mk | apply FinK.mk | refine Both.mk ?_ ?_ | refine And.intro ?_ ?_ | refine Or.inl ?_ | intro _))))))
    refine FinK.mk ⟨[0], _, [.one .no], rfl, ?_⟩
    (repeat' (first | (refine And.intro ?_ ?_) | exact trivial | rfl | exact Nat.le_refl _ | exact (fun _ _ => rfl) | exact all_one (by rfl) | (simp only [Int.toNat_natCast, Nat.zero_add, Nat.add_zero]; done)))
end Go.Proofs.Ytohghplabennjaa

namespace Go.Proofs.Ytohghplabennjaa
open Go.X Go.RowKit

abbrev kQ : List K := [.b, .b, .b, .i .i64, .i .i64, .i .i64, .i .i64]
abbrev kS : List K := [.i .i64, .i .i64, .i .i64, .s]
abbrev kO : List K := [.i .u8, .i .i64, .i .i64, .i .i64, .s, .i .i64]

theorem ft_Q {l : List C} (h : FT kQ l) : ∃ q : Qos, l = encQ q := by
  obtain ⟨a, _, rfl, h1⟩ := FT_b h
  obtain ⟨b, _, rfl, h2⟩ := FT_b h1
  obtain ⟨c, _, rfl, h3⟩ := FT_b h2
  obtain ⟨d, _, rfl, _, h4⟩ := FT_i h3
  obtain ⟨e, _, rfl, _, h5⟩ := FT_i h4
  obtain ⟨f, _, rfl, _, h6⟩ := FT_i h5
  obtain ⟨g, _, rfl, _, h7⟩ := FT_i h6
  obtain rfl := FT_nil h7
  exact ⟨⟨a, b, c, d, e, f, g⟩, rfl⟩
theorem ft_S {l : List C} (h : FT kS l) : ∃ x : Smp, l = encS x ∧ (In64 x.w ∧ In64 x.q ∧ In64 x.t) := by
  obtain ⟨a, _, rfl, ha, h1⟩ := FT_i h
  obtain ⟨b, _, rfl, hb, h2⟩ := FT_i h1
  obtain ⟨c, _, rfl, hc, h3⟩ := FT_i h2
  obtain ⟨d, _, rfl, _, h4⟩ := FT_s h3
  obtain rfl := FT_nil h4
  exact ⟨⟨a, b, c, d⟩, rfl, ha, hb, hc⟩
theorem ft_O {l : List C} (h : FT kO l) : ∃ x : OpV, l = encO x ∧ In64 x.n := by
  obtain ⟨k, _, rfl, _, h1⟩ := FT_i h
  obtain ⟨a, _, rfl, _, h2⟩ := FT_i h1
  obtain ⟨b, _, rfl, _, h3⟩ := FT_i h2
  obtain ⟨c, _, rfl, _, h4⟩ := FT_i h3
  obtain ⟨d, _, rfl, _, h5⟩ := FT_s h4
  obtain ⟨n, _, rfl, hn, h6⟩ := FT_i h5
  obtain rfl := FT_nil h6
  exact ⟨⟨k, ⟨a, b, c, d⟩, n⟩, rfl, hn⟩

theorem getD_mem' {α : Type} [Inhabited α] {l : List α} {k : Nat} (h : k < l.length) : l.getD k default ∈ l := by
  rw [getD_lt h]; exact List.getElem_mem h

theorem walk_HistoryPlays (W : World) (c0 : Array Value) (k0 : VKs W kQ c0.toList) (v1 : Value) (k1 : VK W (.sl kO) v1) (e1 : ∀ a n c, v1 = .slice (some a) n c → a.spot = none) :
    Calls Try.prog 6 #[.agg c0, v1] W fun e W' => e = .returned (.bool true) ∧ Below W.heap.size W W' := by
  obtain ⟨l0, f0, r0, _, _⟩ := flat_view (by rfl) k0
  obtain ⟨q, rfl⟩ := ft_Q f0
  obtain ⟨A, n, c, g, hv, hh, hn, hc, hnc, hg⟩ := row_view (by rfl) k1 e1
  obtain ⟨ops, hl, hge, hp⟩ := list_of encO (Pr := fun x => In64 x.n) (fun i hi => ft_O (hg i hi))
  subst hl
  have hf : Fits (nmL [A]) ([opsRow ops c].map Fam.one) W := fits_read (get_ones (fun f ck hf => by
    match f, hf with
    | 0, hf =>
      cases hf
      exact holds_row_congr (hh _ 43) hge
    | f + 1, hf => simp at hf)) (get_ones_own (by simp [Ck.owned]))
  have hv' : C.ren (nmL [A]) (C.sl 0 0 6 0 ops.length c) = v1 := hv (nmL [A]) 0 0 rfl
  have := glue (cplays q ops c (fun k hk => hp _ (getD_mem' hk)) (by unfold maxLen at hn; omega)) hf (get_ones_own (h := [opsRow ops c]) (by simp [Ck.owned]))
  simp only [List.map_cons, List.map_nil, T.ren] at this
  rw [hv'] at this
  have e0 : renL (nmL [A]) (encQ q) = c0 := by
    apply Array.toList_inj.1
    rw [← r0 (nmL [A])]; rfl
  rw [e0] at this
  exact this
end Go.Proofs.Ytohghplabennjaa

namespace Go.Proofs.Ytohghplabennjaa
open Go.X Go.RowKit
set_option linter.unusedSimpArgs false
set_option linter.unusedVariables false

theorem gone_app (q : Qos) (l : List Smp) (x : Smp) (t : Int) : (expd q x t = true → gone q (l ++ [x]) t = gone q l t ++ [x] ∧ stay q (l ++ [x]) t = stay q l t) ∧ (expd q x t = false → gone q (l ++ [x]) t = gone q l t ∧ stay q (l ++ [x]) t = stay q l t ++ [x]) := by
  unfold gone stay
  constructor <;> intro h <;> simp [List.filter_append, h]

theorem new_keep {q : Qos} (hk : q.keep = true) {l : List Smp} {x : Smp} (h : addE q l x = 0) : newS q l x = l ++ [x] := by
  have ho : oldI q l x.w < 0 := by unfold oldI; rw [if_pos hk]; omega
  unfold newS addL
  rw [if_pos h, if_pos ho]

theorem gone_stay (q : Qos) (l : List Smp) (t : Int) : gone q (stay q l t) t = [] := by
  unfold gone stay
  rw [List.filter_filter, List.filter_eq_nil_iff]
  intro x _
  cases expd q x t <;> simp

def qE (life : Int) : Qos := ⟨false, false, true, 0, 0, life, 0⟩
set_option maxRecDepth 10000 in
set_option maxHeartbeats 2000000 in
theorem cexpires (life at' : Int) (l : List Smp) (c : Nat) (hlm : l.length ≤ 9223372036854775807) :
    Ctr Try.prog 4 [.c (.i .i64 life), .c (.sl 0 0 4 0 l.length c), .c (.i .i64 at')] [.one (smps false l c)] fun v _ => v = .c .tt := by
  refine Ctr.mk' tbv mixed Try.func4 rfl rfl rfl (fun _ _ => by kernel_rfl) (by kernel_rfl) (by rfl) (by rfl) (by exact trivial) ?_
  repeat' (first
    | ((fail_if_success (with_reducible first | apply LoopK.mk | apply CallK.mk | apply FinK.mk | refine Exists.intro ?_ ?_)); first
      | ((with_reducible refine And.intro (fun (hb : _ = true) => ?_) (fun (hb : _ = false) => ?_)) <;> (try simp only [decide_eq_true_eq, decide_eq_false_iff_not, Bool.not_eq_true', Bool.not_eq_false', Bool.and_eq_true, Bool.and_eq_false_iff, Bool.or_eq_true, Bool.or_eq_false_iff, Bool.and_true, Int.not_lt, Int.not_le, not_true_eq_false, or_self, true_and, Bool.true_eq_false, Bool.false_eq_true, reduceCtorEq, not_false_eq_true, decide_true, decide_false, Int.toNat_natCast, Nat.zero_add] at hb) <;> (try (first | (exfalso; omega) | exact (Bool.false_ne_true (Eq.trans (Eq.symm hb) (by assumption))).elim | exact (Bool.false_ne_true (Eq.trans (Eq.symm (by assumption)) hb)).elim)))
      | (with_reducible refine Both.mk ?_ ?_)
      | ((with_reducible refine And.intro ?_ ?_); (focus (first | rfl | omega | (split <;> omega) | (refine ⟨?_, ?_, ?_⟩ <;> first | rfl | omega | (split <;> omega)) | assumption | (refine ⟨?_, ?_⟩ <;> omega) | (refine ⟨?_, ?_, ?_⟩ <;> omega) | (refine ⟨?_, ?_, ?_, ?_⟩ <;> omega) | (dsimp only [maxLen]; refine ⟨?_, ?_⟩ <;> omega) | (refine ⟨rfl, ?_⟩ <;> omega) | exact ⟨rfl, rfl⟩ | exact ⟨rfl, rfl, by omega⟩ | (simp only [Int.toNat_natCast, Nat.zero_add, Nat.add_zero]; first | omega | (refine ⟨?_, ?_⟩ <;> omega) | (refine ⟨?_, ?_, ?_⟩ <;> omega)))))
      | ((with_reducible refine Or.inl (And.intro ?_ (And.intro ?_ ?_))); (focus (rfl)); (focus (refine ⟨?_, ?_, ?_, ?_⟩ <;> first | rfl | omega)))
      | ((with_reducible refine Or.inr (Or.inl (And.intro ?_ ?_))); (focus (refine ⟨?_, ?_, ?_⟩ <;> first | rfl | omega)))
      | ((with_reducible refine Or.inr (Or.inr (Or.inl (And.intro ?_ ?_)))); (focus (refine ⟨?_, ?_, ?_, ?_, ?_⟩ <;> first | rfl | omega)))
      | ((with_reducible refine Or.inr (Or.inr (Or.inr (And.intro ?_ ?_)))); (focus (refine ⟨?_, ?_, ?_, ?_, ?_, ?_, ?_⟩ <;> first | rfl | omega)))
      | (with_reducible intro hc; (try simp only [capsP, and_true] at hc); (try (exfalso; omega)))
      | ((fail_if_success (with_reducible first | refine And.intro ?_ ?_ | refine Or.inl ?_ | intro _)); (conv => whnf); (fail_if_success (fail_if_success (with_reducible first | apply LoopK.mk | apply CallK.mk | apply FinK.mk | refine Exists.intro ?_ ?_ | refine Both.mk ?_ ?_ | refine And.intro ?_ ?_ | refine Or.inl ?_ | intro _))))))
  by_cases hq : okQ (qE life)
  · have hlife : 0 ≤ life ∧ life ≤ 1099511627776 := hq.2.1
    refine CallK.mk2 (σ := []) (nl := []) (inew_ok (qE life) hq) rfl rfl (by (try simp only [givesF, setF, updF, Fam.zeroth, Fam.rk, Ck.rk, C.rk, E.rk, T.rk, key, List.map_cons, List.map_nil, List.cons_append, List.nil_append, List.length_cons, List.length_nil, Option.map_some, Option.bind_some, Nat.reduceAdd, Nat.zero_add, Nat.add_zero, Nat.add_sub_cancel_left, Int.toNat_natCast, reps, List.all_cons, List.all_nil, C.flat, List.append_eq, Bool.not_true, Bool.and_true, Bool.or_false, Bool.or_self, Bool.not_false, List.append_nil, Bool.and_self]); rfl) (by (repeat' (first | (refine And.intro ?_ ?_) | exact trivial | rfl | exact Nat.le_refl _ | exact (fun _ _ => rfl) | exact all_one (by rfl) | (simp only [Int.toNat_natCast, Nat.zero_add, Nat.add_zero]; done)))) ?_
    rintro v h' ⟨rfl, rfl⟩ hcaps
    refine ret_mk (by (try simp only [givesF, setF, updF, Fam.zeroth, Fam.rk, Ck.rk, C.rk, E.rk, T.rk, key, List.map_cons, List.map_nil, List.cons_append, List.nil_append, List.length_cons, List.length_nil, Option.map_some, Option.bind_some, Nat.reduceAdd, Nat.zero_add, Nat.add_zero, Nat.add_sub_cancel_left, Int.toNat_natCast, reps, List.all_cons, List.all_nil, C.flat, List.append_eq, Bool.not_true, Bool.and_true, Bool.or_false, Bool.or_self, Bool.not_false, List.append_nil, Bool.and_self]); rfl) (by (try simp only [givesF, setF, updF, Fam.zeroth, Fam.rk, Ck.rk, C.rk, E.rk, T.rk, key, List.map_cons, List.map_nil, List.cons_append, List.nil_append, List.length_cons, List.length_nil, Option.map_some, Option.bind_some, Nat.reduceAdd, Nat.zero_add, Nat.add_zero, Nat.add_sub_cancel_left, Int.toNat_natCast, reps, List.all_cons, List.all_nil, C.flat, List.append_eq, Bool.not_true, Bool.and_true, Bool.or_false, Bool.or_self, Bool.not_false, List.append_nil, Bool.and_self]); rfl) ?_
    have hqk : (qE life).keep = true := rfl
    have hql : (qE life).life = life := rfl
    repeat' (first
      | ((fail_if_success (with_reducible first | apply LoopK.mk | apply CallK.mk | apply FinK.mk | refine Exists.intro ?_ ?_)); first
        | ((with_reducible refine And.intro (fun (hb : _ = true) => ?_) (fun (hb : _ = false) => ?_)) <;> (try simp only [decide_eq_true_eq, decide_eq_false_iff_not, Bool.not_eq_true', Bool.not_eq_false', Bool.and_eq_true, Bool.and_eq_false_iff, Bool.or_eq_true, Bool.or_eq_false_iff, Bool.and_true, Int.not_lt, Int.not_le, not_true_eq_false, or_self, true_and, Bool.true_eq_false, Bool.false_eq_true, reduceCtorEq, not_false_eq_true, decide_true, decide_false, Int.toNat_natCast, Nat.zero_add] at hb) <;> (try (first | (exfalso; omega) | exact (Bool.false_ne_true (Eq.trans (Eq.symm hb) (by assumption))).elim | exact (Bool.false_ne_true (Eq.trans (Eq.symm (by assumption)) hb)).elim)))
        | (with_reducible refine Both.mk ?_ ?_)
        | ((with_reducible refine And.intro ?_ ?_); (focus (first | rfl | omega | (split <;> omega) | (refine ⟨?_, ?_, ?_⟩ <;> first | rfl | omega | (split <;> omega)) | assumption | (refine ⟨?_, ?_⟩ <;> omega) | (refine ⟨?_, ?_, ?_⟩ <;> omega) | (refine ⟨?_, ?_, ?_, ?_⟩ <;> omega) | (dsimp only [maxLen]; refine ⟨?_, ?_⟩ <;> omega) | (refine ⟨rfl, ?_⟩ <;> omega) | exact ⟨rfl, rfl⟩ | exact ⟨rfl, rfl, by omega⟩ | (simp only [Int.toNat_natCast, Nat.zero_add, Nat.add_zero]; first | omega | (refine ⟨?_, ?_⟩ <;> omega) | (refine ⟨?_, ?_, ?_⟩ <;> omega)))))
        | ((with_reducible refine Or.inl (And.intro ?_ (And.intro ?_ ?_))); (focus (rfl)); (focus (refine ⟨?_, ?_, ?_, ?_⟩ <;> first | rfl | omega)))
        | ((with_reducible refine Or.inr (Or.inl (And.intro ?_ ?_))); (focus (refine ⟨?_, ?_, ?_⟩ <;> first | rfl | omega)))
        | ((with_reducible refine Or.inr (Or.inr (Or.inl (And.intro ?_ ?_)))); (focus (refine ⟨?_, ?_, ?_, ?_, ?_⟩ <;> first | rfl | omega)))
        | ((with_reducible refine Or.inr (Or.inr (Or.inr (And.intro ?_ ?_)))); (focus (refine ⟨?_, ?_, ?_, ?_, ?_, ?_, ?_⟩ <;> first | rfl | omega)))
        | (with_reducible intro hc; (try simp only [capsP, and_true] at hc); (try (exfalso; omega)))
        | ((fail_if_success (with_reducible first | refine And.intro ?_ ?_ | refine Or.inl ?_ | intro _)); (conv => whnf); (fail_if_success (fail_if_success (with_reducible first | apply LoopK.mk | apply CallK.mk | apply FinK.mk | refine Exists.intro ?_ ?_ | refine Both.mk ?_ ?_ | refine And.intro ?_ ?_ | refine Or.inl ?_ | intro _))))))
    refine LoopK.mk' {p : Nat × List Smp × Nat × Nat × Nat // p.1 ≤ l.length ∧ p.1 ≤ 250 ∧ Inv p.2.1}
      (fun ⟨(k, L, c1, co, cr), _⟩ => ⟨[(0, .c (.i .i64 life)), (1, .c (.sl 0 0 4 0 l.length c)), (2, .c (.i .i64 at')), (8, .c (.p 1 0 0)), (10, .c (.sl 3 0 4 0 (gone (qE life) L at').length co)), (11, .c (.sl 4 0 4 0 (stay (qE life) L at').length cr)), (12, .c (.i .i64 k))],
        [.one (smps false l c), .one (hist 2 (qE life) L.length c1), .one (smps true L c1), .one (smps true (gone (qE life) L at') co), .one (smps true (stay (qE life) L at') cr)]⟩) (fun k => 250 - k.1.1)
      ⟨⟨(0, [], 0, 0, 0), Nat.zero_le _, Nat.zero_le _, Inv.nil⟩, [0, 2, 3, 9, 10], ?_⟩ ?_
    · (repeat' (first | (refine And.intro ?_ ?_) | exact trivial | rfl | exact Nat.le_refl _ | exact (fun _ _ => rfl) | exact all_one (by rfl) | (simp only [Int.toNat_natCast, Nat.zero_add, Nat.add_zero]; done)))
    rintro ⟨⟨k, L, c1, co, cr⟩, hk, hk4, hi⟩
    simp only at hk hk4 hi
    have hl : L.length ≤ 1000000 := Nat.le_trans hi.len (by omega)
    have hgl : (gone (qE life) L at').length ≤ 1000000 := Nat.le_trans (List.length_filter_le _ _) hl
    have hsl : (stay (qE life) L at').length ≤ 1000000 := Nat.le_trans (List.length_filter_le _ _) hl
    repeat' (first
      | ((fail_if_success (with_reducible first | apply LoopK.mk | apply CallK.mk | apply FinK.mk | refine Exists.intro ?_ ?_)); first
        | ((with_reducible refine And.intro (fun (hb : _ = true) => ?_) (fun (hb : _ = false) => ?_)) <;> (try simp only [decide_eq_true_eq, decide_eq_false_iff_not, Bool.not_eq_true', Bool.not_eq_false', Bool.and_eq_true, Bool.and_eq_false_iff, Bool.or_eq_true, Bool.or_eq_false_iff, Bool.and_true, Int.not_lt, Int.not_le, not_true_eq_false, or_self, true_and, Bool.true_eq_false, Bool.false_eq_true, reduceCtorEq, not_false_eq_true, decide_true, decide_false, Int.toNat_natCast, Nat.zero_add] at hb) <;> (try (first | (exfalso; omega) | exact (Bool.false_ne_true (Eq.trans (Eq.symm hb) (by assumption))).elim | exact (Bool.false_ne_true (Eq.trans (Eq.symm (by assumption)) hb)).elim)))
        | (with_reducible refine Both.mk ?_ ?_)
        | ((with_reducible refine And.intro ?_ ?_); (focus (first | rfl | omega | (split <;> omega) | (refine ⟨?_, ?_, ?_⟩ <;> first | rfl | omega | (split <;> omega)) | assumption | (refine ⟨?_, ?_⟩ <;> omega) | (refine ⟨?_, ?_, ?_⟩ <;> omega) | (refine ⟨?_, ?_, ?_, ?_⟩ <;> omega) | (dsimp only [maxLen]; refine ⟨?_, ?_⟩ <;> omega) | (refine ⟨rfl, ?_⟩ <;> omega) | exact ⟨rfl, rfl⟩ | exact ⟨rfl, rfl, by omega⟩ | (simp only [Int.toNat_natCast, Nat.zero_add, Nat.add_zero]; first | omega | (refine ⟨?_, ?_⟩ <;> omega) | (refine ⟨?_, ?_, ?_⟩ <;> omega)))))
        | ((with_reducible refine Or.inl (And.intro ?_ (And.intro ?_ ?_))); (focus (rfl)); (focus (refine ⟨?_, ?_, ?_, ?_⟩ <;> first | rfl | omega)))
        | ((with_reducible refine Or.inr (Or.inl (And.intro ?_ ?_))); (focus (refine ⟨?_, ?_, ?_⟩ <;> first | rfl | omega)))
        | ((with_reducible refine Or.inr (Or.inr (Or.inl (And.intro ?_ ?_)))); (focus (refine ⟨?_, ?_, ?_, ?_, ?_⟩ <;> first | rfl | omega)))
        | ((with_reducible refine Or.inr (Or.inr (Or.inr (And.intro ?_ ?_)))); (focus (refine ⟨?_, ?_, ?_, ?_, ?_, ?_, ?_⟩ <;> first | rfl | omega)))
        | (with_reducible intro hc; (try simp only [capsP, and_true] at hc); (try (exfalso; omega)))
        | ((fail_if_success (with_reducible first | refine And.intro ?_ ?_ | refine Or.inl ?_ | intro _)); (conv => whnf); (fail_if_success (fail_if_success (with_reducible first | apply LoopK.mk | apply CallK.mk | apply FinK.mk | refine Exists.intro ?_ ?_ | refine Both.mk ?_ ?_ | refine And.intro ?_ ?_ | refine Or.inl ?_ | intro _))))))
    · refine CallK.mk2 (σ := [.whole 1, .whole 2]) (nl := []) (iadd (qE life) L c1 (l.getD k default) hl) rfl rfl (by (try simp only [givesF, setF, updF, Fam.zeroth, Fam.rk, Ck.rk, C.rk, E.rk, T.rk, key, List.map_cons, List.map_nil, List.cons_append, List.nil_append, List.length_cons, List.length_nil, Option.map_some, Option.bind_some, Nat.reduceAdd, Nat.zero_add, Nat.add_zero, Nat.add_sub_cancel_left, Int.toNat_natCast, reps, List.all_cons, List.all_nil, C.flat, List.append_eq, Bool.not_true, Bool.and_true, Bool.or_false, Bool.or_self, Bool.not_false, List.append_nil, Bool.and_self]); rfl) (by (repeat' (first | (refine And.intro ?_ ?_) | exact trivial | rfl | exact Nat.le_refl _ | exact (fun _ _ => rfl) | exact all_one (by rfl) | (simp only [Int.toNat_natCast, Nat.zero_add, Nat.add_zero]; done)))) ?_
      rintro v h' ⟨c2, c3, rfl, rfl⟩ hcaps
      have hz : addE (qE life) L (l.getD k default) = 0 → 0 ≤ (l.getD k default).t ∧ (l.getD k default).t ≤ 1099511627776 := fun h => by have := (add_zero h).1; omega
      refine ret_mk (by (try simp only [givesF, setF, updF, Fam.zeroth, Fam.rk, Ck.rk, C.rk, E.rk, T.rk, key, List.map_cons, List.map_nil, List.cons_append, List.nil_append, List.length_cons, List.length_nil, Option.map_some, Option.bind_some, Nat.reduceAdd, Nat.zero_add, Nat.add_zero, Nat.add_sub_cancel_left, Int.toNat_natCast, reps, List.all_cons, List.all_nil, C.flat, List.append_eq, Bool.not_true, Bool.and_true, Bool.or_false, Bool.or_self, Bool.not_false, List.append_nil, Bool.and_self]); rfl) (by (try simp only [givesF, setF, updF, Fam.zeroth, Fam.rk, Ck.rk, C.rk, E.rk, T.rk, key, List.map_cons, List.map_nil, List.cons_append, List.nil_append, List.length_cons, List.length_nil, Option.map_some, Option.bind_some, Nat.reduceAdd, Nat.zero_add, Nat.add_zero, Nat.add_sub_cancel_left, Int.toNat_natCast, reps, List.all_cons, List.all_nil, C.flat, List.append_eq, Bool.not_true, Bool.and_true, Bool.or_false, Bool.or_self, Bool.not_false, List.append_nil, Bool.and_self]); rfl) ?_
      repeat' (first
        | ((fail_if_success (with_reducible first | apply LoopK.mk | apply CallK.mk | apply FinK.mk | refine Exists.intro ?_ ?_)); first
          | ((with_reducible refine And.intro (fun (hb : _ = true) => ?_) (fun (hb : _ = false) => ?_)) <;> (try simp only [decide_eq_true_eq, decide_eq_false_iff_not, Bool.not_eq_true', Bool.not_eq_false', Bool.and_eq_true, Bool.and_eq_false_iff, Bool.or_eq_true, Bool.or_eq_false_iff, Bool.and_true, Int.not_lt, Int.not_le, not_true_eq_false, or_self, true_and, Bool.true_eq_false, Bool.false_eq_true, reduceCtorEq, not_false_eq_true, decide_true, decide_false, Int.toNat_natCast, Nat.zero_add] at hb) <;> (try (first | (exfalso; omega) | exact (Bool.false_ne_true (Eq.trans (Eq.symm hb) (by assumption))).elim | exact (Bool.false_ne_true (Eq.trans (Eq.symm (by assumption)) hb)).elim)))
          | (with_reducible refine Both.mk ?_ ?_)
          | ((with_reducible refine And.intro ?_ ?_); (focus (first | rfl | omega | (split <;> omega) | (refine ⟨?_, ?_, ?_⟩ <;> first | rfl | omega | (split <;> omega)) | assumption | (refine ⟨?_, ?_⟩ <;> omega) | (refine ⟨?_, ?_, ?_⟩ <;> omega) | (refine ⟨?_, ?_, ?_, ?_⟩ <;> omega) | (dsimp only [maxLen]; refine ⟨?_, ?_⟩ <;> omega) | (refine ⟨rfl, ?_⟩ <;> omega) | exact ⟨rfl, rfl⟩ | exact ⟨rfl, rfl, by omega⟩ | (simp only [Int.toNat_natCast, Nat.zero_add, Nat.add_zero]; first | omega | (refine ⟨?_, ?_⟩ <;> omega) | (refine ⟨?_, ?_, ?_⟩ <;> omega)))))
          | ((with_reducible refine Or.inl (And.intro ?_ (And.intro ?_ ?_))); (focus (rfl)); (focus (refine ⟨?_, ?_, ?_, ?_⟩ <;> first | rfl | omega)))
          | ((with_reducible refine Or.inr (Or.inl (And.intro ?_ ?_))); (focus (refine ⟨?_, ?_, ?_⟩ <;> first | rfl | omega)))
          | ((with_reducible refine Or.inr (Or.inr (Or.inl (And.intro ?_ ?_)))); (focus (refine ⟨?_, ?_, ?_, ?_, ?_⟩ <;> first | rfl | omega)))
          | ((with_reducible refine Or.inr (Or.inr (Or.inr (And.intro ?_ ?_)))); (focus (refine ⟨?_, ?_, ?_, ?_, ?_, ?_, ?_⟩ <;> first | rfl | omega)))
          | (with_reducible intro hc; (try simp only [capsP, and_true] at hc); (try (exfalso; omega)))
          | ((fail_if_success (with_reducible first | refine And.intro ?_ ?_ | refine Or.inl ?_ | intro _)); (conv => whnf); (fail_if_success (fail_if_success (with_reducible first | apply LoopK.mk | apply CallK.mk | apply FinK.mk | refine Exists.intro ?_ ?_ | refine Both.mk ?_ ?_ | refine And.intro ?_ ?_ | refine Or.inl ?_ | intro _))))))
      · obtain ⟨e1, e2⟩ := add_err ‹¬ addE (qE life) L (l.getD k default) = 0›
        rw [e1]
        refine ⟨⟨(k + 1, L, c3, co, cr), by simp only; omega, by simp only; omega, hi⟩, [0, 1, 5, 3, 4], by simp only; omega, ?_⟩
        (repeat' (first | (refine And.intro ?_ ?_) | exact trivial | rfl | exact Nat.le_refl _ | exact (fun _ _ => rfl) | exact all_one (by rfl) | (simp only [Int.toNat_natCast, Nat.zero_add, Nat.add_zero]; done)))
      · have e1 := new_keep hqk ‹addE (qE life) L (l.getD k default) = 0›
        have e2 := (gone_app (qE life) L (l.getD k default) at').1 (decide_eq_true (by rw [hql]; omega))
        rename Nat => c4
        rw [e1]
        refine ⟨⟨(k + 1, L ++ [l.getD k default], c3, c4, cr), by simp only; omega, by simp only; omega, e1 ▸ hi.add _⟩, [0, 1, 5, 8, 4], by simp only; omega, ?_⟩
        simp only [e2.1, e2.2]
        (repeat' (first | (refine And.intro ?_ ?_) | exact trivial | rfl | exact Nat.le_refl _ | exact (fun _ _ => rfl) | exact all_one (by rfl) | (simp only [Int.toNat_natCast, Nat.zero_add, Nat.add_zero]; done)))
        all_goals first | omega | (simp only [List.length_append, List.length_singleton]; done) | (rw [List.length_append, List.length_singleton]; omega) | (intro i hi; refine app_row _ _ _ ?_ i hi; first | rfl | (simp only [Int.toNat_natCast, Nat.zero_add]; rfl))
      all_goals (
        have e1 := new_keep hqk ‹addE (qE life) L (l.getD k default) = 0›
        have e2 := (gone_app (qE life) L (l.getD k default) at').2 (decide_eq_false (by rw [hql]; omega))
        rename Nat => c4
        rw [e1]
        refine ⟨⟨(k + 1, L ++ [l.getD k default], c3, co, c4), by simp only; omega, by simp only; omega, e1 ▸ hi.add _⟩, [0, 1, 5, 3, 8], by simp only; omega, ?_⟩
        simp only [e2.1, e2.2]
        (repeat' (first | (refine And.intro ?_ ?_) | exact trivial | rfl | exact Nat.le_refl _ | exact (fun _ _ => rfl) | exact all_one (by rfl) | (simp only [Int.toNat_natCast, Nat.zero_add, Nat.add_zero]; done)))
        all_goals first | omega | (simp only [List.length_append, List.length_singleton]; done) | (rw [List.length_append, List.length_singleton]; omega) | (intro i hi; refine app_row _ _ _ ?_ i hi; first | rfl | (simp only [Int.toNat_natCast, Nat.zero_add]; rfl)))
    all_goals (
      refine CallK.mk2 (σ := [.whole 1, .whole 2]) (nl := []) (iexpire (qE life) L c1 at' hl hi.tm hlife) rfl rfl (by (try simp only [givesF, setF, updF, Fam.zeroth, Fam.rk, Ck.rk, C.rk, E.rk, T.rk, key, List.map_cons, List.map_nil, List.cons_append, List.nil_append, List.length_cons, List.length_nil, Option.map_some, Option.bind_some, Nat.reduceAdd, Nat.zero_add, Nat.add_zero, Nat.add_sub_cancel_left, Int.toNat_natCast, reps, List.all_cons, List.all_nil, C.flat, List.append_eq, Bool.not_true, Bool.and_true, Bool.or_false, Bool.or_self, Bool.not_false, List.append_nil, Bool.and_self]); rfl) (by (repeat' (first | (refine And.intro ?_ ?_) | exact trivial | rfl | exact Nat.le_refl _ | exact (fun _ _ => rfl) | exact all_one (by rfl) | (simp only [Int.toNat_natCast, Nat.zero_add, Nat.add_zero]; done)))) ?_
      rintro v h' ⟨cg, cs, rfl, rfl⟩ hcaps
      refine ret_mk (by (try simp only [givesF, setF, updF, Fam.zeroth, Fam.rk, Ck.rk, C.rk, E.rk, T.rk, key, List.map_cons, List.map_nil, List.cons_append, List.nil_append, List.length_cons, List.length_nil, Option.map_some, Option.bind_some, Nat.reduceAdd, Nat.zero_add, Nat.add_zero, Nat.add_sub_cancel_left, Int.toNat_natCast, reps, List.all_cons, List.all_nil, C.flat, List.append_eq, Bool.not_true, Bool.and_true, Bool.or_false, Bool.or_self, Bool.not_false, List.append_nil, Bool.and_self]); rfl) (by (try simp only [givesF, setF, updF, Fam.zeroth, Fam.rk, Ck.rk, C.rk, E.rk, T.rk, key, List.map_cons, List.map_nil, List.cons_append, List.nil_append, List.length_cons, List.length_nil, Option.map_some, Option.bind_some, Nat.reduceAdd, Nat.zero_add, Nat.add_zero, Nat.add_sub_cancel_left, Int.toNat_natCast, reps, List.all_cons, List.all_nil, C.flat, List.append_eq, Bool.not_true, Bool.and_true, Bool.or_false, Bool.or_self, Bool.not_false, List.append_nil, Bool.and_self]); rfl) ?_
      repeat' (first
        | ((fail_if_success (with_reducible first | apply LoopK.mk | apply CallK.mk | apply FinK.mk | refine Exists.intro ?_ ?_)); first
          | ((with_reducible refine And.intro (fun (hb : _ = true) => ?_) (fun (hb : _ = false) => ?_)) <;> (try simp only [decide_eq_true_eq, decide_eq_false_iff_not, Bool.not_eq_true', Bool.not_eq_false', Bool.and_eq_true, Bool.and_eq_false_iff, Bool.or_eq_true, Bool.or_eq_false_iff, Bool.and_true, Int.not_lt, Int.not_le, not_true_eq_false, or_self, true_and, Bool.true_eq_false, Bool.false_eq_true, reduceCtorEq, not_false_eq_true, decide_true, decide_false, Int.toNat_natCast, Nat.zero_add] at hb) <;> (try (first | (exfalso; omega) | exact (Bool.false_ne_true (Eq.trans (Eq.symm hb) (by assumption))).elim | exact (Bool.false_ne_true (Eq.trans (Eq.symm (by assumption)) hb)).elim)))
          | (with_reducible refine Both.mk ?_ ?_)
          | ((with_reducible refine And.intro ?_ ?_); (focus (first | rfl | omega | (split <;> omega) | (refine ⟨?_, ?_, ?_⟩ <;> first | rfl | omega | (split <;> omega)) | assumption | (refine ⟨?_, ?_⟩ <;> omega) | (refine ⟨?_, ?_, ?_⟩ <;> omega) | (refine ⟨?_, ?_, ?_, ?_⟩ <;> omega) | (dsimp only [maxLen]; refine ⟨?_, ?_⟩ <;> omega) | (refine ⟨rfl, ?_⟩ <;> omega) | exact ⟨rfl, rfl⟩ | exact ⟨rfl, rfl, by omega⟩ | (simp only [Int.toNat_natCast, Nat.zero_add, Nat.add_zero]; first | omega | (refine ⟨?_, ?_⟩ <;> omega) | (refine ⟨?_, ?_, ?_⟩ <;> omega)))))
          | ((with_reducible refine Or.inl (And.intro ?_ (And.intro ?_ ?_))); (focus (rfl)); (focus (refine ⟨?_, ?_, ?_, ?_⟩ <;> first | rfl | omega)))
          | ((with_reducible refine Or.inr (Or.inl (And.intro ?_ ?_))); (focus (refine ⟨?_, ?_, ?_⟩ <;> first | rfl | omega)))
          | ((with_reducible refine Or.inr (Or.inr (Or.inl (And.intro ?_ ?_)))); (focus (refine ⟨?_, ?_, ?_, ?_, ?_⟩ <;> first | rfl | omega)))
          | ((with_reducible refine Or.inr (Or.inr (Or.inr (And.intro ?_ ?_)))); (focus (refine ⟨?_, ?_, ?_, ?_, ?_, ?_, ?_⟩ <;> first | rfl | omega)))
          | (with_reducible intro hc; (try simp only [capsP, and_true] at hc); (try (exfalso; omega)))
          | ((fail_if_success (with_reducible first | refine And.intro ?_ ?_ | refine Or.inl ?_ | intro _)); (conv => whnf); (fail_if_success (fail_if_success (with_reducible first | apply LoopK.mk | apply CallK.mk | apply FinK.mk | refine Exists.intro ?_ ?_ | refine Both.mk ?_ ?_ | refine And.intro ?_ ?_ | refine Or.inl ?_ | intro _))))))
      refine CallK.mk2 (σ := [.whole 6, .whole 3]) (nl := []) (rsameT cg co true true (gone (qE life) L at') hgl) rfl rfl (by (try simp only [givesF, setF, updF, Fam.zeroth, Fam.rk, Ck.rk, C.rk, E.rk, T.rk, key, List.map_cons, List.map_nil, List.cons_append, List.nil_append, List.length_cons, List.length_nil, Option.map_some, Option.bind_some, Nat.reduceAdd, Nat.zero_add, Nat.add_zero, Nat.add_sub_cancel_left, Int.toNat_natCast, reps, List.all_cons, List.all_nil, C.flat, List.append_eq, Bool.not_true, Bool.and_true, Bool.or_false, Bool.or_self, Bool.not_false, List.append_nil, Bool.and_self]); rfl) (by (repeat' (first | (refine And.intro ?_ ?_) | exact trivial | rfl | exact Nat.le_refl _ | exact (fun _ _ => rfl) | exact all_one (by rfl) | (simp only [Int.toNat_natCast, Nat.zero_add, Nat.add_zero]; done)))) ?_
      rintro v h' ⟨rfl, rfl⟩ hcaps
      refine ret_mk (by (try simp only [givesF, setF, updF, Fam.zeroth, Fam.rk, Ck.rk, C.rk, E.rk, T.rk, key, List.map_cons, List.map_nil, List.cons_append, List.nil_append, List.length_cons, List.length_nil, Option.map_some, Option.bind_some, Nat.reduceAdd, Nat.zero_add, Nat.add_zero, Nat.add_sub_cancel_left, Int.toNat_natCast, reps, List.all_cons, List.all_nil, C.flat, List.append_eq, Bool.not_true, Bool.and_true, Bool.or_false, Bool.or_self, Bool.not_false, List.append_nil, Bool.and_self]); rfl) (by (try simp only [givesF, setF, updF, Fam.zeroth, Fam.rk, Ck.rk, C.rk, E.rk, T.rk, key, List.map_cons, List.map_nil, List.cons_append, List.nil_append, List.length_cons, List.length_nil, Option.map_some, Option.bind_some, Nat.reduceAdd, Nat.zero_add, Nat.add_zero, Nat.add_sub_cancel_left, Int.toNat_natCast, reps, List.all_cons, List.all_nil, C.flat, List.append_eq, Bool.not_true, Bool.and_true, Bool.or_false, Bool.or_self, Bool.not_false, List.append_nil, Bool.and_self]); rfl) ?_
      repeat' (first
        | ((fail_if_success (with_reducible first | apply LoopK.mk | apply CallK.mk | apply FinK.mk | refine Exists.intro ?_ ?_)); first
          | ((with_reducible refine And.intro (fun (hb : _ = true) => ?_) (fun (hb : _ = false) => ?_)) <;> (try simp only [decide_eq_true_eq, decide_eq_false_iff_not, Bool.not_eq_true', Bool.not_eq_false', Bool.and_eq_true, Bool.and_eq_false_iff, Bool.or_eq_true, Bool.or_eq_false_iff, Bool.and_true, Int.not_lt, Int.not_le, not_true_eq_false, or_self, true_and, Bool.true_eq_false, Bool.false_eq_true, reduceCtorEq, not_false_eq_true, decide_true, decide_false, Int.toNat_natCast, Nat.zero_add] at hb) <;> (try (first | (exfalso; omega) | exact (Bool.false_ne_true (Eq.trans (Eq.symm hb) (by assumption))).elim | exact (Bool.false_ne_true (Eq.trans (Eq.symm (by assumption)) hb)).elim)))
          | (with_reducible refine Both.mk ?_ ?_)
          | ((with_reducible refine And.intro ?_ ?_); (focus (first | rfl | omega | (split <;> omega) | (refine ⟨?_, ?_, ?_⟩ <;> first | rfl | omega | (split <;> omega)) | assumption | (refine ⟨?_, ?_⟩ <;> omega) | (refine ⟨?_, ?_, ?_⟩ <;> omega) | (refine ⟨?_, ?_, ?_, ?_⟩ <;> omega) | (dsimp only [maxLen]; refine ⟨?_, ?_⟩ <;> omega) | (refine ⟨rfl, ?_⟩ <;> omega) | exact ⟨rfl, rfl⟩ | exact ⟨rfl, rfl, by omega⟩ | (simp only [Int.toNat_natCast, Nat.zero_add, Nat.add_zero]; first | omega | (refine ⟨?_, ?_⟩ <;> omega) | (refine ⟨?_, ?_, ?_⟩ <;> omega)))))
          | ((with_reducible refine Or.inl (And.intro ?_ (And.intro ?_ ?_))); (focus (rfl)); (focus (refine ⟨?_, ?_, ?_, ?_⟩ <;> first | rfl | omega)))
          | ((with_reducible refine Or.inr (Or.inl (And.intro ?_ ?_))); (focus (refine ⟨?_, ?_, ?_⟩ <;> first | rfl | omega)))
          | ((with_reducible refine Or.inr (Or.inr (Or.inl (And.intro ?_ ?_)))); (focus (refine ⟨?_, ?_, ?_, ?_, ?_⟩ <;> first | rfl | omega)))
          | ((with_reducible refine Or.inr (Or.inr (Or.inr (And.intro ?_ ?_)))); (focus (refine ⟨?_, ?_, ?_, ?_, ?_, ?_, ?_⟩ <;> first | rfl | omega)))
          | (with_reducible intro hc; (try simp only [capsP, and_true] at hc); (try (exfalso; omega)))
          | ((fail_if_success (with_reducible first | refine And.intro ?_ ?_ | refine Or.inl ?_ | intro _)); (conv => whnf); (fail_if_success (fail_if_success (with_reducible first | apply LoopK.mk | apply CallK.mk | apply FinK.mk | refine Exists.intro ?_ ?_ | refine Both.mk ?_ ?_ | refine And.intro ?_ ?_ | refine Or.inl ?_ | intro _))))))
      refine CallK.mk2 (σ := [.whole 1, .whole 5]) (nl := []) (ilist (qE life) (stay (qE life) L at') cs hsl) rfl rfl (by (try simp only [givesF, setF, updF, Fam.zeroth, Fam.rk, Ck.rk, C.rk, E.rk, T.rk, key, List.map_cons, List.map_nil, List.cons_append, List.nil_append, List.length_cons, List.length_nil, Option.map_some, Option.bind_some, Nat.reduceAdd, Nat.zero_add, Nat.add_zero, Nat.add_sub_cancel_left, Int.toNat_natCast, reps, List.all_cons, List.all_nil, C.flat, List.append_eq, Bool.not_true, Bool.and_true, Bool.or_false, Bool.or_self, Bool.not_false, List.append_nil, Bool.and_self]); rfl) (by (repeat' (first | (refine And.intro ?_ ?_) | exact trivial | rfl | exact Nat.le_refl _ | exact (fun _ _ => rfl) | exact all_one (by rfl) | (simp only [Int.toNat_natCast, Nat.zero_add, Nat.add_zero]; done)))) ?_
      rintro v h' ⟨cl, rfl, rfl⟩ hcaps
      refine ret_mk (by (try simp only [givesF, setF, updF, Fam.zeroth, Fam.rk, Ck.rk, C.rk, E.rk, T.rk, key, List.map_cons, List.map_nil, List.cons_append, List.nil_append, List.length_cons, List.length_nil, Option.map_some, Option.bind_some, Nat.reduceAdd, Nat.zero_add, Nat.add_zero, Nat.add_sub_cancel_left, Int.toNat_natCast, reps, List.all_cons, List.all_nil, C.flat, List.append_eq, Bool.not_true, Bool.and_true, Bool.or_false, Bool.or_self, Bool.not_false, List.append_nil, Bool.and_self]); rfl) (by (try simp only [givesF, setF, updF, Fam.zeroth, Fam.rk, Ck.rk, C.rk, E.rk, T.rk, key, List.map_cons, List.map_nil, List.cons_append, List.nil_append, List.length_cons, List.length_nil, Option.map_some, Option.bind_some, Nat.reduceAdd, Nat.zero_add, Nat.add_zero, Nat.add_sub_cancel_left, Int.toNat_natCast, reps, List.all_cons, List.all_nil, C.flat, List.append_eq, Bool.not_true, Bool.and_true, Bool.or_false, Bool.or_self, Bool.not_false, List.append_nil, Bool.and_self]); rfl) ?_
      repeat' (first
        | ((fail_if_success (with_reducible first | apply LoopK.mk | apply CallK.mk | apply FinK.mk | refine Exists.intro ?_ ?_)); first
          | ((with_reducible refine And.intro (fun (hb : _ = true) => ?_) (fun (hb : _ = false) => ?_)) <;> (try simp only [decide_eq_true_eq, decide_eq_false_iff_not, Bool.not_eq_true', Bool.not_eq_false', Bool.and_eq_true, Bool.and_eq_false_iff, Bool.or_eq_true, Bool.or_eq_false_iff, Bool.and_true, Int.not_lt, Int.not_le, not_true_eq_false, or_self, true_and, Bool.true_eq_false, Bool.false_eq_true, reduceCtorEq, not_false_eq_true, decide_true, decide_false, Int.toNat_natCast, Nat.zero_add] at hb) <;> (try (first | (exfalso; omega) | exact (Bool.false_ne_true (Eq.trans (Eq.symm hb) (by assumption))).elim | exact (Bool.false_ne_true (Eq.trans (Eq.symm (by assumption)) hb)).elim)))
          | (with_reducible refine Both.mk ?_ ?_)
          | ((with_reducible refine And.intro ?_ ?_); (focus (first | rfl | omega | (split <;> omega) | (refine ⟨?_, ?_, ?_⟩ <;> first | rfl | omega | (split <;> omega)) | assumption | (refine ⟨?_, ?_⟩ <;> omega) | (refine ⟨?_, ?_, ?_⟩ <;> omega) | (refine ⟨?_, ?_, ?_, ?_⟩ <;> omega) | (dsimp only [maxLen]; refine ⟨?_, ?_⟩ <;> omega) | (refine ⟨rfl, ?_⟩ <;> omega) | exact ⟨rfl, rfl⟩ | exact ⟨rfl, rfl, by omega⟩ | (simp only [Int.toNat_natCast, Nat.zero_add, Nat.add_zero]; first | omega | (refine ⟨?_, ?_⟩ <;> omega) | (refine ⟨?_, ?_, ?_⟩ <;> omega)))))
          | ((with_reducible refine Or.inl (And.intro ?_ (And.intro ?_ ?_))); (focus (rfl)); (focus (refine ⟨?_, ?_, ?_, ?_⟩ <;> first | rfl | omega)))
          | ((with_reducible refine Or.inr (Or.inl (And.intro ?_ ?_))); (focus (refine ⟨?_, ?_, ?_⟩ <;> first | rfl | omega)))
          | ((with_reducible refine Or.inr (Or.inr (Or.inl (And.intro ?_ ?_)))); (focus (refine ⟨?_, ?_, ?_, ?_, ?_⟩ <;> first | rfl | omega)))
          | ((with_reducible refine Or.inr (Or.inr (Or.inr (And.intro ?_ ?_)))); (focus (refine ⟨?_, ?_, ?_, ?_, ?_, ?_, ?_⟩ <;> first | rfl | omega)))
          | (with_reducible intro hc; (try simp only [capsP, and_true] at hc); (try (exfalso; omega)))
          | ((fail_if_success (with_reducible first | refine And.intro ?_ ?_ | refine Or.inl ?_ | intro _)); (conv => whnf); (fail_if_success (fail_if_success (with_reducible first | apply LoopK.mk | apply CallK.mk | apply FinK.mk | refine Exists.intro ?_ ?_ | refine Both.mk ?_ ?_ | refine And.intro ?_ ?_ | refine Or.inl ?_ | intro _))))))
      refine CallK.mk2 (σ := [.whole 7, .whole 4]) (nl := []) (rsameT cl cr true true (stay (qE life) L at') hsl) rfl rfl (by (try simp only [givesF, setF, updF, Fam.zeroth, Fam.rk, Ck.rk, C.rk, E.rk, T.rk, key, List.map_cons, List.map_nil, List.cons_append, List.nil_append, List.length_cons, List.length_nil, Option.map_some, Option.bind_some, Nat.reduceAdd, Nat.zero_add, Nat.add_zero, Nat.add_sub_cancel_left, Int.toNat_natCast, reps, List.all_cons, List.all_nil, C.flat, List.append_eq, Bool.not_true, Bool.and_true, Bool.or_false, Bool.or_self, Bool.not_false, List.append_nil, Bool.and_self]); rfl) (by (repeat' (first | (refine And.intro ?_ ?_) | exact trivial | rfl | exact Nat.le_refl _ | exact (fun _ _ => rfl) | exact all_one (by rfl) | (simp only [Int.toNat_natCast, Nat.zero_add, Nat.add_zero]; done)))) ?_
      rintro v h' ⟨rfl, rfl⟩ hcaps
      refine ret_mk (by (try simp only [givesF, setF, updF, Fam.zeroth, Fam.rk, Ck.rk, C.rk, E.rk, T.rk, key, List.map_cons, List.map_nil, List.cons_append, List.nil_append, List.length_cons, List.length_nil, Option.map_some, Option.bind_some, Nat.reduceAdd, Nat.zero_add, Nat.add_zero, Nat.add_sub_cancel_left, Int.toNat_natCast, reps, List.all_cons, List.all_nil, C.flat, List.append_eq, Bool.not_true, Bool.and_true, Bool.or_false, Bool.or_self, Bool.not_false, List.append_nil, Bool.and_self]); rfl) (by (try simp only [givesF, setF, updF, Fam.zeroth, Fam.rk, Ck.rk, C.rk, E.rk, T.rk, key, List.map_cons, List.map_nil, List.cons_append, List.nil_append, List.length_cons, List.length_nil, Option.map_some, Option.bind_some, Nat.reduceAdd, Nat.zero_add, Nat.add_zero, Nat.add_sub_cancel_left, Int.toNat_natCast, reps, List.all_cons, List.all_nil, C.flat, List.append_eq, Bool.not_true, Bool.and_true, Bool.or_false, Bool.or_self, Bool.not_false, List.append_nil, Bool.and_self]); rfl) ?_
      repeat' (first
        | ((fail_if_success (with_reducible first | apply LoopK.mk | apply CallK.mk | apply FinK.mk | refine Exists.intro ?_ ?_)); first
          | ((with_reducible refine And.intro (fun (hb : _ = true) => ?_) (fun (hb : _ = false) => ?_)) <;> (try simp only [decide_eq_true_eq, decide_eq_false_iff_not, Bool.not_eq_true', Bool.not_eq_false', Bool.and_eq_true, Bool.and_eq_false_iff, Bool.or_eq_true, Bool.or_eq_false_iff, Bool.and_true, Int.not_lt, Int.not_le, not_true_eq_false, or_self, true_and, Bool.true_eq_false, Bool.false_eq_true, reduceCtorEq, not_false_eq_true, decide_true, decide_false, Int.toNat_natCast, Nat.zero_add] at hb) <;> (try (first | (exfalso; omega) | exact (Bool.false_ne_true (Eq.trans (Eq.symm hb) (by assumption))).elim | exact (Bool.false_ne_true (Eq.trans (Eq.symm (by assumption)) hb)).elim)))
          | (with_reducible refine Both.mk ?_ ?_)
          | ((with_reducible refine And.intro ?_ ?_); (focus (first | rfl | omega | (split <;> omega) | (refine ⟨?_, ?_, ?_⟩ <;> first | rfl | omega | (split <;> omega)) | assumption | (refine ⟨?_, ?_⟩ <;> omega) | (refine ⟨?_, ?_, ?_⟩ <;> omega) | (refine ⟨?_, ?_, ?_, ?_⟩ <;> omega) | (dsimp only [maxLen]; refine ⟨?_, ?_⟩ <;> omega) | (refine ⟨rfl, ?_⟩ <;> omega) | exact ⟨rfl, rfl⟩ | exact ⟨rfl, rfl, by omega⟩ | (simp only [Int.toNat_natCast, Nat.zero_add, Nat.add_zero]; first | omega | (refine ⟨?_, ?_⟩ <;> omega) | (refine ⟨?_, ?_, ?_⟩ <;> omega)))))
          | ((with_reducible refine Or.inl (And.intro ?_ (And.intro ?_ ?_))); (focus (rfl)); (focus (refine ⟨?_, ?_, ?_, ?_⟩ <;> first | rfl | omega)))
          | ((with_reducible refine Or.inr (Or.inl (And.intro ?_ ?_))); (focus (refine ⟨?_, ?_, ?_⟩ <;> first | rfl | omega)))
          | ((with_reducible refine Or.inr (Or.inr (Or.inl (And.intro ?_ ?_)))); (focus (refine ⟨?_, ?_, ?_, ?_, ?_⟩ <;> first | rfl | omega)))
          | ((with_reducible refine Or.inr (Or.inr (Or.inr (And.intro ?_ ?_)))); (focus (refine ⟨?_, ?_, ?_, ?_, ?_, ?_, ?_⟩ <;> first | rfl | omega)))
          | (with_reducible intro hc; (try simp only [capsP, and_true] at hc); (try (exfalso; omega)))
          | ((fail_if_success (with_reducible first | refine And.intro ?_ ?_ | refine Or.inl ?_ | intro _)); (conv => whnf); (fail_if_success (fail_if_success (with_reducible first | apply LoopK.mk | apply CallK.mk | apply FinK.mk | refine Exists.intro ?_ ?_ | refine Both.mk ?_ ?_ | refine And.intro ?_ ?_ | refine Or.inl ?_ | intro _))))))
      refine CallK.mk2 (σ := [.whole 1, .whole 5]) (nl := []) (iexpire (qE life) (stay (qE life) L at') cs at' hsl (fun x hx => hi.tm x (List.mem_filter.1 hx).1) hlife) rfl rfl (by (try simp only [givesF, setF, updF, Fam.zeroth, Fam.rk, Ck.rk, C.rk, E.rk, T.rk, key, List.map_cons, List.map_nil, List.cons_append, List.nil_append, List.length_cons, List.length_nil, Option.map_some, Option.bind_some, Nat.reduceAdd, Nat.zero_add, Nat.add_zero, Nat.add_sub_cancel_left, Int.toNat_natCast, reps, List.all_cons, List.all_nil, C.flat, List.append_eq, Bool.not_true, Bool.and_true, Bool.or_false, Bool.or_self, Bool.not_false, List.append_nil, Bool.and_self]); rfl) (by (repeat' (first | (refine And.intro ?_ ?_) | exact trivial | rfl | exact Nat.le_refl _ | exact (fun _ _ => rfl) | exact all_one (by rfl) | (simp only [Int.toNat_natCast, Nat.zero_add, Nat.add_zero]; done)))) ?_
      rintro v h' ⟨cg2, cs2, rfl, rfl⟩ hcaps
      rw [gone_stay]
      refine ret_mk (by (try simp only [givesF, setF, updF, Fam.zeroth, Fam.rk, Ck.rk, C.rk, E.rk, T.rk, key, List.map_cons, List.map_nil, List.cons_append, List.nil_append, List.length_cons, List.length_nil, Option.map_some, Option.bind_some, Nat.reduceAdd, Nat.zero_add, Nat.add_zero, Nat.add_sub_cancel_left, Int.toNat_natCast, reps, List.all_cons, List.all_nil, C.flat, List.append_eq, Bool.not_true, Bool.and_true, Bool.or_false, Bool.or_self, Bool.not_false, List.append_nil, Bool.and_self]); rfl) (by (try simp only [givesF, setF, updF, Fam.zeroth, Fam.rk, Ck.rk, C.rk, E.rk, T.rk, key, List.map_cons, List.map_nil, List.cons_append, List.nil_append, List.length_cons, List.length_nil, Option.map_some, Option.bind_some, Nat.reduceAdd, Nat.zero_add, Nat.add_zero, Nat.add_sub_cancel_left, Int.toNat_natCast, reps, List.all_cons, List.all_nil, C.flat, List.append_eq, Bool.not_true, Bool.and_true, Bool.or_false, Bool.or_self, Bool.not_false, List.append_nil, Bool.and_self]); rfl) ?_
      repeat' (first
        | ((fail_if_success (with_reducible first | apply LoopK.mk | apply CallK.mk | apply FinK.mk | refine Exists.intro ?_ ?_)); first
          | ((with_reducible refine And.intro (fun (hb : _ = true) => ?_) (fun (hb : _ = false) => ?_)) <;> (try simp only [decide_eq_true_eq, decide_eq_false_iff_not, Bool.not_eq_true', Bool.not_eq_false', Bool.and_eq_true, Bool.and_eq_false_iff, Bool.or_eq_true, Bool.or_eq_false_iff, Bool.and_true, Int.not_lt, Int.not_le, not_true_eq_false, or_self, true_and, Bool.true_eq_false, Bool.false_eq_true, reduceCtorEq, not_false_eq_true, decide_true, decide_false, Int.toNat_natCast, Nat.zero_add] at hb) <;> (try (first | (exfalso; omega) | exact (Bool.false_ne_true (Eq.trans (Eq.symm hb) (by assumption))).elim | exact (Bool.false_ne_true (Eq.trans (Eq.symm (by assumption)) hb)).elim)))
          | (with_reducible refine Both.mk ?_ ?_)
          | ((with_reducible refine And.intro ?_ ?_); (focus (first | rfl | omega | (split <;> omega) | (refine ⟨?_, ?_, ?_⟩ <;> first | rfl | omega | (split <;> omega)) | assumption | (refine ⟨?_, ?_⟩ <;> omega) | (refine ⟨?_, ?_, ?_⟩ <;> omega) | (refine ⟨?_, ?_, ?_, ?_⟩ <;> omega) | (dsimp only [maxLen]; refine ⟨?_, ?_⟩ <;> omega) | (refine ⟨rfl, ?_⟩ <;> omega) | exact ⟨rfl, rfl⟩ | exact ⟨rfl, rfl, by omega⟩ | (simp only [Int.toNat_natCast, Nat.zero_add, Nat.add_zero]; first | omega | (refine ⟨?_, ?_⟩ <;> omega) | (refine ⟨?_, ?_, ?_⟩ <;> omega)))))
          | ((with_reducible refine Or.inl (And.intro ?_ (And.intro ?_ ?_))); (focus (rfl)); (focus (refine ⟨?_, ?_, ?_, ?_⟩ <;> first | rfl | omega)))
          | ((with_reducible refine Or.inr (Or.inl (And.intro ?_ ?_))); (focus (refine ⟨?_, ?_, ?_⟩ <;> first | rfl | omega)))
          | ((with_reducible refine Or.inr (Or.inr (Or.inl (And.intro ?_ ?_)))); (focus (refine ⟨?_, ?_, ?_, ?_, ?_⟩ <;> first | rfl | omega)))
          | ((with_reducible refine Or.inr (Or.inr (Or.inr (And.intro ?_ ?_)))); (focus (refine ⟨?_, ?_, ?_, ?_, ?_, ?_, ?_⟩ <;> first | rfl | omega)))
          | (with_reducible intro hc; (try simp only [capsP, and_true] at hc); (try (exfalso; omega)))
          | ((fail_if_success (with_reducible first | refine And.intro ?_ ?_ | refine Or.inl ?_ | intro _)); (conv => whnf); (fail_if_success (fail_if_success (with_reducible first | apply LoopK.mk | apply CallK.mk | apply FinK.mk | refine Exists.intro ?_ ?_ | refine Both.mk ?_ ?_ | refine And.intro ?_ ?_ | refine Or.inl ?_ | intro _))))))
      refine CallK.mk2 (σ := []) (nl := []) (cawake) rfl rfl (by (try simp only [givesF, setF, updF, Fam.zeroth, Fam.rk, Ck.rk, C.rk, E.rk, T.rk, key, List.map_cons, List.map_nil, List.cons_append, List.nil_append, List.length_cons, List.length_nil, Option.map_some, Option.bind_some, Nat.reduceAdd, Nat.zero_add, Nat.add_zero, Nat.add_sub_cancel_left, Int.toNat_natCast, reps, List.all_cons, List.all_nil, C.flat, List.append_eq, Bool.not_true, Bool.and_true, Bool.or_false, Bool.or_self, Bool.not_false, List.append_nil, Bool.and_self]); rfl) (by (repeat' (first | (refine And.intro ?_ ?_) | exact trivial | rfl | exact Nat.le_refl _ | exact (fun _ _ => rfl) | exact all_one (by rfl) | (simp only [Int.toNat_natCast, Nat.zero_add, Nat.add_zero]; done)))) ?_
      rintro v h' ⟨rfl, rfl⟩ hcaps
      refine ret_mk (by (try simp only [givesF, setF, updF, Fam.zeroth, Fam.rk, Ck.rk, C.rk, E.rk, T.rk, key, List.map_cons, List.map_nil, List.cons_append, List.nil_append, List.length_cons, List.length_nil, Option.map_some, Option.bind_some, Nat.reduceAdd, Nat.zero_add, Nat.add_zero, Nat.add_sub_cancel_left, Int.toNat_natCast, reps, List.all_cons, List.all_nil, C.flat, List.append_eq, Bool.not_true, Bool.and_true, Bool.or_false, Bool.or_self, Bool.not_false, List.append_nil, Bool.and_self]); rfl) (by (try simp only [givesF, setF, updF, Fam.zeroth, Fam.rk, Ck.rk, C.rk, E.rk, T.rk, key, List.map_cons, List.map_nil, List.cons_append, List.nil_append, List.length_cons, List.length_nil, Option.map_some, Option.bind_some, Nat.reduceAdd, Nat.zero_add, Nat.add_zero, Nat.add_sub_cancel_left, Int.toNat_natCast, reps, List.all_cons, List.all_nil, C.flat, List.append_eq, Bool.not_true, Bool.and_true, Bool.or_false, Bool.or_self, Bool.not_false, List.append_nil, Bool.and_self]); rfl) ?_
      repeat' (first
        | ((fail_if_success (with_reducible first | apply LoopK.mk | apply CallK.mk | apply FinK.mk | refine Exists.intro ?_ ?_)); first
          | ((with_reducible refine And.intro (fun (hb : _ = true) => ?_) (fun (hb : _ = false) => ?_)) <;> (try simp only [decide_eq_true_eq, decide_eq_false_iff_not, Bool.not_eq_true', Bool.not_eq_false', Bool.and_eq_true, Bool.and_eq_false_iff, Bool.or_eq_true, Bool.or_eq_false_iff, Bool.and_true, Int.not_lt, Int.not_le, not_true_eq_false, or_self, true_and, Bool.true_eq_false, Bool.false_eq_true, reduceCtorEq, not_false_eq_true, decide_true, decide_false, Int.toNat_natCast, Nat.zero_add] at hb) <;> (try (first | (exfalso; omega) | exact (Bool.false_ne_true (Eq.trans (Eq.symm hb) (by assumption))).elim | exact (Bool.false_ne_true (Eq.trans (Eq.symm (by assumption)) hb)).elim)))
          | (with_reducible refine Both.mk ?_ ?_)
          | ((with_reducible refine And.intro ?_ ?_); (focus (first | rfl | omega | (split <;> omega) | (refine ⟨?_, ?_, ?_⟩ <;> first | rfl | omega | (split <;> omega)) | assumption | (refine ⟨?_, ?_⟩ <;> omega) | (refine ⟨?_, ?_, ?_⟩ <;> omega) | (refine ⟨?_, ?_, ?_, ?_⟩ <;> omega) | (dsimp only [maxLen]; refine ⟨?_, ?_⟩ <;> omega) | (refine ⟨rfl, ?_⟩ <;> omega) | exact ⟨rfl, rfl⟩ | exact ⟨rfl, rfl, by omega⟩ | (simp only [Int.toNat_natCast, Nat.zero_add, Nat.add_zero]; first | omega | (refine ⟨?_, ?_⟩ <;> omega) | (refine ⟨?_, ?_, ?_⟩ <;> omega)))))
          | ((with_reducible refine Or.inl (And.intro ?_ (And.intro ?_ ?_))); (focus (rfl)); (focus (refine ⟨?_, ?_, ?_, ?_⟩ <;> first | rfl | omega)))
          | ((with_reducible refine Or.inr (Or.inl (And.intro ?_ ?_))); (focus (refine ⟨?_, ?_, ?_⟩ <;> first | rfl | omega)))
          | ((with_reducible refine Or.inr (Or.inr (Or.inl (And.intro ?_ ?_)))); (focus (refine ⟨?_, ?_, ?_, ?_, ?_⟩ <;> first | rfl | omega)))
          | ((with_reducible refine Or.inr (Or.inr (Or.inr (And.intro ?_ ?_)))); (focus (refine ⟨?_, ?_, ?_, ?_, ?_, ?_, ?_⟩ <;> first | rfl | omega)))
          | (with_reducible intro hc; (try simp only [capsP, and_true] at hc); (try (exfalso; omega)))
          | ((fail_if_success (with_reducible first | refine And.intro ?_ ?_ | refine Or.inl ?_ | intro _)); (conv => whnf); (fail_if_success (fail_if_success (with_reducible first | apply LoopK.mk | apply CallK.mk | apply FinK.mk | refine Exists.intro ?_ ?_ | refine Both.mk ?_ ?_ | refine And.intro ?_ ?_ | refine Or.inl ?_ | intro _))))))
      refine FinK.mk ⟨[0], _, [.one .no], rfl, ?_⟩
      (repeat' (first | (refine And.intro ?_ ?_) | exact trivial | rfl | exact Nat.le_refl _ | exact (fun _ _ => rfl) | exact all_one (by rfl) | (simp only [Int.toNat_natCast, Nat.zero_add, Nat.add_zero]; done))))
  · refine CallK.mk2 (σ := []) (nl := []) (inew_no (qE life) hq) rfl rfl (by (try simp only [givesF, setF, updF, Fam.zeroth, Fam.rk, Ck.rk, C.rk, E.rk, T.rk, key, List.map_cons, List.map_nil, List.cons_append, List.nil_append, List.length_cons, List.length_nil, Option.map_some, Option.bind_some, Nat.reduceAdd, Nat.zero_add, Nat.add_zero, Nat.add_sub_cancel_left, Int.toNat_natCast, reps, List.all_cons, List.all_nil, C.flat, List.append_eq, Bool.not_true, Bool.and_true, Bool.or_false, Bool.or_self, Bool.not_false, List.append_nil, Bool.and_self]); rfl) (by (repeat' (first | (refine And.intro ?_ ?_) | exact trivial | rfl | exact Nat.le_refl _ | exact (fun _ _ => rfl) | exact all_one (by rfl) | (simp only [Int.toNat_natCast, Nat.zero_add, Nat.add_zero]; done)))) ?_
    rintro v h' ⟨rfl, rfl⟩ hcaps
    refine ret_mk (by (try simp only [givesF, setF, updF, Fam.zeroth, Fam.rk, Ck.rk, C.rk, E.rk, T.rk, key, List.map_cons, List.map_nil, List.cons_append, List.nil_append, List.length_cons, List.length_nil, Option.map_some, Option.bind_some, Nat.reduceAdd, Nat.zero_add, Nat.add_zero, Nat.add_sub_cancel_left, Int.toNat_natCast, reps, List.all_cons, List.all_nil, C.flat, List.append_eq, Bool.not_true, Bool.and_true, Bool.or_false, Bool.or_self, Bool.not_false, List.append_nil, Bool.and_self]); rfl) (by (try simp only [givesF, setF, updF, Fam.zeroth, Fam.rk, Ck.rk, C.rk, E.rk, T.rk, key, List.map_cons, List.map_nil, List.cons_append, List.nil_append, List.length_cons, List.length_nil, Option.map_some, Option.bind_some, Nat.reduceAdd, Nat.zero_add, Nat.add_zero, Nat.add_sub_cancel_left, Int.toNat_natCast, reps, List.all_cons, List.all_nil, C.flat, List.append_eq, Bool.not_true, Bool.and_true, Bool.or_false, Bool.or_self, Bool.not_false, List.append_nil, Bool.and_self]); rfl) ?_
    repeat' (first
      | ((fail_if_success (with_reducible first | apply LoopK.mk | apply CallK.mk | apply FinK.mk | refine Exists.intro ?_ ?_)); first
        | ((with_reducible refine And.intro (fun (hb : _ = true) => ?_) (fun (hb : _ = false) => ?_)) <;> (try simp only [decide_eq_true_eq, decide_eq_false_iff_not, Bool.not_eq_true', Bool.not_eq_false', Bool.and_eq_true, Bool.and_eq_false_iff, Bool.or_eq_true, Bool.or_eq_false_iff, Bool.and_true, Int.not_lt, Int.not_le, not_true_eq_false, or_self, true_and, Bool.true_eq_false, Bool.false_eq_true, reduceCtorEq, not_false_eq_true, decide_true, decide_false, Int.toNat_natCast, Nat.zero_add] at hb) <;> (try (first | (exfalso; omega) | exact (Bool.false_ne_true (Eq.trans (Eq.symm hb) (by assumption))).elim | exact (Bool.false_ne_true (Eq.trans (Eq.symm (by assumption)) hb)).elim)))
        | (with_reducible refine Both.mk ?_ ?_)
        | ((with_reducible refine And.intro ?_ ?_); (focus (first | rfl | omega | (split <;> omega) | (refine ⟨?_, ?_, ?_⟩ <;> first | rfl | omega | (split <;> omega)) | assumption | (refine ⟨?_, ?_⟩ <;> omega) | (refine ⟨?_, ?_, ?_⟩ <;> omega) | (refine ⟨?_, ?_, ?_, ?_⟩ <;> omega) | (dsimp only [maxLen]; refine ⟨?_, ?_⟩ <;> omega) | (refine ⟨rfl, ?_⟩ <;> omega) | exact ⟨rfl, rfl⟩ | exact ⟨rfl, rfl, by omega⟩ | (simp only [Int.toNat_natCast, Nat.zero_add, Nat.add_zero]; first | omega | (refine ⟨?_, ?_⟩ <;> omega) | (refine ⟨?_, ?_, ?_⟩ <;> omega)))))
        | ((with_reducible refine Or.inl (And.intro ?_ (And.intro ?_ ?_))); (focus (rfl)); (focus (refine ⟨?_, ?_, ?_, ?_⟩ <;> first | rfl | omega)))
        | ((with_reducible refine Or.inr (Or.inl (And.intro ?_ ?_))); (focus (refine ⟨?_, ?_, ?_⟩ <;> first | rfl | omega)))
        | ((with_reducible refine Or.inr (Or.inr (Or.inl (And.intro ?_ ?_)))); (focus (refine ⟨?_, ?_, ?_, ?_, ?_⟩ <;> first | rfl | omega)))
        | ((with_reducible refine Or.inr (Or.inr (Or.inr (And.intro ?_ ?_)))); (focus (refine ⟨?_, ?_, ?_, ?_, ?_, ?_, ?_⟩ <;> first | rfl | omega)))
        | (with_reducible intro hc; (try simp only [capsP, and_true] at hc); (try (exfalso; omega)))
        | ((fail_if_success (with_reducible first | refine And.intro ?_ ?_ | refine Or.inl ?_ | intro _)); (conv => whnf); (fail_if_success (fail_if_success (with_reducible first | apply LoopK.mk | apply CallK.mk | apply FinK.mk | refine Exists.intro ?_ ?_ | refine Both.mk ?_ ?_ | refine And.intro ?_ ?_ | refine Or.inl ?_ | intro _))))))
    refine CallK.mk2 (σ := []) (nl := []) (rcheck (qE life)) rfl rfl (by (try simp only [givesF, setF, updF, Fam.zeroth, Fam.rk, Ck.rk, C.rk, E.rk, T.rk, key, List.map_cons, List.map_nil, List.cons_append, List.nil_append, List.length_cons, List.length_nil, Option.map_some, Option.bind_some, Nat.reduceAdd, Nat.zero_add, Nat.add_zero, Nat.add_sub_cancel_left, Int.toNat_natCast, reps, List.all_cons, List.all_nil, C.flat, List.append_eq, Bool.not_true, Bool.and_true, Bool.or_false, Bool.or_self, Bool.not_false, List.append_nil, Bool.and_self]); rfl) (by (repeat' (first | (refine And.intro ?_ ?_) | exact trivial | rfl | exact Nat.le_refl _ | exact (fun _ _ => rfl) | exact all_one (by rfl) | (simp only [Int.toNat_natCast, Nat.zero_add, Nat.add_zero]; done)))) ?_
    rintro v h' ⟨rfl, rfl⟩ hcaps
    rw [← check_no hq]
    refine ret_mk (by (try simp only [givesF, setF, updF, Fam.zeroth, Fam.rk, Ck.rk, C.rk, E.rk, T.rk, key, List.map_cons, List.map_nil, List.cons_append, List.nil_append, List.length_cons, List.length_nil, Option.map_some, Option.bind_some, Nat.reduceAdd, Nat.zero_add, Nat.add_zero, Nat.add_sub_cancel_left, Int.toNat_natCast, reps, List.all_cons, List.all_nil, C.flat, List.append_eq, Bool.not_true, Bool.and_true, Bool.or_false, Bool.or_self, Bool.not_false, List.append_nil, Bool.and_self]); rfl) (by (try simp only [givesF, setF, updF, Fam.zeroth, Fam.rk, Ck.rk, C.rk, E.rk, T.rk, key, List.map_cons, List.map_nil, List.cons_append, List.nil_append, List.length_cons, List.length_nil, Option.map_some, Option.bind_some, Nat.reduceAdd, Nat.zero_add, Nat.add_zero, Nat.add_sub_cancel_left, Int.toNat_natCast, reps, List.all_cons, List.all_nil, C.flat, List.append_eq, Bool.not_true, Bool.and_true, Bool.or_false, Bool.or_self, Bool.not_false, List.append_nil, Bool.and_self]); rfl) ?_
    repeat' (first
      | ((fail_if_success (with_reducible first | apply LoopK.mk | apply CallK.mk | apply FinK.mk | refine Exists.intro ?_ ?_)); first
        | ((with_reducible refine And.intro (fun (hb : _ = true) => ?_) (fun (hb : _ = false) => ?_)) <;> (try simp only [decide_eq_true_eq, decide_eq_false_iff_not, Bool.not_eq_true', Bool.not_eq_false', Bool.and_eq_true, Bool.and_eq_false_iff, Bool.or_eq_true, Bool.or_eq_false_iff, Bool.and_true, Int.not_lt, Int.not_le, not_true_eq_false, or_self, true_and, Bool.true_eq_false, Bool.false_eq_true, reduceCtorEq, not_false_eq_true, decide_true, decide_false, Int.toNat_natCast, Nat.zero_add] at hb) <;> (try (first | (exfalso; omega) | exact (Bool.false_ne_true (Eq.trans (Eq.symm hb) (by assumption))).elim | exact (Bool.false_ne_true (Eq.trans (Eq.symm (by assumption)) hb)).elim)))
        | (with_reducible refine Both.mk ?_ ?_)
        | ((with_reducible refine And.intro ?_ ?_); (focus (first | rfl | omega | (split <;> omega) | (refine ⟨?_, ?_, ?_⟩ <;> first | rfl | omega | (split <;> omega)) | assumption | (refine ⟨?_, ?_⟩ <;> omega) | (refine ⟨?_, ?_, ?_⟩ <;> omega) | (refine ⟨?_, ?_, ?_, ?_⟩ <;> omega) | (dsimp only [maxLen]; refine ⟨?_, ?_⟩ <;> omega) | (refine ⟨rfl, ?_⟩ <;> omega) | exact ⟨rfl, rfl⟩ | exact ⟨rfl, rfl, by omega⟩ | (simp only [Int.toNat_natCast, Nat.zero_add, Nat.add_zero]; first | omega | (refine ⟨?_, ?_⟩ <;> omega) | (refine ⟨?_, ?_, ?_⟩ <;> omega)))))
        | ((with_reducible refine Or.inl (And.intro ?_ (And.intro ?_ ?_))); (focus (rfl)); (focus (refine ⟨?_, ?_, ?_, ?_⟩ <;> first | rfl | omega)))
        | ((with_reducible refine Or.inr (Or.inl (And.intro ?_ ?_))); (focus (refine ⟨?_, ?_, ?_⟩ <;> first | rfl | omega)))
        | ((with_reducible refine Or.inr (Or.inr (Or.inl (And.intro ?_ ?_)))); (focus (refine ⟨?_, ?_, ?_, ?_, ?_⟩ <;> first | rfl | omega)))
        | ((with_reducible refine Or.inr (Or.inr (Or.inr (And.intro ?_ ?_)))); (focus (refine ⟨?_, ?_, ?_, ?_, ?_, ?_, ?_⟩ <;> first | rfl | omega)))
        | (with_reducible intro hc; (try simp only [capsP, and_true] at hc); (try (exfalso; omega)))
        | ((fail_if_success (with_reducible first | refine And.intro ?_ ?_ | refine Or.inl ?_ | intro _)); (conv => whnf); (fail_if_success (fail_if_success (with_reducible first | apply LoopK.mk | apply CallK.mk | apply FinK.mk | refine Exists.intro ?_ ?_ | refine Both.mk ?_ ?_ | refine And.intro ?_ ?_ | refine Or.inl ?_ | intro _))))))
    refine CallK.mk2 (σ := []) (nl := []) (cawake) rfl rfl (by (try simp only [givesF, setF, updF, Fam.zeroth, Fam.rk, Ck.rk, C.rk, E.rk, T.rk, key, List.map_cons, List.map_nil, List.cons_append, List.nil_append, List.length_cons, List.length_nil, Option.map_some, Option.bind_some, Nat.reduceAdd, Nat.zero_add, Nat.add_zero, Nat.add_sub_cancel_left, Int.toNat_natCast, reps, List.all_cons, List.all_nil, C.flat, List.append_eq, Bool.not_true, Bool.and_true, Bool.or_false, Bool.or_self, Bool.not_false, List.append_nil, Bool.and_self]); rfl) (by (repeat' (first | (refine And.intro ?_ ?_) | exact trivial | rfl | exact Nat.le_refl _ | exact (fun _ _ => rfl) | exact all_one (by rfl) | (simp only [Int.toNat_natCast, Nat.zero_add, Nat.add_zero]; done)))) ?_
    rintro v h' ⟨rfl, rfl⟩ hcaps
    refine ret_mk (by (try simp only [givesF, setF, updF, Fam.zeroth, Fam.rk, Ck.rk, C.rk, E.rk, T.rk, key, List.map_cons, List.map_nil, List.cons_append, List.nil_append, List.length_cons, List.length_nil, Option.map_some, Option.bind_some, Nat.reduceAdd, Nat.zero_add, Nat.add_zero, Nat.add_sub_cancel_left, Int.toNat_natCast, reps, List.all_cons, List.all_nil, C.flat, List.append_eq, Bool.not_true, Bool.and_true, Bool.or_false, Bool.or_self, Bool.not_false, List.append_nil, Bool.and_self]); rfl) (by (try simp only [givesF, setF, updF, Fam.zeroth, Fam.rk, Ck.rk, C.rk, E.rk, T.rk, key, List.map_cons, List.map_nil, List.cons_append, List.nil_append, List.length_cons, List.length_nil, Option.map_some, Option.bind_some, Nat.reduceAdd, Nat.zero_add, Nat.add_zero, Nat.add_sub_cancel_left, Int.toNat_natCast, reps, List.all_cons, List.all_nil, C.flat, List.append_eq, Bool.not_true, Bool.and_true, Bool.or_false, Bool.or_self, Bool.not_false, List.append_nil, Bool.and_self]); rfl) ?_
    repeat' (first
      | ((fail_if_success (with_reducible first | apply LoopK.mk | apply CallK.mk | apply FinK.mk | refine Exists.intro ?_ ?_)); first
        | ((with_reducible refine And.intro (fun (hb : _ = true) => ?_) (fun (hb : _ = false) => ?_)) <;> (try simp only [decide_eq_true_eq, decide_eq_false_iff_not, Bool.not_eq_true', Bool.not_eq_false', Bool.and_eq_true, Bool.and_eq_false_iff, Bool.or_eq_true, Bool.or_eq_false_iff, Bool.and_true, Int.not_lt, Int.not_le, not_true_eq_false, or_self, true_and, Bool.true_eq_false, Bool.false_eq_true, reduceCtorEq, not_false_eq_true, decide_true, decide_false, Int.toNat_natCast, Nat.zero_add] at hb) <;> (try (first | (exfalso; omega) | exact (Bool.false_ne_true (Eq.trans (Eq.symm hb) (by assumption))).elim | exact (Bool.false_ne_true (Eq.trans (Eq.symm (by assumption)) hb)).elim)))
        | (with_reducible refine Both.mk ?_ ?_)
        | ((with_reducible refine And.intro ?_ ?_); (focus (first | rfl | omega | (split <;> omega) | (refine ⟨?_, ?_, ?_⟩ <;> first | rfl | omega | (split <;> omega)) | assumption | (refine ⟨?_, ?_⟩ <;> omega) | (refine ⟨?_, ?_, ?_⟩ <;> omega) | (refine ⟨?_, ?_, ?_, ?_⟩ <;> omega) | (dsimp only [maxLen]; refine ⟨?_, ?_⟩ <;> omega) | (refine ⟨rfl, ?_⟩ <;> omega) | exact ⟨rfl, rfl⟩ | exact ⟨rfl, rfl, by omega⟩ | (simp only [Int.toNat_natCast, Nat.zero_add, Nat.add_zero]; first | omega | (refine ⟨?_, ?_⟩ <;> omega) | (refine ⟨?_, ?_, ?_⟩ <;> omega)))))
        | ((with_reducible refine Or.inl (And.intro ?_ (And.intro ?_ ?_))); (focus (rfl)); (focus (refine ⟨?_, ?_, ?_, ?_⟩ <;> first | rfl | omega)))
        | ((with_reducible refine Or.inr (Or.inl (And.intro ?_ ?_))); (focus (refine ⟨?_, ?_, ?_⟩ <;> first | rfl | omega)))
        | ((with_reducible refine Or.inr (Or.inr (Or.inl (And.intro ?_ ?_)))); (focus (refine ⟨?_, ?_, ?_, ?_, ?_⟩ <;> first | rfl | omega)))
        | ((with_reducible refine Or.inr (Or.inr (Or.inr (And.intro ?_ ?_)))); (focus (refine ⟨?_, ?_, ?_, ?_, ?_, ?_, ?_⟩ <;> first | rfl | omega)))
        | (with_reducible intro hc; (try simp only [capsP, and_true] at hc); (try (exfalso; omega)))
        | ((fail_if_success (with_reducible first | refine And.intro ?_ ?_ | refine Or.inl ?_ | intro _)); (conv => whnf); (fail_if_success (fail_if_success (with_reducible first | apply LoopK.mk | apply CallK.mk | apply FinK.mk | refine Exists.intro ?_ ?_ | refine Both.mk ?_ ?_ | refine And.intro ?_ ?_ | refine Or.inl ?_ | intro _))))))
    refine FinK.mk ⟨[0], _, [.one .no], rfl, ?_⟩
    (repeat' (first | (refine And.intro ?_ ?_) | exact trivial | rfl | exact Nat.le_refl _ | exact (fun _ _ => rfl) | exact all_one (by rfl) | (simp only [Int.toNat_natCast, Nat.zero_add, Nat.add_zero]; done)))
end Go.Proofs.Ytohghplabennjaa

namespace Go.Proofs.Ytohghplabennjaa
open Go.X Go.RowKit
set_option linter.unusedSimpArgs false
set_option linter.unusedVariables false

theorem cnt_cons (a : Smp) (A : List Smp) (w : Int) : cnt (a :: A) w = (if a.w = w then 1 else 0) + cnt A w := by
  unfold cnt
  by_cases h : a.w = w <;> simp [h] ; omega
theorem cnt_app (A B : List Smp) (w : Int) : cnt (A ++ B) w = cnt A w + cnt B w := by
  unfold cnt
  simp

def keeps (d : Nat) : List Smp → List Smp
  | [] => []
  | a :: A => if cnt A a.w < d then a :: keeps d A else keeps d A

theorem cnt_keeps (d : Nat) (A : List Smp) (w : Int) : cnt (keeps d A) w = min d (cnt A w) := by
  induction A with
  | nil => simp [keeps, cnt]
  | cons a A ih =>
    unfold keeps
    rw [cnt_cons]
    by_cases hw : a.w = w
    · subst hw
      simp only [if_true]
      split
      · rw [cnt_cons, ih]; simp only [if_true]; omega
      · rw [ih]; omega
    · rw [if_neg hw]
      split
      · rw [cnt_cons, ih, if_neg hw]; omega
      · rw [ih]; omega

theorem keeps_snoc (d : Nat) (hd : 1 ≤ d) (A : List Smp) (x : Smp) :
    keeps d (A ++ [x]) = (if cnt (keeps d A) x.w < d then keeps d A else (keeps d A).eraseP (fun y => y.w == x.w)) ++ [x] := by
  induction A with
  | nil =>
    have : cnt ([] : List Smp) x.w < d := by simp [cnt]; omega
    simp [keeps, this]
  | cons a A ih =>
    have h1 : cnt (A ++ [x]) a.w = cnt A a.w + (if x.w = a.w then 1 else 0) := by rw [cnt_app, cnt_cons]; simp [cnt]
    rw [List.cons_append]
    rw [keeps, h1, ih]
    by_cases hw : x.w = a.w
    · rw [if_pos hw]
      have hck := cnt_keeps d A x.w
      rw [keeps]
      rw [← hw]
      by_cases h2 : cnt A x.w + 1 < d
      · rw [if_pos h2, if_pos (show cnt A x.w < d by omega), if_pos (by omega), if_pos (by rw [cnt_cons, hck]; split <;> omega)]
        rfl
      · rw [if_neg h2]
        by_cases h3 : cnt A x.w < d
        · rw [if_pos h3, if_pos (by omega), if_neg (by rw [cnt_cons, hck, if_pos hw.symm]; omega)]
          rw [List.eraseP_cons_of_pos (by simp [hw])]
        · rw [if_neg h3, if_neg (by omega)]
    · rw [if_neg hw, Nat.add_zero]
      have hne : ¬ a.w = x.w := fun h => hw h.symm
      rw [keeps]
      by_cases h3 : cnt A a.w < d
      · rw [if_pos h3, if_pos h3, cnt_cons, if_neg hne, Nat.zero_add]
        split
        · rfl
        · rw [List.eraseP_cons_of_neg (by simp [hne])]; rfl
      · rw [if_neg h3, if_neg h3]

def qD (d : Int) : Qos := ⟨false, false, false, d, 0, 0, 0⟩

theorem new_keeps (d : Nat) (hd : 1 ≤ d) {A : List Smp} {x : Smp} (h : addE (qD d) (keeps d A) x = 0) : newS (qD d) (keeps d A) x = keeps d (A ++ [x]) := by
  rw [keeps_snoc d hd]
  unfold newS addL
  rw [if_pos h]
  congr 1
  have hdep : (qD (d : Int)).depth = (d : Int) := rfl
  have hk : ¬ (qD (d : Int)).keep = true := by simp [qD]
  unfold oldI
  rw [if_neg hk, hdep]
  by_cases hc : cnt (keeps d A) x.w < d
  · rw [if_pos (show ((cnt (keeps d A) x.w : Nat) : Int) < (d : Int) by omega), if_pos (by omega), if_pos hc]
  · rw [if_neg (show ¬ ((cnt (keeps d A) x.w : Nat) : Int) < (d : Int) by omega), if_neg hc]
    have hp := fst_pos (l := keeps d A) (w := x.w) (by omega)
    rw [if_neg (by omega), List.eraseP_eq_eraseIdx]
    unfold fstI at hp ⊢
    cases hf : (keeps d A).findIdx? (fun y => y.w == x.w) with
    | none => rw [hf] at hp; simp at hp
    | some i => rfl

theorem okD_iff (d : Int) : okQ (qD d) ↔ 1 ≤ d ∧ d ≤ 64 := by
  unfold okQ okT qD
  simp
end Go.Proofs.Ytohghplabennjaa

namespace Go.Proofs.Ytohghplabennjaa
open Go.X Go.RowKit
set_option linter.unusedSimpArgs false
set_option linter.unusedVariables false

theorem keeps_len (d : Nat) (A : List Smp) : (keeps d A).length ≤ A.length := by
  induction A with
  | nil => simp [keeps]
  | cons a A ih => unfold keeps; split <;> simp <;> omega

theorem later_step {A : List Smp} {i j : Nat} (hi : i < j) (hj : j < A.length) (w : Int) : cnt ((A.take (j + 1)).drop (i + 1)) w = cnt ((A.take j).drop (i + 1)) w + (if (A.getD j default).w = w then 1 else 0) := by
  rw [take_snoc hj, List.drop_append_of_le_length (by rw [List.length_take]; omega), cnt_app, cnt_cons]
  simp [cnt]
theorem drop_cons {A : List Smp} {i : Nat} (hi : i < A.length) : A.drop i = A.getD i default :: A.drop (i + 1) := by
  rw [getD_lt hi, List.drop_eq_getElem_cons hi]

set_option maxRecDepth 10000 in
set_option maxHeartbeats 4000000 in
theorem ckeeps (depth : Int) (l : List Smp) (c : Nat) (hlm : l.length ≤ 9223372036854775807) :
    Ctr Try.prog 3 [.c (.i .i64 depth), .c (.sl 0 0 4 0 l.length c)] [.one (smps false l c)] fun v _ => v = .c .tt := by
  refine Ctr.mk' tbv mixed Try.func3 rfl rfl rfl (fun _ _ => by kernel_rfl) (by kernel_rfl) (by rfl) (by rfl) (by exact trivial) ?_
  repeat' (first
    | ((fail_if_success (with_reducible first | apply LoopK.mk | apply CallK.mk | apply FinK.mk | refine Exists.intro ?_ ?_)); first
      | ((with_reducible refine And.intro (fun (hb : _ = true) => ?_) (fun (hb : _ = false) => ?_)) <;> (try simp only [decide_eq_true_eq, decide_eq_false_iff_not, Bool.not_eq_true', Bool.not_eq_false', Bool.and_eq_true, Bool.and_eq_false_iff, Bool.or_eq_true, Bool.or_eq_false_iff, Bool.and_true, Int.not_lt, Int.not_le, not_true_eq_false, or_self, true_and, Bool.true_eq_false, Bool.false_eq_true, reduceCtorEq, not_false_eq_true, decide_true, decide_false, Int.toNat_natCast, Nat.zero_add] at hb) <;> (try (first | (exfalso; omega) | exact (Bool.false_ne_true (Eq.trans (Eq.symm hb) (by assumption))).elim | exact (Bool.false_ne_true (Eq.trans (Eq.symm (by assumption)) hb)).elim)))
      | (with_reducible refine Both.mk ?_ ?_)
      | ((with_reducible refine And.intro ?_ ?_); (focus (first | rfl | omega | (split <;> omega) | (refine ⟨?_, ?_, ?_⟩ <;> first | rfl | omega | (split <;> omega)) | assumption | (refine ⟨?_, ?_⟩ <;> omega) | (refine ⟨?_, ?_, ?_⟩ <;> omega) | (refine ⟨?_, ?_, ?_, ?_⟩ <;> omega) | (dsimp only [maxLen]; refine ⟨?_, ?_⟩ <;> omega) | (refine ⟨rfl, ?_⟩ <;> omega) | exact ⟨rfl, rfl⟩ | exact ⟨rfl, rfl, by omega⟩ | (simp only [Int.toNat_natCast, Nat.zero_add, Nat.add_zero]; first | omega | (refine ⟨?_, ?_⟩ <;> omega) | (refine ⟨?_, ?_, ?_⟩ <;> omega)))))
      | ((with_reducible refine Or.inl (And.intro ?_ (And.intro ?_ ?_))); (focus (rfl)); (focus (refine ⟨?_, ?_, ?_, ?_⟩ <;> first | rfl | omega)))
      | ((with_reducible refine Or.inr (Or.inl (And.intro ?_ ?_))); (focus (refine ⟨?_, ?_, ?_⟩ <;> first | rfl | omega)))
      | ((with_reducible refine Or.inr (Or.inr (Or.inl (And.intro ?_ ?_)))); (focus (refine ⟨?_, ?_, ?_, ?_, ?_⟩ <;> first | rfl | omega)))
      | ((with_reducible refine Or.inr (Or.inr (Or.inr (And.intro ?_ ?_)))); (focus (refine ⟨?_, ?_, ?_, ?_, ?_, ?_, ?_⟩ <;> first | rfl | omega)))
      | (with_reducible intro hc; (try simp only [capsP, and_true] at hc); (try (exfalso; omega)))
      | ((fail_if_success (with_reducible first | refine And.intro ?_ ?_ | refine Or.inl ?_ | intro _)); (conv => whnf); (fail_if_success (fail_if_success (with_reducible first | apply LoopK.mk | apply CallK.mk | apply FinK.mk | refine Exists.intro ?_ ?_ | refine Both.mk ?_ ?_ | refine And.intro ?_ ?_ | refine Or.inl ?_ | intro _))))))
  by_cases hq : okQ (qD depth)
  · have hd := (okD_iff depth).1 hq
    obtain ⟨d, rfl⟩ := Int.eq_ofNat_of_zero_le (show 0 ≤ depth by omega)
    have hd1 : 1 ≤ d := by omega
    refine CallK.mk2 (σ := []) (nl := []) (inew_ok (qD d) hq) rfl rfl (by (try simp only [givesF, setF, updF, Fam.zeroth, Fam.rk, Ck.rk, C.rk, E.rk, T.rk, key, List.map_cons, List.map_nil, List.cons_append, List.nil_append, List.length_cons, List.length_nil, Option.map_some, Option.bind_some, Nat.reduceAdd, Nat.zero_add, Nat.add_zero, Nat.add_sub_cancel_left, Int.toNat_natCast, reps, List.all_cons, List.all_nil, C.flat, List.append_eq, Bool.not_true, Bool.and_true, Bool.or_false, Bool.or_self, Bool.not_false, List.append_nil, Bool.and_self]); rfl) (by (repeat' (first | (refine And.intro ?_ ?_) | exact trivial | rfl | exact Nat.le_refl _ | exact (fun _ _ => rfl) | exact all_one (by rfl) | (simp only [Int.toNat_natCast, Nat.zero_add, Nat.add_zero]; done)))) ?_
    rintro v h' ⟨rfl, rfl⟩ hcaps
    refine ret_mk (by (try simp only [givesF, setF, updF, Fam.zeroth, Fam.rk, Ck.rk, C.rk, E.rk, T.rk, key, List.map_cons, List.map_nil, List.cons_append, List.nil_append, List.length_cons, List.length_nil, Option.map_some, Option.bind_some, Nat.reduceAdd, Nat.zero_add, Nat.add_zero, Nat.add_sub_cancel_left, Int.toNat_natCast, reps, List.all_cons, List.all_nil, C.flat, List.append_eq, Bool.not_true, Bool.and_true, Bool.or_false, Bool.or_self, Bool.not_false, List.append_nil, Bool.and_self]); rfl) (by (try simp only [givesF, setF, updF, Fam.zeroth, Fam.rk, Ck.rk, C.rk, E.rk, T.rk, key, List.map_cons, List.map_nil, List.cons_append, List.nil_append, List.length_cons, List.length_nil, Option.map_some, Option.bind_some, Nat.reduceAdd, Nat.zero_add, Nat.add_zero, Nat.add_sub_cancel_left, Int.toNat_natCast, reps, List.all_cons, List.all_nil, C.flat, List.append_eq, Bool.not_true, Bool.and_true, Bool.or_false, Bool.or_self, Bool.not_false, List.append_nil, Bool.and_self]); rfl) ?_
    repeat' (first
      | ((fail_if_success (with_reducible first | apply LoopK.mk | apply CallK.mk | apply FinK.mk | refine Exists.intro ?_ ?_)); first
        | ((with_reducible refine And.intro (fun (hb : _ = true) => ?_) (fun (hb : _ = false) => ?_)) <;> (try simp only [decide_eq_true_eq, decide_eq_false_iff_not, Bool.not_eq_true', Bool.not_eq_false', Bool.and_eq_true, Bool.and_eq_false_iff, Bool.or_eq_true, Bool.or_eq_false_iff, Bool.and_true, Int.not_lt, Int.not_le, not_true_eq_false, or_self, true_and, Bool.true_eq_false, Bool.false_eq_true, reduceCtorEq, not_false_eq_true, decide_true, decide_false, Int.toNat_natCast, Nat.zero_add] at hb) <;> (try (first | (exfalso; omega) | exact (Bool.false_ne_true (Eq.trans (Eq.symm hb) (by assumption))).elim | exact (Bool.false_ne_true (Eq.trans (Eq.symm (by assumption)) hb)).elim)))
        | (with_reducible refine Both.mk ?_ ?_)
        | ((with_reducible refine And.intro ?_ ?_); (focus (first | rfl | omega | (split <;> omega) | (refine ⟨?_, ?_, ?_⟩ <;> first | rfl | omega | (split <;> omega)) | assumption | (refine ⟨?_, ?_⟩ <;> omega) | (refine ⟨?_, ?_, ?_⟩ <;> omega) | (refine ⟨?_, ?_, ?_, ?_⟩ <;> omega) | (dsimp only [maxLen]; refine ⟨?_, ?_⟩ <;> omega) | (refine ⟨rfl, ?_⟩ <;> omega) | exact ⟨rfl, rfl⟩ | exact ⟨rfl, rfl, by omega⟩ | (simp only [Int.toNat_natCast, Nat.zero_add, Nat.add_zero]; first | omega | (refine ⟨?_, ?_⟩ <;> omega) | (refine ⟨?_, ?_, ?_⟩ <;> omega)))))
        | ((with_reducible refine Or.inl (And.intro ?_ (And.intro ?_ ?_))); (focus (rfl)); (focus (refine ⟨?_, ?_, ?_, ?_⟩ <;> first | rfl | omega)))
        | ((with_reducible refine Or.inr (Or.inl (And.intro ?_ ?_))); (focus (refine ⟨?_, ?_, ?_⟩ <;> first | rfl | omega)))
        | ((with_reducible refine Or.inr (Or.inr (Or.inl (And.intro ?_ ?_)))); (focus (refine ⟨?_, ?_, ?_, ?_, ?_⟩ <;> first | rfl | omega)))
        | ((with_reducible refine Or.inr (Or.inr (Or.inr (And.intro ?_ ?_)))); (focus (refine ⟨?_, ?_, ?_, ?_, ?_, ?_, ?_⟩ <;> first | rfl | omega)))
        | (with_reducible intro hc; (try simp only [capsP, and_true] at hc); (try (exfalso; omega)))
        | ((fail_if_success (with_reducible first | refine And.intro ?_ ?_ | refine Or.inl ?_ | intro _)); (conv => whnf); (fail_if_success (fail_if_success (with_reducible first | apply LoopK.mk | apply CallK.mk | apply FinK.mk | refine Exists.intro ?_ ?_ | refine Both.mk ?_ ?_ | refine And.intro ?_ ?_ | refine Or.inl ?_ | intro _))))))
    refine LoopK.mk' {p : Nat × List Smp × Nat × Nat // p.1 ≤ l.length ∧ p.1 ≤ 250 ∧ Inv (keeps d p.2.1) ∧ p.2.1.length ≤ p.1}
      (fun ⟨(k, A, c1, ca), _⟩ => ⟨[(0, .c (.i .i64 d)), (1, .c (.sl 0 0 4 0 l.length c)), (5, .c (.p 1 0 0)), (7, .c (.sl 3 0 4 0 A.length ca)), (8, .c (.i .i64 k))],
        [.one (smps false l c), .one (hist 2 (qD d) (keeps d A).length c1), .one (smps true (keeps d A) c1), .one (smps true A ca)]⟩) (fun k => 250 - k.1.1)
      ⟨⟨(0, [], 0, 0), Nat.zero_le _, Nat.zero_le _, Inv.nil, Nat.zero_le _⟩, [0, 1, 2, 9], ?_⟩ ?_
    · (repeat' (first | (refine And.intro ?_ ?_) | exact trivial | rfl | exact Nat.le_refl _ | exact (fun _ _ => rfl) | exact all_one (by rfl) | (simp only [Int.toNat_natCast, Nat.zero_add, Nat.add_zero]; done)))
    rintro ⟨⟨k, A, c1, ca⟩, hk, hk4, hi, hA⟩
    simp only at hk hk4 hi hA
    have hl : (keeps d A).length ≤ 1000000 := Nat.le_trans hi.len (by omega)
    repeat' (first
      | ((fail_if_success (with_reducible first | apply LoopK.mk | apply CallK.mk | apply FinK.mk | refine Exists.intro ?_ ?_)); first
        | ((with_reducible refine And.intro (fun (hb : _ = true) => ?_) (fun (hb : _ = false) => ?_)) <;> (try simp only [decide_eq_true_eq, decide_eq_false_iff_not, Bool.not_eq_true', Bool.not_eq_false', Bool.and_eq_true, Bool.and_eq_false_iff, Bool.or_eq_true, Bool.or_eq_false_iff, Bool.and_true, Int.not_lt, Int.not_le, not_true_eq_false, or_self, true_and, Bool.true_eq_false, Bool.false_eq_true, reduceCtorEq, not_false_eq_true, decide_true, decide_false, Int.toNat_natCast, Nat.zero_add] at hb) <;> (try (first | (exfalso; omega) | exact (Bool.false_ne_true (Eq.trans (Eq.symm hb) (by assumption))).elim | exact (Bool.false_ne_true (Eq.trans (Eq.symm (by assumption)) hb)).elim)))
        | (with_reducible refine Both.mk ?_ ?_)
        | ((with_reducible refine And.intro ?_ ?_); (focus (first | rfl | omega | (split <;> omega) | (refine ⟨?_, ?_, ?_⟩ <;> first | rfl | omega | (split <;> omega)) | assumption | (refine ⟨?_, ?_⟩ <;> omega) | (refine ⟨?_, ?_, ?_⟩ <;> omega) | (refine ⟨?_, ?_, ?_, ?_⟩ <;> omega) | (dsimp only [maxLen]; refine ⟨?_, ?_⟩ <;> omega) | (refine ⟨rfl, ?_⟩ <;> omega) | exact ⟨rfl, rfl⟩ | exact ⟨rfl, rfl, by omega⟩ | (simp only [Int.toNat_natCast, Nat.zero_add, Nat.add_zero]; first | omega | (refine ⟨?_, ?_⟩ <;> omega) | (refine ⟨?_, ?_, ?_⟩ <;> omega)))))
        | ((with_reducible refine Or.inl (And.intro ?_ (And.intro ?_ ?_))); (focus (rfl)); (focus (refine ⟨?_, ?_, ?_, ?_⟩ <;> first | rfl | omega)))
        | ((with_reducible refine Or.inr (Or.inl (And.intro ?_ ?_))); (focus (refine ⟨?_, ?_, ?_⟩ <;> first | rfl | omega)))
        | ((with_reducible refine Or.inr (Or.inr (Or.inl (And.intro ?_ ?_)))); (focus (refine ⟨?_, ?_, ?_, ?_, ?_⟩ <;> first | rfl | omega)))
        | ((with_reducible refine Or.inr (Or.inr (Or.inr (And.intro ?_ ?_)))); (focus (refine ⟨?_, ?_, ?_, ?_, ?_, ?_, ?_⟩ <;> first | rfl | omega)))
        | (with_reducible intro hc; (try simp only [capsP, and_true] at hc); (try (exfalso; omega)))
        | ((fail_if_success (with_reducible first | refine And.intro ?_ ?_ | refine Or.inl ?_ | intro _)); (conv => whnf); (fail_if_success (fail_if_success (with_reducible first | apply LoopK.mk | apply CallK.mk | apply FinK.mk | refine Exists.intro ?_ ?_ | refine Both.mk ?_ ?_ | refine And.intro ?_ ?_ | refine Or.inl ?_ | intro _))))))
    · refine CallK.mk2 (σ := [.whole 1, .whole 2]) (nl := []) (iadd (qD d) (keeps d A) c1 (l.getD k default) hl) rfl rfl (by (try simp only [givesF, setF, updF, Fam.zeroth, Fam.rk, Ck.rk, C.rk, E.rk, T.rk, key, List.map_cons, List.map_nil, List.cons_append, List.nil_append, List.length_cons, List.length_nil, Option.map_some, Option.bind_some, Nat.reduceAdd, Nat.zero_add, Nat.add_zero, Nat.add_sub_cancel_left, Int.toNat_natCast, reps, List.all_cons, List.all_nil, C.flat, List.append_eq, Bool.not_true, Bool.and_true, Bool.or_false, Bool.or_self, Bool.not_false, List.append_nil, Bool.and_self]); rfl) (by (repeat' (first | (refine And.intro ?_ ?_) | exact trivial | rfl | exact Nat.le_refl _ | exact (fun _ _ => rfl) | exact all_one (by rfl) | (simp only [Int.toNat_natCast, Nat.zero_add, Nat.add_zero]; done)))) ?_
      rintro v h' ⟨c2, c3, rfl, rfl⟩ hcaps
      refine ret_mk (by (try simp only [givesF, setF, updF, Fam.zeroth, Fam.rk, Ck.rk, C.rk, E.rk, T.rk, key, List.map_cons, List.map_nil, List.cons_append, List.nil_append, List.length_cons, List.length_nil, Option.map_some, Option.bind_some, Nat.reduceAdd, Nat.zero_add, Nat.add_zero, Nat.add_sub_cancel_left, Int.toNat_natCast, reps, List.all_cons, List.all_nil, C.flat, List.append_eq, Bool.not_true, Bool.and_true, Bool.or_false, Bool.or_self, Bool.not_false, List.append_nil, Bool.and_self]); rfl) (by (try simp only [givesF, setF, updF, Fam.zeroth, Fam.rk, Ck.rk, C.rk, E.rk, T.rk, key, List.map_cons, List.map_nil, List.cons_append, List.nil_append, List.length_cons, List.length_nil, Option.map_some, Option.bind_some, Nat.reduceAdd, Nat.zero_add, Nat.add_zero, Nat.add_sub_cancel_left, Int.toNat_natCast, reps, List.all_cons, List.all_nil, C.flat, List.append_eq, Bool.not_true, Bool.and_true, Bool.or_false, Bool.or_self, Bool.not_false, List.append_nil, Bool.and_self]); rfl) ?_
      repeat' (first
        | ((fail_if_success (with_reducible first | apply LoopK.mk | apply CallK.mk | apply FinK.mk | refine Exists.intro ?_ ?_)); first
          | ((with_reducible refine And.intro (fun (hb : _ = true) => ?_) (fun (hb : _ = false) => ?_)) <;> (try simp only [decide_eq_true_eq, decide_eq_false_iff_not, Bool.not_eq_true', Bool.not_eq_false', Bool.and_eq_true, Bool.and_eq_false_iff, Bool.or_eq_true, Bool.or_eq_false_iff, Bool.and_true, Int.not_lt, Int.not_le, not_true_eq_false, or_self, true_and, Bool.true_eq_false, Bool.false_eq_true, reduceCtorEq, not_false_eq_true, decide_true, decide_false, Int.toNat_natCast, Nat.zero_add] at hb) <;> (try (first | (exfalso; omega) | exact (Bool.false_ne_true (Eq.trans (Eq.symm hb) (by assumption))).elim | exact (Bool.false_ne_true (Eq.trans (Eq.symm (by assumption)) hb)).elim)))
          | (with_reducible refine Both.mk ?_ ?_)
          | ((with_reducible refine And.intro ?_ ?_); (focus (first | rfl | omega | (split <;> omega) | (refine ⟨?_, ?_, ?_⟩ <;> first | rfl | omega | (split <;> omega)) | assumption | (refine ⟨?_, ?_⟩ <;> omega) | (refine ⟨?_, ?_, ?_⟩ <;> omega) | (refine ⟨?_, ?_, ?_, ?_⟩ <;> omega) | (dsimp only [maxLen]; refine ⟨?_, ?_⟩ <;> omega) | (refine ⟨rfl, ?_⟩ <;> omega) | exact ⟨rfl, rfl⟩ | exact ⟨rfl, rfl, by omega⟩ | (simp only [Int.toNat_natCast, Nat.zero_add, Nat.add_zero]; first | omega | (refine ⟨?_, ?_⟩ <;> omega) | (refine ⟨?_, ?_, ?_⟩ <;> omega)))))
          | ((with_reducible refine Or.inl (And.intro ?_ (And.intro ?_ ?_))); (focus (rfl)); (focus (refine ⟨?_, ?_, ?_, ?_⟩ <;> first | rfl | omega)))
          | ((with_reducible refine Or.inr (Or.inl (And.intro ?_ ?_))); (focus (refine ⟨?_, ?_, ?_⟩ <;> first | rfl | omega)))
          | ((with_reducible refine Or.inr (Or.inr (Or.inl (And.intro ?_ ?_)))); (focus (refine ⟨?_, ?_, ?_, ?_, ?_⟩ <;> first | rfl | omega)))
          | ((with_reducible refine Or.inr (Or.inr (Or.inr (And.intro ?_ ?_)))); (focus (refine ⟨?_, ?_, ?_, ?_, ?_, ?_, ?_⟩ <;> first | rfl | omega)))
          | (with_reducible intro hc; (try simp only [capsP, and_true] at hc); (try (exfalso; omega)))
          | ((fail_if_success (with_reducible first | refine And.intro ?_ ?_ | refine Or.inl ?_ | intro _)); (conv => whnf); (fail_if_success (fail_if_success (with_reducible first | apply LoopK.mk | apply CallK.mk | apply FinK.mk | refine Exists.intro ?_ ?_ | refine Both.mk ?_ ?_ | refine And.intro ?_ ?_ | refine Or.inl ?_ | intro _))))))
      · have hz := ‹addE (qD d) (keeps d A) (l.getD k default) = 0›
        have e1 := new_keeps d hd1 hz
        rename Nat => c4
        rw [e1]
        refine ⟨⟨(k + 1, A ++ [l.getD k default], c3, c4), by simp only; omega, by simp only; omega, e1 ▸ hi.add _, by simp; omega⟩, [0, 1, 4, 7], by simp only; omega, ?_⟩
        (repeat' (first | (refine And.intro ?_ ?_) | exact trivial | rfl | exact Nat.le_refl _ | exact (fun _ _ => rfl) | exact all_one (by rfl) | (simp only [Int.toNat_natCast, Nat.zero_add, Nat.add_zero]; done)))
        all_goals first | omega | (simp only [List.length_append, List.length_singleton]; done) | (rw [List.length_append, List.length_singleton]; omega) | (intro i hi; refine app_row _ _ _ ?_ i hi; first | rfl | (simp only [Int.toNat_natCast, Nat.zero_add]; rfl))
      · obtain ⟨e1, e2⟩ := add_err ‹¬ addE (qD d) (keeps d A) (l.getD k default) = 0›
        rw [e1]
        refine ⟨⟨(k + 1, A, c3, ca), by simp only; omega, by simp only; omega, hi, by simp only; omega⟩, [0, 1, 4, 3], by simp only; omega, ?_⟩
        (repeat' (first | (refine And.intro ?_ ?_) | exact trivial | rfl | exact Nat.le_refl _ | exact (fun _ _ => rfl) | exact all_one (by rfl) | (simp only [Int.toNat_natCast, Nat.zero_add, Nat.add_zero]; done)))
    all_goals (
      refine LoopK.mk' {p : Nat × List Smp × Nat // p.1 ≤ A.length ∧ p.2.1 ++ keeps d (A.drop p.1) = keeps d A}
        (fun ⟨(i, W, cw), _⟩ => ⟨[(0, .c (.i .i64 d)), (5, .c (.p 1 0 0)), (7, .c (.sl 3 0 4 0 A.length ca)), (11, .c (.sl 4 0 4 0 W.length cw)), (12, .c (.i .i64 i))],
          [.one (smps false l c), .one (hist 2 (qD d) (keeps d A).length c1), .one (smps true (keeps d A) c1), .one (smps true A ca), .one (smps true W cw)]⟩) (fun k => A.length - k.1.1)
        ⟨⟨(0, [], 0), Nat.zero_le _, by simp⟩, [0, 1, 2, 3, 9], ?_⟩ ?_
      · (repeat' (first | (refine And.intro ?_ ?_) | exact trivial | rfl | exact Nat.le_refl _ | exact (fun _ _ => rfl) | exact all_one (by rfl) | (simp only [Int.toNat_natCast, Nat.zero_add, Nat.add_zero]; done)))
      rintro ⟨⟨i, W, cw⟩, hia, hW⟩
      simp only at hia hW
      have hWl : W.length ≤ 256 := by
        have := congrArg List.length hW
        rw [List.length_append] at this
        have := hi.len
        omega
      repeat' (first
        | ((fail_if_success (with_reducible first | apply LoopK.mk | apply CallK.mk | apply FinK.mk | refine Exists.intro ?_ ?_)); first
          | ((with_reducible refine And.intro (fun (hb : _ = true) => ?_) (fun (hb : _ = false) => ?_)) <;> (try simp only [decide_eq_true_eq, decide_eq_false_iff_not, Bool.not_eq_true', Bool.not_eq_false', Bool.and_eq_true, Bool.and_eq_false_iff, Bool.or_eq_true, Bool.or_eq_false_iff, Bool.and_true, Int.not_lt, Int.not_le, not_true_eq_false, or_self, true_and, Bool.true_eq_false, Bool.false_eq_true, reduceCtorEq, not_false_eq_true, decide_true, decide_false, Int.toNat_natCast, Nat.zero_add] at hb) <;> (try (first | (exfalso; omega) | exact (Bool.false_ne_true (Eq.trans (Eq.symm hb) (by assumption))).elim | exact (Bool.false_ne_true (Eq.trans (Eq.symm (by assumption)) hb)).elim)))
          | (with_reducible refine Both.mk ?_ ?_)
          | ((with_reducible refine And.intro ?_ ?_); (focus (first | rfl | omega | (split <;> omega) | (refine ⟨?_, ?_, ?_⟩ <;> first | rfl | omega | (split <;> omega)) | assumption | (refine ⟨?_, ?_⟩ <;> omega) | (refine ⟨?_, ?_, ?_⟩ <;> omega) | (refine ⟨?_, ?_, ?_, ?_⟩ <;> omega) | (dsimp only [maxLen]; refine ⟨?_, ?_⟩ <;> omega) | (refine ⟨rfl, ?_⟩ <;> omega) | exact ⟨rfl, rfl⟩ | exact ⟨rfl, rfl, by omega⟩ | (simp only [Int.toNat_natCast, Nat.zero_add, Nat.add_zero]; first | omega | (refine ⟨?_, ?_⟩ <;> omega) | (refine ⟨?_, ?_, ?_⟩ <;> omega)))))
          | ((with_reducible refine Or.inl (And.intro ?_ (And.intro ?_ ?_))); (focus (rfl)); (focus (refine ⟨?_, ?_, ?_, ?_⟩ <;> first | rfl | omega)))
          | ((with_reducible refine Or.inr (Or.inl (And.intro ?_ ?_))); (focus (refine ⟨?_, ?_, ?_⟩ <;> first | rfl | omega)))
          | ((with_reducible refine Or.inr (Or.inr (Or.inl (And.intro ?_ ?_)))); (focus (refine ⟨?_, ?_, ?_, ?_, ?_⟩ <;> first | rfl | omega)))
          | ((with_reducible refine Or.inr (Or.inr (Or.inr (And.intro ?_ ?_)))); (focus (refine ⟨?_, ?_, ?_, ?_, ?_, ?_, ?_⟩ <;> first | rfl | omega)))
          | (with_reducible intro hc; (try simp only [capsP, and_true] at hc); (try (exfalso; omega)))
          | ((fail_if_success (with_reducible first | refine And.intro ?_ ?_ | refine Or.inl ?_ | intro _)); (conv => whnf); (fail_if_success (fail_if_success (with_reducible first | apply LoopK.mk | apply CallK.mk | apply FinK.mk | refine Exists.intro ?_ ?_ | refine Both.mk ?_ ?_ | refine And.intro ?_ ?_ | refine Or.inl ?_ | intro _))))))
      · refine LoopK.mk' {j : Nat // i < j ∧ j ≤ A.length}
          (fun ⟨j, _⟩ => ⟨[(0, .c (.i .i64 d)), (5, .c (.p 1 0 0)), (7, .c (.sl 3 0 4 0 A.length ca)), (11, .c (.sl 4 0 4 0 W.length cw)), (12, .c (.i .i64 i)), (13, .c (.i .i64 (cnt ((A.take j).drop (i + 1)) (A.getD i default).w))), (14, .c (.i .i64 j))],
            [.one (smps false l c), .one (hist 2 (qD d) (keeps d A).length c1), .one (smps true (keeps d A) c1), .one (smps true A ca), .one (smps true W cw)]⟩) (fun k => A.length - k.1)
          ⟨⟨i + 1, by omega, by omega⟩, [0, 1, 2, 3, 4], ?_⟩ ?_
        · (repeat' (first | (refine And.intro ?_ ?_) | exact trivial | rfl | exact Nat.le_refl _ | exact (fun _ _ => rfl) | exact all_one (by rfl) | (simp only [Int.toNat_natCast, Nat.zero_add, Nat.add_zero]; done)))
          all_goals (rw [List.drop_eq_nil_of_le (by rw [List.length_take]; omega)]; rfl)
        rintro ⟨j, hij, hj⟩
        have hcl : cnt ((A.take j).drop (i + 1)) (A.getD i default).w ≤ A.length := by
          unfold cnt
          refine Nat.le_trans (List.length_filter_le _ _) ?_
          rw [List.length_drop, List.length_take]; omega
        repeat' (first
          | ((fail_if_success (with_reducible first | apply LoopK.mk | apply CallK.mk | apply FinK.mk | refine Exists.intro ?_ ?_)); first
            | ((with_reducible refine And.intro (fun (hb : _ = true) => ?_) (fun (hb : _ = false) => ?_)) <;> (try simp only [decide_eq_true_eq, decide_eq_false_iff_not, Bool.not_eq_true', Bool.not_eq_false', Bool.and_eq_true, Bool.and_eq_false_iff, Bool.or_eq_true, Bool.or_eq_false_iff, Bool.and_true, Int.not_lt, Int.not_le, not_true_eq_false, or_self, true_and, Bool.true_eq_false, Bool.false_eq_true, reduceCtorEq, not_false_eq_true, decide_true, decide_false, Int.toNat_natCast, Nat.zero_add] at hb) <;> (try (first | (exfalso; omega) | exact (Bool.false_ne_true (Eq.trans (Eq.symm hb) (by assumption))).elim | exact (Bool.false_ne_true (Eq.trans (Eq.symm (by assumption)) hb)).elim)))
            | (with_reducible refine Both.mk ?_ ?_)
            | ((with_reducible refine And.intro ?_ ?_); (focus (first | rfl | omega | (split <;> omega) | (refine ⟨?_, ?_, ?_⟩ <;> first | rfl | omega | (split <;> omega)) | assumption | (refine ⟨?_, ?_⟩ <;> omega) | (refine ⟨?_, ?_, ?_⟩ <;> omega) | (refine ⟨?_, ?_, ?_, ?_⟩ <;> omega) | (dsimp only [maxLen]; refine ⟨?_, ?_⟩ <;> omega) | (refine ⟨rfl, ?_⟩ <;> omega) | exact ⟨rfl, rfl⟩ | exact ⟨rfl, rfl, by omega⟩ | (simp only [Int.toNat_natCast, Nat.zero_add, Nat.add_zero]; first | omega | (refine ⟨?_, ?_⟩ <;> omega) | (refine ⟨?_, ?_, ?_⟩ <;> omega)))))
            | ((with_reducible refine Or.inl (And.intro ?_ (And.intro ?_ ?_))); (focus (rfl)); (focus (refine ⟨?_, ?_, ?_, ?_⟩ <;> first | rfl | omega)))
            | ((with_reducible refine Or.inr (Or.inl (And.intro ?_ ?_))); (focus (refine ⟨?_, ?_, ?_⟩ <;> first | rfl | omega)))
            | ((with_reducible refine Or.inr (Or.inr (Or.inl (And.intro ?_ ?_)))); (focus (refine ⟨?_, ?_, ?_, ?_, ?_⟩ <;> first | rfl | omega)))
            | ((with_reducible refine Or.inr (Or.inr (Or.inr (And.intro ?_ ?_)))); (focus (refine ⟨?_, ?_, ?_, ?_, ?_, ?_, ?_⟩ <;> first | rfl | omega)))
            | (with_reducible intro hc; (try simp only [capsP, and_true] at hc); (try (exfalso; omega)))
            | ((fail_if_success (with_reducible first | refine And.intro ?_ ?_ | refine Or.inl ?_ | intro _)); (conv => whnf); (fail_if_success (fail_if_success (with_reducible first | apply LoopK.mk | apply CallK.mk | apply FinK.mk | refine Exists.intro ?_ ?_ | refine Both.mk ?_ ?_ | refine And.intro ?_ ?_ | refine Or.inl ?_ | intro _))))))
        · have e := later_step hij (show j < A.length by omega) (A.getD i default).w
          rw [if_pos ‹_›] at e
          refine ⟨⟨j + 1, by omega, by omega⟩, [0, 1, 2, 3, 4], by simp only; omega, ?_⟩
          (repeat' (first | (refine And.intro ?_ ?_) | exact trivial | rfl | exact Nat.le_refl _ | exact (fun _ _ => rfl) | exact all_one (by rfl) | (simp only [Int.toNat_natCast, Nat.zero_add, Nat.add_zero]; done)))
          all_goals first | (rw [e]; done) | (rw [e]; rfl)
        · have e := later_step hij (show j < A.length by omega) (A.getD i default).w
          rw [if_neg ‹_›] at e
          refine ⟨⟨j + 1, by omega, by omega⟩, [0, 1, 2, 3, 4], by simp only; omega, ?_⟩
          (repeat' (first | (refine And.intro ?_ ?_) | exact trivial | rfl | exact Nat.le_refl _ | exact (fun _ _ => rfl) | exact all_one (by rfl) | (simp only [Int.toNat_natCast, Nat.zero_add, Nat.add_zero]; done)))
          all_goals first | (rw [e]; done) | (rw [e]; rfl)
        · have hjl : j = A.length := by omega
          subst hjl
          rw [List.take_length] at *
          rename Nat => c4
          have hWn : (W ++ [A.getD i default]) ++ keeps d (A.drop (i + 1)) = keeps d A := by
            rw [← hW, drop_cons (show i < A.length by omega), keeps, if_pos (by omega)]
            simp
          refine ⟨⟨(i + 1, W ++ [A.getD i default], c4), by simp only; omega, hWn⟩, [0, 1, 2, 3, 6], by simp only; omega, ?_⟩
          (repeat' (first | (refine And.intro ?_ ?_) | exact trivial | rfl | exact Nat.le_refl _ | exact (fun _ _ => rfl) | exact all_one (by rfl) | (simp only [Int.toNat_natCast, Nat.zero_add, Nat.add_zero]; done)))
          all_goals first | omega | (simp only [List.length_append, List.length_singleton]; done) | (rw [List.length_append, List.length_singleton]; omega) | (intro i hi; refine app_row _ _ _ ?_ i hi; first | rfl | (simp only [Int.toNat_natCast, Nat.zero_add]; rfl))
        · have hjl : j = A.length := by omega
          subst hjl
          rw [List.take_length] at *
          have hWn : W ++ keeps d (A.drop (i + 1)) = keeps d A := by
            rw [← hW, drop_cons (show i < A.length by omega), keeps, if_neg (by omega)]
          refine ⟨⟨(i + 1, W, cw), by simp only; omega, hWn⟩, [0, 1, 2, 3, 4], by simp only; omega, ?_⟩
          (repeat' (first | (refine And.intro ?_ ?_) | exact trivial | rfl | exact Nat.le_refl _ | exact (fun _ _ => rfl) | exact all_one (by rfl) | (simp only [Int.toNat_natCast, Nat.zero_add, Nat.add_zero]; done)))
      · have hil : i = A.length := by omega
        subst hil
        rw [List.drop_eq_nil_of_le (Nat.le_refl _)] at hW
        have hW : W = keeps d A := by simpa [keeps] using hW
        subst hW
        refine CallK.mk2 (σ := [.whole 1, .whole 2]) (nl := []) (ilist (qD d) (keeps d A) c1 hl) rfl rfl (by (try simp only [givesF, setF, updF, Fam.zeroth, Fam.rk, Ck.rk, C.rk, E.rk, T.rk, key, List.map_cons, List.map_nil, List.cons_append, List.nil_append, List.length_cons, List.length_nil, Option.map_some, Option.bind_some, Nat.reduceAdd, Nat.zero_add, Nat.add_zero, Nat.add_sub_cancel_left, Int.toNat_natCast, reps, List.all_cons, List.all_nil, C.flat, List.append_eq, Bool.not_true, Bool.and_true, Bool.or_false, Bool.or_self, Bool.not_false, List.append_nil, Bool.and_self]); rfl) (by (repeat' (first | (refine And.intro ?_ ?_) | exact trivial | rfl | exact Nat.le_refl _ | exact (fun _ _ => rfl) | exact all_one (by rfl) | (simp only [Int.toNat_natCast, Nat.zero_add, Nat.add_zero]; done)))) ?_
        rintro v h' ⟨c5, rfl, rfl⟩ hcaps
        refine ret_mk (by (try simp only [givesF, setF, updF, Fam.zeroth, Fam.rk, Ck.rk, C.rk, E.rk, T.rk, key, List.map_cons, List.map_nil, List.cons_append, List.nil_append, List.length_cons, List.length_nil, Option.map_some, Option.bind_some, Nat.reduceAdd, Nat.zero_add, Nat.add_zero, Nat.add_sub_cancel_left, Int.toNat_natCast, reps, List.all_cons, List.all_nil, C.flat, List.append_eq, Bool.not_true, Bool.and_true, Bool.or_false, Bool.or_self, Bool.not_false, List.append_nil, Bool.and_self]); rfl) (by (try simp only [givesF, setF, updF, Fam.zeroth, Fam.rk, Ck.rk, C.rk, E.rk, T.rk, key, List.map_cons, List.map_nil, List.cons_append, List.nil_append, List.length_cons, List.length_nil, Option.map_some, Option.bind_some, Nat.reduceAdd, Nat.zero_add, Nat.add_zero, Nat.add_sub_cancel_left, Int.toNat_natCast, reps, List.all_cons, List.all_nil, C.flat, List.append_eq, Bool.not_true, Bool.and_true, Bool.or_false, Bool.or_self, Bool.not_false, List.append_nil, Bool.and_self]); rfl) ?_
        repeat' (first
          | ((fail_if_success (with_reducible first | apply LoopK.mk | apply CallK.mk | apply FinK.mk | refine Exists.intro ?_ ?_)); first
            | ((with_reducible refine And.intro (fun (hb : _ = true) => ?_) (fun (hb : _ = false) => ?_)) <;> (try simp only [decide_eq_true_eq, decide_eq_false_iff_not, Bool.not_eq_true', Bool.not_eq_false', Bool.and_eq_true, Bool.and_eq_false_iff, Bool.or_eq_true, Bool.or_eq_false_iff, Bool.and_true, Int.not_lt, Int.not_le, not_true_eq_false, or_self, true_and, Bool.true_eq_false, Bool.false_eq_true, reduceCtorEq, not_false_eq_true, decide_true, decide_false, Int.toNat_natCast, Nat.zero_add] at hb) <;> (try (first | (exfalso; omega) | exact (Bool.false_ne_true (Eq.trans (Eq.symm hb) (by assumption))).elim | exact (Bool.false_ne_true (Eq.trans (Eq.symm (by assumption)) hb)).elim)))
            | (with_reducible refine Both.mk ?_ ?_)
            | ((with_reducible refine And.intro ?_ ?_); (focus (first | rfl | omega | (split <;> omega) | (refine ⟨?_, ?_, ?_⟩ <;> first | rfl | omega | (split <;> omega)) | assumption | (refine ⟨?_, ?_⟩ <;> omega) | (refine ⟨?_, ?_, ?_⟩ <;> omega) | (refine ⟨?_, ?_, ?_, ?_⟩ <;> omega) | (dsimp only [maxLen]; refine ⟨?_, ?_⟩ <;> omega) | (refine ⟨rfl, ?_⟩ <;> omega) | exact ⟨rfl, rfl⟩ | exact ⟨rfl, rfl, by omega⟩ | (simp only [Int.toNat_natCast, Nat.zero_add, Nat.add_zero]; first | omega | (refine ⟨?_, ?_⟩ <;> omega) | (refine ⟨?_, ?_, ?_⟩ <;> omega)))))
            | ((with_reducible refine Or.inl (And.intro ?_ (And.intro ?_ ?_))); (focus (rfl)); (focus (refine ⟨?_, ?_, ?_, ?_⟩ <;> first | rfl | omega)))
            | ((with_reducible refine Or.inr (Or.inl (And.intro ?_ ?_))); (focus (refine ⟨?_, ?_, ?_⟩ <;> first | rfl | omega)))
            | ((with_reducible refine Or.inr (Or.inr (Or.inl (And.intro ?_ ?_)))); (focus (refine ⟨?_, ?_, ?_, ?_, ?_⟩ <;> first | rfl | omega)))
            | ((with_reducible refine Or.inr (Or.inr (Or.inr (And.intro ?_ ?_)))); (focus (refine ⟨?_, ?_, ?_, ?_, ?_, ?_, ?_⟩ <;> first | rfl | omega)))
            | (with_reducible intro hc; (try simp only [capsP, and_true] at hc); (try (exfalso; omega)))
            | ((fail_if_success (with_reducible first | refine And.intro ?_ ?_ | refine Or.inl ?_ | intro _)); (conv => whnf); (fail_if_success (fail_if_success (with_reducible first | apply LoopK.mk | apply CallK.mk | apply FinK.mk | refine Exists.intro ?_ ?_ | refine Both.mk ?_ ?_ | refine And.intro ?_ ?_ | refine Or.inl ?_ | intro _))))))
        refine CallK.mk2 (σ := [.whole 5, .whole 4]) (nl := []) (rsameT c5 cw true true (keeps d A) hl) rfl rfl (by (try simp only [givesF, setF, updF, Fam.zeroth, Fam.rk, Ck.rk, C.rk, E.rk, T.rk, key, List.map_cons, List.map_nil, List.cons_append, List.nil_append, List.length_cons, List.length_nil, Option.map_some, Option.bind_some, Nat.reduceAdd, Nat.zero_add, Nat.add_zero, Nat.add_sub_cancel_left, Int.toNat_natCast, reps, List.all_cons, List.all_nil, C.flat, List.append_eq, Bool.not_true, Bool.and_true, Bool.or_false, Bool.or_self, Bool.not_false, List.append_nil, Bool.and_self]); rfl) (by (repeat' (first | (refine And.intro ?_ ?_) | exact trivial | rfl | exact Nat.le_refl _ | exact (fun _ _ => rfl) | exact all_one (by rfl) | (simp only [Int.toNat_natCast, Nat.zero_add, Nat.add_zero]; done)))) ?_
        rintro v h' ⟨rfl, rfl⟩ hcaps
        refine ret_mk (by (try simp only [givesF, setF, updF, Fam.zeroth, Fam.rk, Ck.rk, C.rk, E.rk, T.rk, key, List.map_cons, List.map_nil, List.cons_append, List.nil_append, List.length_cons, List.length_nil, Option.map_some, Option.bind_some, Nat.reduceAdd, Nat.zero_add, Nat.add_zero, Nat.add_sub_cancel_left, Int.toNat_natCast, reps, List.all_cons, List.all_nil, C.flat, List.append_eq, Bool.not_true, Bool.and_true, Bool.or_false, Bool.or_self, Bool.not_false, List.append_nil, Bool.and_self]); rfl) (by (try simp only [givesF, setF, updF, Fam.zeroth, Fam.rk, Ck.rk, C.rk, E.rk, T.rk, key, List.map_cons, List.map_nil, List.cons_append, List.nil_append, List.length_cons, List.length_nil, Option.map_some, Option.bind_some, Nat.reduceAdd, Nat.zero_add, Nat.add_zero, Nat.add_sub_cancel_left, Int.toNat_natCast, reps, List.all_cons, List.all_nil, C.flat, List.append_eq, Bool.not_true, Bool.and_true, Bool.or_false, Bool.or_self, Bool.not_false, List.append_nil, Bool.and_self]); rfl) ?_
        repeat' (first
          | ((fail_if_success (with_reducible first | apply LoopK.mk | apply CallK.mk | apply FinK.mk | refine Exists.intro ?_ ?_)); first
            | ((with_reducible refine And.intro (fun (hb : _ = true) => ?_) (fun (hb : _ = false) => ?_)) <;> (try simp only [decide_eq_true_eq, decide_eq_false_iff_not, Bool.not_eq_true', Bool.not_eq_false', Bool.and_eq_true, Bool.and_eq_false_iff, Bool.or_eq_true, Bool.or_eq_false_iff, Bool.and_true, Int.not_lt, Int.not_le, not_true_eq_false, or_self, true_and, Bool.true_eq_false, Bool.false_eq_true, reduceCtorEq, not_false_eq_true, decide_true, decide_false, Int.toNat_natCast, Nat.zero_add] at hb) <;> (try (first | (exfalso; omega) | exact (Bool.false_ne_true (Eq.trans (Eq.symm hb) (by assumption))).elim | exact (Bool.false_ne_true (Eq.trans (Eq.symm (by assumption)) hb)).elim)))
            | (with_reducible refine Both.mk ?_ ?_)
            | ((with_reducible refine And.intro ?_ ?_); (focus (first | rfl | omega | (split <;> omega) | (refine ⟨?_, ?_, ?_⟩ <;> first | rfl | omega | (split <;> omega)) | assumption | (refine ⟨?_, ?_⟩ <;> omega) | (refine ⟨?_, ?_, ?_⟩ <;> omega) | (refine ⟨?_, ?_, ?_, ?_⟩ <;> omega) | (dsimp only [maxLen]; refine ⟨?_, ?_⟩ <;> omega) | (refine ⟨rfl, ?_⟩ <;> omega) | exact ⟨rfl, rfl⟩ | exact ⟨rfl, rfl, by omega⟩ | (simp only [Int.toNat_natCast, Nat.zero_add, Nat.add_zero]; first | omega | (refine ⟨?_, ?_⟩ <;> omega) | (refine ⟨?_, ?_, ?_⟩ <;> omega)))))
            | ((with_reducible refine Or.inl (And.intro ?_ (And.intro ?_ ?_))); (focus (rfl)); (focus (refine ⟨?_, ?_, ?_, ?_⟩ <;> first | rfl | omega)))
            | ((with_reducible refine Or.inr (Or.inl (And.intro ?_ ?_))); (focus (refine ⟨?_, ?_, ?_⟩ <;> first | rfl | omega)))
            | ((with_reducible refine Or.inr (Or.inr (Or.inl (And.intro ?_ ?_)))); (focus (refine ⟨?_, ?_, ?_, ?_, ?_⟩ <;> first | rfl | omega)))
            | ((with_reducible refine Or.inr (Or.inr (Or.inr (And.intro ?_ ?_)))); (focus (refine ⟨?_, ?_, ?_, ?_, ?_, ?_, ?_⟩ <;> first | rfl | omega)))
            | (with_reducible intro hc; (try simp only [capsP, and_true] at hc); (try (exfalso; omega)))
            | ((fail_if_success (with_reducible first | refine And.intro ?_ ?_ | refine Or.inl ?_ | intro _)); (conv => whnf); (fail_if_success (fail_if_success (with_reducible first | apply LoopK.mk | apply CallK.mk | apply FinK.mk | refine Exists.intro ?_ ?_ | refine Both.mk ?_ ?_ | refine And.intro ?_ ?_ | refine Or.inl ?_ | intro _))))))
        refine CallK.mk2 (σ := [.whole 1, .whole 2]) (nl := []) (ilen (qD d) (keeps d A) c1) rfl rfl (by (try simp only [givesF, setF, updF, Fam.zeroth, Fam.rk, Ck.rk, C.rk, E.rk, T.rk, key, List.map_cons, List.map_nil, List.cons_append, List.nil_append, List.length_cons, List.length_nil, Option.map_some, Option.bind_some, Nat.reduceAdd, Nat.zero_add, Nat.add_zero, Nat.add_sub_cancel_left, Int.toNat_natCast, reps, List.all_cons, List.all_nil, C.flat, List.append_eq, Bool.not_true, Bool.and_true, Bool.or_false, Bool.or_self, Bool.not_false, List.append_nil, Bool.and_self]); rfl) (by (repeat' (first | (refine And.intro ?_ ?_) | exact trivial | rfl | exact Nat.le_refl _ | exact (fun _ _ => rfl) | exact all_one (by rfl) | (simp only [Int.toNat_natCast, Nat.zero_add, Nat.add_zero]; done)))) ?_
        rintro v h' ⟨rfl, rfl⟩ hcaps
        refine ret_mk (by (try simp only [givesF, setF, updF, Fam.zeroth, Fam.rk, Ck.rk, C.rk, E.rk, T.rk, key, List.map_cons, List.map_nil, List.cons_append, List.nil_append, List.length_cons, List.length_nil, Option.map_some, Option.bind_some, Nat.reduceAdd, Nat.zero_add, Nat.add_zero, Nat.add_sub_cancel_left, Int.toNat_natCast, reps, List.all_cons, List.all_nil, C.flat, List.append_eq, Bool.not_true, Bool.and_true, Bool.or_false, Bool.or_self, Bool.not_false, List.append_nil, Bool.and_self]); rfl) (by (try simp only [givesF, setF, updF, Fam.zeroth, Fam.rk, Ck.rk, C.rk, E.rk, T.rk, key, List.map_cons, List.map_nil, List.cons_append, List.nil_append, List.length_cons, List.length_nil, Option.map_some, Option.bind_some, Nat.reduceAdd, Nat.zero_add, Nat.add_zero, Nat.add_sub_cancel_left, Int.toNat_natCast, reps, List.all_cons, List.all_nil, C.flat, List.append_eq, Bool.not_true, Bool.and_true, Bool.or_false, Bool.or_self, Bool.not_false, List.append_nil, Bool.and_self]); rfl) ?_
        repeat' (first
          | ((fail_if_success (with_reducible first | apply LoopK.mk | apply CallK.mk | apply FinK.mk | refine Exists.intro ?_ ?_)); first
            | ((with_reducible refine And.intro (fun (hb : _ = true) => ?_) (fun (hb : _ = false) => ?_)) <;> (try simp only [decide_eq_true_eq, decide_eq_false_iff_not, Bool.not_eq_true', Bool.not_eq_false', Bool.and_eq_true, Bool.and_eq_false_iff, Bool.or_eq_true, Bool.or_eq_false_iff, Bool.and_true, Int.not_lt, Int.not_le, not_true_eq_false, or_self, true_and, Bool.true_eq_false, Bool.false_eq_true, reduceCtorEq, not_false_eq_true, decide_true, decide_false, Int.toNat_natCast, Nat.zero_add] at hb) <;> (try (first | (exfalso; omega) | exact (Bool.false_ne_true (Eq.trans (Eq.symm hb) (by assumption))).elim | exact (Bool.false_ne_true (Eq.trans (Eq.symm (by assumption)) hb)).elim)))
            | (with_reducible refine Both.mk ?_ ?_)
            | ((with_reducible refine And.intro ?_ ?_); (focus (first | rfl | omega | (split <;> omega) | (refine ⟨?_, ?_, ?_⟩ <;> first | rfl | omega | (split <;> omega)) | assumption | (refine ⟨?_, ?_⟩ <;> omega) | (refine ⟨?_, ?_, ?_⟩ <;> omega) | (refine ⟨?_, ?_, ?_, ?_⟩ <;> omega) | (dsimp only [maxLen]; refine ⟨?_, ?_⟩ <;> omega) | (refine ⟨rfl, ?_⟩ <;> omega) | exact ⟨rfl, rfl⟩ | exact ⟨rfl, rfl, by omega⟩ | (simp only [Int.toNat_natCast, Nat.zero_add, Nat.add_zero]; first | omega | (refine ⟨?_, ?_⟩ <;> omega) | (refine ⟨?_, ?_, ?_⟩ <;> omega)))))
            | ((with_reducible refine Or.inl (And.intro ?_ (And.intro ?_ ?_))); (focus (rfl)); (focus (refine ⟨?_, ?_, ?_, ?_⟩ <;> first | rfl | omega)))
            | ((with_reducible refine Or.inr (Or.inl (And.intro ?_ ?_))); (focus (refine ⟨?_, ?_, ?_⟩ <;> first | rfl | omega)))
            | ((with_reducible refine Or.inr (Or.inr (Or.inl (And.intro ?_ ?_)))); (focus (refine ⟨?_, ?_, ?_, ?_, ?_⟩ <;> first | rfl | omega)))
            | ((with_reducible refine Or.inr (Or.inr (Or.inr (And.intro ?_ ?_)))); (focus (refine ⟨?_, ?_, ?_, ?_, ?_, ?_, ?_⟩ <;> first | rfl | omega)))
            | (with_reducible intro hc; (try simp only [capsP, and_true] at hc); (try (exfalso; omega)))
            | ((fail_if_success (with_reducible first | refine And.intro ?_ ?_ | refine Or.inl ?_ | intro _)); (conv => whnf); (fail_if_success (fail_if_success (with_reducible first | apply LoopK.mk | apply CallK.mk | apply FinK.mk | refine Exists.intro ?_ ?_ | refine Both.mk ?_ ?_ | refine And.intro ?_ ?_ | refine Or.inl ?_ | intro _))))))
        refine CallK.mk2 (σ := []) (nl := []) (cawake) rfl rfl (by (try simp only [givesF, setF, updF, Fam.zeroth, Fam.rk, Ck.rk, C.rk, E.rk, T.rk, key, List.map_cons, List.map_nil, List.cons_append, List.nil_append, List.length_cons, List.length_nil, Option.map_some, Option.bind_some, Nat.reduceAdd, Nat.zero_add, Nat.add_zero, Nat.add_sub_cancel_left, Int.toNat_natCast, reps, List.all_cons, List.all_nil, C.flat, List.append_eq, Bool.not_true, Bool.and_true, Bool.or_false, Bool.or_self, Bool.not_false, List.append_nil, Bool.and_self]); rfl) (by (repeat' (first | (refine And.intro ?_ ?_) | exact trivial | rfl | exact Nat.le_refl _ | exact (fun _ _ => rfl) | exact all_one (by rfl) | (simp only [Int.toNat_natCast, Nat.zero_add, Nat.add_zero]; done)))) ?_
        rintro v h' ⟨rfl, rfl⟩ hcaps
        refine ret_mk (by (try simp only [givesF, setF, updF, Fam.zeroth, Fam.rk, Ck.rk, C.rk, E.rk, T.rk, key, List.map_cons, List.map_nil, List.cons_append, List.nil_append, List.length_cons, List.length_nil, Option.map_some, Option.bind_some, Nat.reduceAdd, Nat.zero_add, Nat.add_zero, Nat.add_sub_cancel_left, Int.toNat_natCast, reps, List.all_cons, List.all_nil, C.flat, List.append_eq, Bool.not_true, Bool.and_true, Bool.or_false, Bool.or_self, Bool.not_false, List.append_nil, Bool.and_self]); rfl) (by (try simp only [givesF, setF, updF, Fam.zeroth, Fam.rk, Ck.rk, C.rk, E.rk, T.rk, key, List.map_cons, List.map_nil, List.cons_append, List.nil_append, List.length_cons, List.length_nil, Option.map_some, Option.bind_some, Nat.reduceAdd, Nat.zero_add, Nat.add_zero, Nat.add_sub_cancel_left, Int.toNat_natCast, reps, List.all_cons, List.all_nil, C.flat, List.append_eq, Bool.not_true, Bool.and_true, Bool.or_false, Bool.or_self, Bool.not_false, List.append_nil, Bool.and_self]); rfl) ?_
        repeat' (first
          | ((fail_if_success (with_reducible first | apply LoopK.mk | apply CallK.mk | apply FinK.mk | refine Exists.intro ?_ ?_)); first
            | ((with_reducible refine And.intro (fun (hb : _ = true) => ?_) (fun (hb : _ = false) => ?_)) <;> (try simp only [decide_eq_true_eq, decide_eq_false_iff_not, Bool.not_eq_true', Bool.not_eq_false', Bool.and_eq_true, Bool.and_eq_false_iff, Bool.or_eq_true, Bool.or_eq_false_iff, Bool.and_true, Int.not_lt, Int.not_le, not_true_eq_false, or_self, true_and, Bool.true_eq_false, Bool.false_eq_true, reduceCtorEq, not_false_eq_true, decide_true, decide_false, Int.toNat_natCast, Nat.zero_add] at hb) <;> (try (first | (exfalso; omega) | exact (Bool.false_ne_true (Eq.trans (Eq.symm hb) (by assumption))).elim | exact (Bool.false_ne_true (Eq.trans (Eq.symm (by assumption)) hb)).elim)))
            | (with_reducible refine Both.mk ?_ ?_)
            | ((with_reducible refine And.intro ?_ ?_); (focus (first | rfl | omega | (split <;> omega) | (refine ⟨?_, ?_, ?_⟩ <;> first | rfl | omega | (split <;> omega)) | assumption | (refine ⟨?_, ?_⟩ <;> omega) | (refine ⟨?_, ?_, ?_⟩ <;> omega) | (refine ⟨?_, ?_, ?_, ?_⟩ <;> omega) | (dsimp only [maxLen]; refine ⟨?_, ?_⟩ <;> omega) | (refine ⟨rfl, ?_⟩ <;> omega) | exact ⟨rfl, rfl⟩ | exact ⟨rfl, rfl, by omega⟩ | (simp only [Int.toNat_natCast, Nat.zero_add, Nat.add_zero]; first | omega | (refine ⟨?_, ?_⟩ <;> omega) | (refine ⟨?_, ?_, ?_⟩ <;> omega)))))
            | ((with_reducible refine Or.inl (And.intro ?_ (And.intro ?_ ?_))); (focus (rfl)); (focus (refine ⟨?_, ?_, ?_, ?_⟩ <;> first | rfl | omega)))
            | ((with_reducible refine Or.inr (Or.inl (And.intro ?_ ?_))); (focus (refine ⟨?_, ?_, ?_⟩ <;> first | rfl | omega)))
            | ((with_reducible refine Or.inr (Or.inr (Or.inl (And.intro ?_ ?_)))); (focus (refine ⟨?_, ?_, ?_, ?_, ?_⟩ <;> first | rfl | omega)))
            | ((with_reducible refine Or.inr (Or.inr (Or.inr (And.intro ?_ ?_)))); (focus (refine ⟨?_, ?_, ?_, ?_, ?_, ?_, ?_⟩ <;> first | rfl | omega)))
            | (with_reducible intro hc; (try simp only [capsP, and_true] at hc); (try (exfalso; omega)))
            | ((fail_if_success (with_reducible first | refine And.intro ?_ ?_ | refine Or.inl ?_ | intro _)); (conv => whnf); (fail_if_success (fail_if_success (with_reducible first | apply LoopK.mk | apply CallK.mk | apply FinK.mk | refine Exists.intro ?_ ?_ | refine Both.mk ?_ ?_ | refine And.intro ?_ ?_ | refine Or.inl ?_ | intro _))))))
        refine FinK.mk ⟨[0], _, [.one .no], rfl, ?_⟩
        (repeat' (first | (refine And.intro ?_ ?_) | exact trivial | rfl | exact Nat.le_refl _ | exact (fun _ _ => rfl) | exact all_one (by rfl) | (simp only [Int.toNat_natCast, Nat.zero_add, Nat.add_zero]; done))))
  · have hd : ¬ (1 ≤ depth ∧ depth ≤ 64) := fun h => hq ((okD_iff depth).2 h)
    refine CallK.mk2 (σ := []) (nl := []) (inew_no (qD depth) hq) rfl rfl (by (try simp only [givesF, setF, updF, Fam.zeroth, Fam.rk, Ck.rk, C.rk, E.rk, T.rk, key, List.map_cons, List.map_nil, List.cons_append, List.nil_append, List.length_cons, List.length_nil, Option.map_some, Option.bind_some, Nat.reduceAdd, Nat.zero_add, Nat.add_zero, Nat.add_sub_cancel_left, Int.toNat_natCast, reps, List.all_cons, List.all_nil, C.flat, List.append_eq, Bool.not_true, Bool.and_true, Bool.or_false, Bool.or_self, Bool.not_false, List.append_nil, Bool.and_self]); rfl) (by (repeat' (first | (refine And.intro ?_ ?_) | exact trivial | rfl | exact Nat.le_refl _ | exact (fun _ _ => rfl) | exact all_one (by rfl) | (simp only [Int.toNat_natCast, Nat.zero_add, Nat.add_zero]; done)))) ?_
    rintro v h' ⟨rfl, rfl⟩ hcaps
    refine ret_mk (by (try simp only [givesF, setF, updF, Fam.zeroth, Fam.rk, Ck.rk, C.rk, E.rk, T.rk, key, List.map_cons, List.map_nil, List.cons_append, List.nil_append, List.length_cons, List.length_nil, Option.map_some, Option.bind_some, Nat.reduceAdd, Nat.zero_add, Nat.add_zero, Nat.add_sub_cancel_left, Int.toNat_natCast, reps, List.all_cons, List.all_nil, C.flat, List.append_eq, Bool.not_true, Bool.and_true, Bool.or_false, Bool.or_self, Bool.not_false, List.append_nil, Bool.and_self]); rfl) (by (try simp only [givesF, setF, updF, Fam.zeroth, Fam.rk, Ck.rk, C.rk, E.rk, T.rk, key, List.map_cons, List.map_nil, List.cons_append, List.nil_append, List.length_cons, List.length_nil, Option.map_some, Option.bind_some, Nat.reduceAdd, Nat.zero_add, Nat.add_zero, Nat.add_sub_cancel_left, Int.toNat_natCast, reps, List.all_cons, List.all_nil, C.flat, List.append_eq, Bool.not_true, Bool.and_true, Bool.or_false, Bool.or_self, Bool.not_false, List.append_nil, Bool.and_self]); rfl) ?_
    repeat' (first
      | ((fail_if_success (with_reducible first | apply LoopK.mk | apply CallK.mk | apply FinK.mk | refine Exists.intro ?_ ?_)); first
        | ((with_reducible refine And.intro (fun (hb : _ = true) => ?_) (fun (hb : _ = false) => ?_)) <;> (try simp only [decide_eq_true_eq, decide_eq_false_iff_not, Bool.not_eq_true', Bool.not_eq_false', Bool.and_eq_true, Bool.and_eq_false_iff, Bool.or_eq_true, Bool.or_eq_false_iff, Bool.and_true, Int.not_lt, Int.not_le, not_true_eq_false, or_self, true_and, Bool.true_eq_false, Bool.false_eq_true, reduceCtorEq, not_false_eq_true, decide_true, decide_false, Int.toNat_natCast, Nat.zero_add] at hb) <;> (try (first | (exfalso; omega) | exact (Bool.false_ne_true (Eq.trans (Eq.symm hb) (by assumption))).elim | exact (Bool.false_ne_true (Eq.trans (Eq.symm (by assumption)) hb)).elim)))
        | (with_reducible refine Both.mk ?_ ?_)
        | ((with_reducible refine And.intro ?_ ?_); (focus (first | rfl | omega | (split <;> omega) | (refine ⟨?_, ?_, ?_⟩ <;> first | rfl | omega | (split <;> omega)) | assumption | (refine ⟨?_, ?_⟩ <;> omega) | (refine ⟨?_, ?_, ?_⟩ <;> omega) | (refine ⟨?_, ?_, ?_, ?_⟩ <;> omega) | (dsimp only [maxLen]; refine ⟨?_, ?_⟩ <;> omega) | (refine ⟨rfl, ?_⟩ <;> omega) | exact ⟨rfl, rfl⟩ | exact ⟨rfl, rfl, by omega⟩ | (simp only [Int.toNat_natCast, Nat.zero_add, Nat.add_zero]; first | omega | (refine ⟨?_, ?_⟩ <;> omega) | (refine ⟨?_, ?_, ?_⟩ <;> omega)))))
        | ((with_reducible refine Or.inl (And.intro ?_ (And.intro ?_ ?_))); (focus (rfl)); (focus (refine ⟨?_, ?_, ?_, ?_⟩ <;> first | rfl | omega)))
        | ((with_reducible refine Or.inr (Or.inl (And.intro ?_ ?_))); (focus (refine ⟨?_, ?_, ?_⟩ <;> first | rfl | omega)))
        | ((with_reducible refine Or.inr (Or.inr (Or.inl (And.intro ?_ ?_)))); (focus (refine ⟨?_, ?_, ?_, ?_, ?_⟩ <;> first | rfl | omega)))
        | ((with_reducible refine Or.inr (Or.inr (Or.inr (And.intro ?_ ?_)))); (focus (refine ⟨?_, ?_, ?_, ?_, ?_, ?_, ?_⟩ <;> first | rfl | omega)))
        | (with_reducible intro hc; (try simp only [capsP, and_true] at hc); (try (exfalso; omega)))
        | ((fail_if_success (with_reducible first | refine And.intro ?_ ?_ | refine Or.inl ?_ | intro _)); (conv => whnf); (fail_if_success (fail_if_success (with_reducible first | apply LoopK.mk | apply CallK.mk | apply FinK.mk | refine Exists.intro ?_ ?_ | refine Both.mk ?_ ?_ | refine And.intro ?_ ?_ | refine Or.inl ?_ | intro _))))))
    all_goals (
      refine CallK.mk2 (σ := []) (nl := []) (cawake) rfl rfl (by (try simp only [givesF, setF, updF, Fam.zeroth, Fam.rk, Ck.rk, C.rk, E.rk, T.rk, key, List.map_cons, List.map_nil, List.cons_append, List.nil_append, List.length_cons, List.length_nil, Option.map_some, Option.bind_some, Nat.reduceAdd, Nat.zero_add, Nat.add_zero, Nat.add_sub_cancel_left, Int.toNat_natCast, reps, List.all_cons, List.all_nil, C.flat, List.append_eq, Bool.not_true, Bool.and_true, Bool.or_false, Bool.or_self, Bool.not_false, List.append_nil, Bool.and_self]); rfl) (by (repeat' (first | (refine And.intro ?_ ?_) | exact trivial | rfl | exact Nat.le_refl _ | exact (fun _ _ => rfl) | exact all_one (by rfl) | (simp only [Int.toNat_natCast, Nat.zero_add, Nat.add_zero]; done)))) ?_
      rintro v h' ⟨rfl, rfl⟩ hcaps
      refine ret_mk (by (try simp only [givesF, setF, updF, Fam.zeroth, Fam.rk, Ck.rk, C.rk, E.rk, T.rk, key, List.map_cons, List.map_nil, List.cons_append, List.nil_append, List.length_cons, List.length_nil, Option.map_some, Option.bind_some, Nat.reduceAdd, Nat.zero_add, Nat.add_zero, Nat.add_sub_cancel_left, Int.toNat_natCast, reps, List.all_cons, List.all_nil, C.flat, List.append_eq, Bool.not_true, Bool.and_true, Bool.or_false, Bool.or_self, Bool.not_false, List.append_nil, Bool.and_self]); rfl) (by (try simp only [givesF, setF, updF, Fam.zeroth, Fam.rk, Ck.rk, C.rk, E.rk, T.rk, key, List.map_cons, List.map_nil, List.cons_append, List.nil_append, List.length_cons, List.length_nil, Option.map_some, Option.bind_some, Nat.reduceAdd, Nat.zero_add, Nat.add_zero, Nat.add_sub_cancel_left, Int.toNat_natCast, reps, List.all_cons, List.all_nil, C.flat, List.append_eq, Bool.not_true, Bool.and_true, Bool.or_false, Bool.or_self, Bool.not_false, List.append_nil, Bool.and_self]); rfl) ?_
      repeat' (first
        | ((fail_if_success (with_reducible first | apply LoopK.mk | apply CallK.mk | apply FinK.mk | refine Exists.intro ?_ ?_)); first
          | ((with_reducible refine And.intro (fun (hb : _ = true) => ?_) (fun (hb : _ = false) => ?_)) <;> (try simp only [decide_eq_true_eq, decide_eq_false_iff_not, Bool.not_eq_true', Bool.not_eq_false', Bool.and_eq_true, Bool.and_eq_false_iff, Bool.or_eq_true, Bool.or_eq_false_iff, Bool.and_true, Int.not_lt, Int.not_le, not_true_eq_false, or_self, true_and, Bool.true_eq_false, Bool.false_eq_true, reduceCtorEq, not_false_eq_true, decide_true, decide_false, Int.toNat_natCast, Nat.zero_add] at hb) <;> (try (first | (exfalso; omega) | exact (Bool.false_ne_true (Eq.trans (Eq.symm hb) (by assumption))).elim | exact (Bool.false_ne_true (Eq.trans (Eq.symm (by assumption)) hb)).elim)))
          | (with_reducible refine Both.mk ?_ ?_)
          | ((with_reducible refine And.intro ?_ ?_); (focus (first | rfl | omega | (split <;> omega) | (refine ⟨?_, ?_, ?_⟩ <;> first | rfl | omega | (split <;> omega)) | assumption | (refine ⟨?_, ?_⟩ <;> omega) | (refine ⟨?_, ?_, ?_⟩ <;> omega) | (refine ⟨?_, ?_, ?_, ?_⟩ <;> omega) | (dsimp only [maxLen]; refine ⟨?_, ?_⟩ <;> omega) | (refine ⟨rfl, ?_⟩ <;> omega) | exact ⟨rfl, rfl⟩ | exact ⟨rfl, rfl, by omega⟩ | (simp only [Int.toNat_natCast, Nat.zero_add, Nat.add_zero]; first | omega | (refine ⟨?_, ?_⟩ <;> omega) | (refine ⟨?_, ?_, ?_⟩ <;> omega)))))
          | ((with_reducible refine Or.inl (And.intro ?_ (And.intro ?_ ?_))); (focus (rfl)); (focus (refine ⟨?_, ?_, ?_, ?_⟩ <;> first | rfl | omega)))
          | ((with_reducible refine Or.inr (Or.inl (And.intro ?_ ?_))); (focus (refine ⟨?_, ?_, ?_⟩ <;> first | rfl | omega)))
          | ((with_reducible refine Or.inr (Or.inr (Or.inl (And.intro ?_ ?_)))); (focus (refine ⟨?_, ?_, ?_, ?_, ?_⟩ <;> first | rfl | omega)))
          | ((with_reducible refine Or.inr (Or.inr (Or.inr (And.intro ?_ ?_)))); (focus (refine ⟨?_, ?_, ?_, ?_, ?_, ?_, ?_⟩ <;> first | rfl | omega)))
          | (with_reducible intro hc; (try simp only [capsP, and_true] at hc); (try (exfalso; omega)))
          | ((fail_if_success (with_reducible first | refine And.intro ?_ ?_ | refine Or.inl ?_ | intro _)); (conv => whnf); (fail_if_success (fail_if_success (with_reducible first | apply LoopK.mk | apply CallK.mk | apply FinK.mk | refine Exists.intro ?_ ?_ | refine Both.mk ?_ ?_ | refine And.intro ?_ ?_ | refine Or.inl ?_ | intro _))))))
      refine FinK.mk ⟨[0], _, [.one .no], rfl, ?_⟩
      (repeat' (first | (refine And.intro ?_ ?_) | exact trivial | rfl | exact Nat.le_refl _ | exact (fun _ _ => rfl) | exact all_one (by rfl) | (simp only [Int.toNat_natCast, Nat.zero_add, Nat.add_zero]; done))))
end Go.Proofs.Ytohghplabennjaa

namespace Go.Proofs.Ytohghplabennjaa
open Go.X Go.RowKit
set_option linter.unusedSimpArgs false
set_option linter.unusedVariables false

theorem filter_eraseP {p : Smp → Bool} {M : List Smp} (h : M.Pairwise fun a b => ¬ (p a = true ∧ p b = true)) : (M.filter fun x => !p x) = M.eraseP p := by
  induction M with
  | nil => rfl
  | cons a M ih =>
    rw [List.pairwise_cons] at h
    rw [List.filter_cons, List.eraseP_cons]
    cases ha : p a with
    | false => simp [ih h.2]
    | true =>
      simp only [Bool.not_true, Bool.false_eq_true, if_false, cond_true]
      refine List.filter_eq_self.2 fun x hx => ?_
      have := h.1 x hx
      cases hpx : p x with
      | false => rfl
      | true => exact absurd ⟨ha, hpx⟩ this

theorem nodup_inj {M : List Smp} (h : M.Nodup) {i j : Nat} (hi : i < M.length) (hj : j < M.length) (e : M[i] = M[j]) : i = j := by
  rcases Nat.lt_trichotomy i j with hlt | heq | hlt
  · exact absurd e (List.pairwise_iff_getElem.1 h i j hi hj hlt)
  · exact heq
  · exact absurd e.symm (List.pairwise_iff_getElem.1 h j i hj hi hlt)

def sub (H G : List Smp) : List Smp := H.filter fun x => !decide (x ∈ G)
theorem sub_nil (H : List Smp) : sub H [] = H := by unfold sub; exact List.filter_eq_self.2 (fun x _ => by simp)

theorem sub_step {H G : List Smp} (hH : H.Nodup) (hG : G.Nodup) (hs : ∀ x ∈ G, x ∈ H) {k : Nat} (hk : k < G.length) :
    ∃ i, i < (sub H (G.take k)).length ∧ (sub H (G.take k)).getD i default = G.getD k default ∧ (∀ j, j < i → (sub H (G.take k)).getD j default ≠ G.getD k default) ∧ (sub H (G.take k)).eraseIdx i = sub H (G.take (k + 1)) := by
  have hM : (sub H (G.take k)).Nodup := hH.sublist List.filter_sublist
  have hmem : G.getD k default ∈ sub H (G.take k) := by
    unfold sub
    refine List.mem_filter.2 ⟨hs _ (getD_mem hk), ?_⟩
    rw [decide_eq_false]
    · rfl
    · intro hin
      obtain ⟨j, hj, he⟩ := List.getElem_of_mem hin
      rw [List.length_take] at hj
      rw [List.getElem_take, getD_lt hk] at he
      have := nodup_inj hG (by omega) hk he
      omega
  have hset : sub H (G.take (k + 1)) = (sub H (G.take k)).filter fun x => !(x == G.getD k default) := by
    unfold sub
    rw [List.filter_filter, take_snoc hk]
    refine List.filter_congr fun x _ => ?_
    generalize G.getD k default = a
    by_cases h1 : x ∈ G.take k <;> by_cases h2 : x = a <;> simp [h1, h2]
  generalize sub H (G.take k) = M at *
  generalize G.getD k default = a at *
  cases hf : M.findIdx? (fun x => x == a) with
  | none =>
    rw [List.findIdx?_eq_none_iff] at hf
    have := hf a hmem
    simp at this
  | some i =>
    obtain ⟨hi, h1, h2⟩ := List.findIdx?_eq_some_iff_getElem.1 hf
    refine ⟨i, hi, ?_, fun j hj => ?_, ?_⟩
    · rw [getD_lt hi]; simpa using h1
    · rw [getD_lt (by omega)]; have := h2 j hj; simpa using this
    · rw [hset, filter_eraseP, List.eraseP_eq_eraseIdx, hf]
      exact hM.imp (fun h hh => h (by simp at hh; rw [hh.1, hh.2]))

theorem Inv.nodup {l : List Smp} (h : Inv l) : l.Nodup := h.ks.imp (fun hn e => hn (by rw [e]; exact ⟨rfl, rfl⟩))

theorem filter_ne_idx {M : List Smp} (hM : M.Nodup) {k : Nat} (hk : k < M.length) : (M.filter fun x => !decide (x ∈ [M.getD k default])) = M.eraseIdx k := by
  obtain ⟨i, hi, h1, h2, h3⟩ := sub_step (H := M) (G := [M.getD k default]) hM (by simp) (by intro x hx; rw [List.mem_singleton.1 hx]; exact getD_mem hk) (k := 0) (by simp)
  simp only [List.take_zero, sub_nil] at hi h1 h2 h3
  have : i = k := by
    rw [getD_lt hi] at h1
    have h1 : M[i] = M[k] := by rw [h1, ← getD_lt hk]; rfl
    exact nodup_inj hM hi hk h1
  subst this
  rw [h3]
  rfl

theorem sub_gone (q : Qos) (l : List Smp) (t : Int) : sub l (gone q l t) = stay q l t := by
  unfold sub stay gone
  refine List.filter_congr fun x hx => ?_
  cases h : expd q x t <;> simp [List.mem_filter, hx, h]

theorem sub_era {l : List Smp} (h : Inv l) {w q : Int} {k : Nat} (hk : findI l w q = (k : Nat)) (hkl : k < l.length) : sub l [l.getD k default] = eraS l w q := by
  unfold sub
  rw [filter_ne_idx h.nodup hkl, era_cases.1 k hk]

theorem sub_add {q : Qos} {l : List Smp} (h : Inv l) {x : Smp} (h0 : addE q l x = 0) : sub (l ++ [x]) (outS q l x) = newS q l x ∧ (outS q l x).Nodup ∧ (∀ y ∈ outS q l x, y ∈ l ++ [x]) ∧ (l ++ [x]).Nodup := by
  obtain ⟨_, _, hf, _⟩ := add_zero h0
  have hno := findI_no hf
  have hx : x ∉ l := fun hx => hno x hx ⟨rfl, rfl⟩
  have hnd : (l ++ [x]).Nodup := by
    rw [List.nodup_append]
    exact ⟨h.nodup, by simp, fun a ha b hb e => hx (by rw [List.mem_singleton.1 hb] at e; exact e ▸ ha)⟩
  rw [(add_ok h0).1, (add_ok h0).2]
  unfold addL addO
  have hlt := old_lt q l x.w
  split
  · exact ⟨sub_nil _, by simp, by simp, hnd⟩
  · rename_i hn
    obtain ⟨k, hk⟩ := Int.eq_ofNat_of_zero_le (show 0 ≤ oldI q l x.w by omega)
    have hkl : k < l.length := by omega
    rw [hk]
    simp only [Int.toNat_natCast]
    refine ⟨?_, by simp, fun y hy => ?_, hnd⟩
    · unfold sub
      rw [List.filter_append, filter_ne_idx h.nodup hkl]
      congr 1
      have : x ≠ l.getD k default := fun e => hx (e ▸ getD_mem hkl)
      generalize l.getD k default = a at *
      simp [this]
    · rw [List.mem_singleton.1 hy]
      exact List.mem_append_left _ (getD_mem hkl)

set_option maxRecDepth 10000 in
theorem cdrop (l : List Smp) (c : Nat) (s : Smp) (k : Nat) (hk : k < l.length) (he : l.getD k default = s) (hne : ∀ j, j < k → l.getD j default ≠ s) (hl : l.length ≤ 1000000) :
    Ctr Try.prog 17 [.c (.sl 0 0 4 0 l.length c), .a (encS s)] [.one (smps true l c)]
      fun v h => ∃ c', v = .t [.c (.sl 1 0 4 0 (l.eraseIdx k).length c'), .c .tt] ∧ h = [.one (smps true l c), .one (smps true (l.eraseIdx k) c')] := by
  refine Ctr.mk' tbv mixed Try.func17 rfl rfl rfl (fun _ _ => by kernel_rfl) (by kernel_rfl) (by rfl) (by rfl) (by exact trivial) ?_
  repeat' (first
    | ((fail_if_success (with_reducible first | apply LoopK.mk | apply CallK.mk | apply FinK.mk | refine Exists.intro ?_ ?_)); first
      | ((with_reducible refine And.intro (fun (hb : _ = true) => ?_) (fun (hb : _ = false) => ?_)) <;> (try simp only [decide_eq_true_eq, decide_eq_false_iff_not, Bool.not_eq_true', Bool.not_eq_false', Bool.and_eq_true, Bool.and_eq_false_iff, Bool.or_eq_true, Bool.or_eq_false_iff, Bool.and_true, Int.not_lt, Int.not_le, not_true_eq_false, or_self, true_and, Bool.true_eq_false, Bool.false_eq_true, reduceCtorEq, not_false_eq_true, beq_self_eq_true, decide_true, decide_false, Int.toNat_natCast, Nat.zero_add] at hb) <;> (try (first | (exfalso; omega) | exact (Bool.false_ne_true (Eq.trans (Eq.symm hb) (by assumption))).elim | exact (Bool.false_ne_true (Eq.trans (Eq.symm (by assumption)) hb)).elim)))
      | (with_reducible refine Both.mk ?_ ?_)
      | ((with_reducible refine And.intro ?_ ?_); (focus (first | rfl | omega | (split <;> omega) | (refine ⟨?_, ?_, ?_⟩ <;> first | rfl | omega | (split <;> omega)) | assumption | (refine ⟨?_, ?_⟩ <;> omega) | (refine ⟨?_, ?_, ?_⟩ <;> omega) | (refine ⟨?_, ?_, ?_, ?_⟩ <;> omega) | (dsimp only [maxLen]; refine ⟨?_, ?_⟩ <;> omega) | (refine ⟨rfl, ?_⟩ <;> omega) | exact ⟨rfl, rfl⟩ | exact ⟨rfl, rfl, by omega⟩ | (simp only [Int.toNat_natCast, Nat.zero_add, Nat.add_zero]; first | omega | (refine ⟨?_, ?_⟩ <;> omega) | (refine ⟨?_, ?_, ?_⟩ <;> omega)))))
      | ((with_reducible refine Or.inl (And.intro ?_ (And.intro ?_ ?_))); (focus (rfl)); (focus (refine ⟨?_, ?_, ?_, ?_⟩ <;> first | rfl | omega)))
      | ((with_reducible refine Or.inr (Or.inl (And.intro ?_ ?_))); (focus (refine ⟨?_, ?_, ?_⟩ <;> first | rfl | omega)))
      | ((with_reducible refine Or.inr (Or.inr (Or.inl (And.intro ?_ ?_)))); (focus (refine ⟨?_, ?_, ?_, ?_, ?_⟩ <;> first | rfl | omega)))
      | ((with_reducible refine Or.inr (Or.inr (Or.inr (And.intro ?_ ?_)))); (focus (refine ⟨?_, ?_, ?_, ?_, ?_, ?_, ?_⟩ <;> first | rfl | omega)))
      | (with_reducible intro hc; (try simp only [capsP, and_true] at hc); (try (exfalso; omega)))
      | ((fail_if_success (with_reducible first | refine And.intro ?_ ?_ | refine Or.inl ?_ | intro _)); (conv => whnf); (fail_if_success (fail_if_success (with_reducible first | apply LoopK.mk | apply CallK.mk | apply FinK.mk | refine Exists.intro ?_ ?_ | refine Both.mk ?_ ?_ | refine And.intro ?_ ?_ | refine Or.inl ?_ | intro _))))))
  refine LoopK.mk' {j : Nat // j ≤ k}
    (fun ⟨j, _⟩ => ⟨[(0, .c (.sl 0 0 4 0 l.length c)), (3, .c (.p 1 0 0)), (6, .c (.i .i64 j))], [.one (smps true l c), .one (.cells true (encS s))]⟩) (fun j => k - j.1)
    ⟨⟨0, Nat.zero_le _⟩, [0, 1], ?_⟩ ?_
  · (repeat' (first | (refine And.intro ?_ ?_) | exact trivial | rfl | exact Nat.le_refl _ | exact (fun _ _ => rfl) | exact all_one (by rfl) | (simp only [Int.toNat_natCast, Nat.zero_add, Nat.add_zero]; done)))
  rintro ⟨j, hj⟩
  rcases Nat.lt_or_eq_of_le hj with hlt | heq
  · have hn := hne j hlt
    rw [ne_eq, Smp.ext4] at hn
    repeat' (first
      | ((fail_if_success (with_reducible first | apply LoopK.mk | apply CallK.mk | apply FinK.mk | refine Exists.intro ?_ ?_)); first
        | ((with_reducible refine And.intro (fun (hb : _ = true) => ?_) (fun (hb : _ = false) => ?_)) <;> (try simp only [decide_eq_true_eq, decide_eq_false_iff_not, Bool.not_eq_true', Bool.not_eq_false', Bool.and_eq_true, Bool.and_eq_false_iff, Bool.or_eq_true, Bool.or_eq_false_iff, Bool.and_true, Int.not_lt, Int.not_le, not_true_eq_false, or_self, true_and, Bool.true_eq_false, Bool.false_eq_true, reduceCtorEq, not_false_eq_true, beq_self_eq_true, decide_true, decide_false, Int.toNat_natCast, Nat.zero_add] at hb) <;> (try (first | (exfalso; omega) | exact (Bool.false_ne_true (Eq.trans (Eq.symm hb) (by assumption))).elim | exact (Bool.false_ne_true (Eq.trans (Eq.symm (by assumption)) hb)).elim)))
        | (with_reducible refine Both.mk ?_ ?_)
        | ((with_reducible refine And.intro ?_ ?_); (focus (first | rfl | omega | (split <;> omega) | (refine ⟨?_, ?_, ?_⟩ <;> first | rfl | omega | (split <;> omega)) | assumption | (refine ⟨?_, ?_⟩ <;> omega) | (refine ⟨?_, ?_, ?_⟩ <;> omega) | (refine ⟨?_, ?_, ?_, ?_⟩ <;> omega) | (dsimp only [maxLen]; refine ⟨?_, ?_⟩ <;> omega) | (refine ⟨rfl, ?_⟩ <;> omega) | exact ⟨rfl, rfl⟩ | exact ⟨rfl, rfl, by omega⟩ | (simp only [Int.toNat_natCast, Nat.zero_add, Nat.add_zero]; first | omega | (refine ⟨?_, ?_⟩ <;> omega) | (refine ⟨?_, ?_, ?_⟩ <;> omega)))))
        | ((with_reducible refine Or.inl (And.intro ?_ (And.intro ?_ ?_))); (focus (rfl)); (focus (refine ⟨?_, ?_, ?_, ?_⟩ <;> first | rfl | omega)))
        | ((with_reducible refine Or.inr (Or.inl (And.intro ?_ ?_))); (focus (refine ⟨?_, ?_, ?_⟩ <;> first | rfl | omega)))
        | ((with_reducible refine Or.inr (Or.inr (Or.inl (And.intro ?_ ?_)))); (focus (refine ⟨?_, ?_, ?_, ?_, ?_⟩ <;> first | rfl | omega)))
        | ((with_reducible refine Or.inr (Or.inr (Or.inr (And.intro ?_ ?_)))); (focus (refine ⟨?_, ?_, ?_, ?_, ?_, ?_, ?_⟩ <;> first | rfl | omega)))
        | (with_reducible intro hc; (try simp only [capsP, and_true] at hc); (try (exfalso; omega)))
        | ((fail_if_success (with_reducible first | refine And.intro ?_ ?_ | refine Or.inl ?_ | intro _)); (conv => whnf); (fail_if_success (fail_if_success (with_reducible first | apply LoopK.mk | apply CallK.mk | apply FinK.mk | refine Exists.intro ?_ ?_ | refine Both.mk ?_ ?_ | refine And.intro ?_ ?_ | refine Or.inl ?_ | intro _))))))
    · exact absurd hb hn
    · refine ⟨⟨j + 1, by omega⟩, [0, 1], by simp only; omega, ?_⟩
      (repeat' (first | (refine And.intro ?_ ?_) | exact trivial | rfl | exact Nat.le_refl _ | exact (fun _ _ => rfl) | exact all_one (by rfl) | (simp only [Int.toNat_natCast, Nat.zero_add, Nat.add_zero]; done)))
  · subst heq
    have hn := (Smp.ext4 _ _).1 he
    repeat' (first
      | ((fail_if_success (with_reducible first | apply LoopK.mk | apply CallK.mk | apply FinK.mk | refine Exists.intro ?_ ?_)); first
        | ((with_reducible refine And.intro (fun (hb : _ = true) => ?_) (fun (hb : _ = false) => ?_)) <;> (try simp only [decide_eq_true_eq, decide_eq_false_iff_not, Bool.not_eq_true', Bool.not_eq_false', Bool.and_eq_true, Bool.and_eq_false_iff, Bool.or_eq_true, Bool.or_eq_false_iff, Bool.and_true, Int.not_lt, Int.not_le, not_true_eq_false, or_self, true_and, Bool.true_eq_false, Bool.false_eq_true, reduceCtorEq, not_false_eq_true, beq_self_eq_true, decide_true, decide_false, Int.toNat_natCast, Nat.zero_add] at hb) <;> (try (first | (exfalso; omega) | exact (Bool.false_ne_true (Eq.trans (Eq.symm hb) (by assumption))).elim | exact (Bool.false_ne_true (Eq.trans (Eq.symm (by assumption)) hb)).elim)))
        | (with_reducible refine Both.mk ?_ ?_)
        | ((with_reducible refine And.intro ?_ ?_); (focus (first | rfl | omega | (split <;> omega) | (refine ⟨?_, ?_, ?_⟩ <;> first | rfl | omega | (split <;> omega)) | assumption | (refine ⟨?_, ?_⟩ <;> omega) | (refine ⟨?_, ?_, ?_⟩ <;> omega) | (refine ⟨?_, ?_, ?_, ?_⟩ <;> omega) | (dsimp only [maxLen]; refine ⟨?_, ?_⟩ <;> omega) | (refine ⟨rfl, ?_⟩ <;> omega) | exact ⟨rfl, rfl⟩ | exact ⟨rfl, rfl, by omega⟩ | (simp only [Int.toNat_natCast, Nat.zero_add, Nat.add_zero]; first | omega | (refine ⟨?_, ?_⟩ <;> omega) | (refine ⟨?_, ?_, ?_⟩ <;> omega)))))
        | ((with_reducible refine Or.inl (And.intro ?_ (And.intro ?_ ?_))); (focus (rfl)); (focus (refine ⟨?_, ?_, ?_, ?_⟩ <;> first | rfl | omega)))
        | ((with_reducible refine Or.inr (Or.inl (And.intro ?_ ?_))); (focus (refine ⟨?_, ?_, ?_⟩ <;> first | rfl | omega)))
        | ((with_reducible refine Or.inr (Or.inr (Or.inl (And.intro ?_ ?_)))); (focus (refine ⟨?_, ?_, ?_, ?_, ?_⟩ <;> first | rfl | omega)))
        | ((with_reducible refine Or.inr (Or.inr (Or.inr (And.intro ?_ ?_)))); (focus (refine ⟨?_, ?_, ?_, ?_, ?_, ?_, ?_⟩ <;> first | rfl | omega)))
        | (with_reducible intro hc; (try simp only [capsP, and_true] at hc); (try (exfalso; omega)))
        | ((fail_if_success (with_reducible first | refine And.intro ?_ ?_ | refine Or.inl ?_ | intro _)); (conv => whnf); (fail_if_success (fail_if_success (with_reducible first | apply LoopK.mk | apply CallK.mk | apply FinK.mk | refine Exists.intro ?_ ?_ | refine Both.mk ?_ ?_ | refine And.intro ?_ ?_ | refine Or.inl ?_ | intro _))))))
    · rename Nat => c4
      refine FinK.mk ⟨[0, 3], _, _, ⟨c4, rfl, rfl⟩, ?_⟩
      (repeat' (first | (refine And.intro ?_ ?_) | exact trivial | rfl | exact Nat.le_refl _ | exact (fun _ _ => rfl) | exact all_one (by rfl) | (simp only [Int.toNat_natCast, Nat.zero_add, Nat.add_zero]; done)))
      all_goals (try rw [erase_len hk])
      all_goals (try simp only [Int.toNat_natCast])
      all_goals (try omega)
      all_goals (
        intro i hi
        unfold appF rowOf
        rw [getD_erase]
        by_cases h : i < j
        · rw [if_pos (by omega), if_pos h]
          simp only [Nat.zero_add]
        · rw [if_neg (by omega), if_neg h]
          congr 2
          split <;> omega)
    · exfalso
      rcases hb with h | h | h | h
      · exact h hn.1
      · exact h hn.2.1
      · exact h hn.2.2.1
      · exact h hn.2.2.2
end Go.Proofs.Ytohghplabennjaa
