/- Part 3 of the texts that a walk of this program rests on: an abstract machine, its soundness, contracts of functions. No statement of the seat is proved in this file. -/
import Derived.Test.YtohghplabennjaaZ2
namespace Go.Proofs.Ytohghplabennjaa
open Go.X
set_option linter.unusedSimpArgs false
set_option linter.unusedVariables false

def getS (l : List Smp) (w q : Int) : Smp × Bool := match l.findIdx? (fun x => x.w == w && x.q == q) with | some i => (l.getD i default, true) | none => (default, false)
theorem find_cases (l : List Smp) (w q : Int) : (∃ k : Nat, k < l.length ∧ findI l w q = k ∧ getS l w q = (l.getD k default, true)) ∨ (findI l w q = -1 ∧ getS l w q = (default, false)) := by
  unfold findI getS
  cases h : l.findIdx? (fun x => x.w == w && x.q == q) with
  | none => exact .inr ⟨rfl, rfl⟩
  | some k =>
    obtain ⟨hk, _⟩ := List.findIdx?_eq_some_iff_getElem.1 h
    exact .inl ⟨k, hk, rfl, rfl⟩

set_option maxRecDepth 10000 in
theorem rget (q : Qos) (l : List Smp) (c : Nat) (w sq : Int) (hl : l.length ≤ 1000000) :
    Ctr Try.prog 31 [.c (.p 0 0 0), .c (.i .i64 w), .c (.i .i64 sq)] [.one (hist 1 q l.length c), .one (smps true l c)]
      fun v h => v = .t [.a (encS (getS l w sq).1), .c (.b (getS l w sq).2)] ∧ h = [.one (hist 1 q l.length c), .one (smps true l c)] := by
  refine Ctr.mk' tbv mixed Try.func31 rfl rfl rfl (fun _ _ => by kernel_rfl) (by kernel_rfl) (by rfl) (by rfl) (by exact trivial) ?_
  repeat' (first
    | ((fail_if_success (with_reducible first | apply LoopK.mk | apply CallK.mk | apply FinK.mk)); first
      | ((with_reducible refine And.intro (fun (hb : _ = true) => ?_) (fun (hb : _ = false) => ?_)) <;> (try simp only [decide_eq_true_eq, decide_eq_false_iff_not, Bool.not_eq_true', Bool.not_eq_false', Bool.and_eq_true, Bool.and_eq_false_iff, Bool.or_eq_true, Bool.or_eq_false_iff, Bool.and_true, Int.not_lt, Int.not_le, not_true_eq_false, or_self, true_and, Bool.true_eq_false, Bool.false_eq_true, reduceCtorEq, not_false_eq_true, decide_true, decide_false, Int.toNat_natCast, Nat.zero_add] at hb) <;> (try (first | (exfalso; omega) | exact (Bool.false_ne_true (Eq.trans (Eq.symm hb) (by assumption))).elim | exact (Bool.false_ne_true (Eq.trans (Eq.symm (by assumption)) hb)).elim)))
      | (with_reducible refine Both.mk ?_ ?_)
      | ((with_reducible refine And.intro ?_ ?_); (focus (first | rfl | omega | (split <;> omega) | (refine ⟨?_, ?_, ?_⟩ <;> first | rfl | omega | (split <;> omega)) | assumption | (refine ⟨?_, ?_⟩ <;> omega) | (refine ⟨?_, ?_, ?_⟩ <;> omega) | (refine ⟨?_, ?_, ?_, ?_⟩ <;> omega) | (dsimp only [maxLen]; refine ⟨?_, ?_⟩ <;> omega) | (refine ⟨rfl, ?_⟩ <;> omega) | exact ⟨rfl, rfl⟩ | exact ⟨rfl, rfl, by omega⟩)))
      | ((with_reducible refine Or.inl (And.intro ?_ (And.intro ?_ ?_))); (focus (rfl)); (focus (refine ⟨?_, ?_, ?_, ?_⟩ <;> first | rfl | omega)))
      | ((with_reducible refine Or.inr (Or.inl (And.intro ?_ ?_))); (focus (refine ⟨?_, ?_, ?_⟩ <;> first | rfl | omega)))
      | ((with_reducible refine Or.inr (Or.inr (Or.inl (And.intro ?_ ?_)))); (focus (refine ⟨?_, ?_, ?_, ?_, ?_⟩ <;> first | rfl | omega)))
      | ((with_reducible refine Or.inr (Or.inr (Or.inr (And.intro ?_ ?_)))); (focus (refine ⟨?_, ?_, ?_, ?_, ?_, ?_, ?_⟩ <;> first | rfl | omega)))
      | (with_reducible intro hc; (try simp only [capsP, and_true] at hc); (try (exfalso; omega)))
      | ((fail_if_success (with_reducible first | refine And.intro ?_ ?_ | refine Or.inl ?_ | intro _)); (conv => whnf); (fail_if_success (fail_if_success (with_reducible first | apply LoopK.mk | apply CallK.mk | apply FinK.mk | refine Both.mk ?_ ?_ | refine And.intro ?_ ?_ | refine Or.inl ?_ | intro _))))))
  refine CallK.mk2 (σ := [.whole 0, .whole 1]) (nl := []) (rfind q l c w sq hl) rfl rfl (by (try simp only [givesF, setF, updF, Fam.zeroth, Fam.rk, Ck.rk, C.rk, E.rk, T.rk, key, List.map_cons, List.map_nil, List.cons_append, List.nil_append, List.length_cons, List.length_nil, Option.map_some, Option.bind_some, Nat.reduceAdd, Nat.zero_add, Nat.add_zero, Nat.add_sub_cancel_left, Int.toNat_natCast, reps, List.all_cons, List.all_nil, C.flat, List.append_eq, Bool.not_true, Bool.and_true, Bool.or_false, Bool.or_self, Bool.not_false, List.append_nil, Bool.and_self]); rfl) (by (repeat' (first | (refine And.intro ?_ ?_) | exact trivial | rfl | exact Nat.le_refl _ | exact (fun _ _ => rfl) | (simp only [Int.toNat_natCast, Nat.zero_add, Nat.add_zero]; done)))) ?_
  rintro v h' ⟨rfl, rfl⟩ hcaps
  rcases find_cases l w sq with ⟨k, hk, e, e2⟩ | ⟨e, e2⟩
  · rw [e, e2]
    repeat' (first
      | ((fail_if_success (with_reducible first | apply LoopK.mk | apply CallK.mk | apply FinK.mk)); first
        | ((with_reducible refine And.intro (fun (hb : _ = true) => ?_) (fun (hb : _ = false) => ?_)) <;> (try simp only [decide_eq_true_eq, decide_eq_false_iff_not, Bool.not_eq_true', Bool.not_eq_false', Bool.and_eq_true, Bool.and_eq_false_iff, Bool.or_eq_true, Bool.or_eq_false_iff, Bool.and_true, Int.not_lt, Int.not_le, not_true_eq_false, or_self, true_and, Bool.true_eq_false, Bool.false_eq_true, reduceCtorEq, not_false_eq_true, decide_true, decide_false, Int.toNat_natCast, Nat.zero_add] at hb) <;> (try (first | (exfalso; omega) | exact (Bool.false_ne_true (Eq.trans (Eq.symm hb) (by assumption))).elim | exact (Bool.false_ne_true (Eq.trans (Eq.symm (by assumption)) hb)).elim)))
        | (with_reducible refine Both.mk ?_ ?_)
        | ((with_reducible refine And.intro ?_ ?_); (focus (first | rfl | omega | (split <;> omega) | (refine ⟨?_, ?_, ?_⟩ <;> first | rfl | omega | (split <;> omega)) | assumption | (refine ⟨?_, ?_⟩ <;> omega) | (refine ⟨?_, ?_, ?_⟩ <;> omega) | (refine ⟨?_, ?_, ?_, ?_⟩ <;> omega) | (dsimp only [maxLen]; refine ⟨?_, ?_⟩ <;> omega) | (refine ⟨rfl, ?_⟩ <;> omega) | exact ⟨rfl, rfl⟩ | exact ⟨rfl, rfl, by omega⟩)))
        | ((with_reducible refine Or.inl (And.intro ?_ (And.intro ?_ ?_))); (focus (rfl)); (focus (refine ⟨?_, ?_, ?_, ?_⟩ <;> first | rfl | omega)))
        | ((with_reducible refine Or.inr (Or.inl (And.intro ?_ ?_))); (focus (refine ⟨?_, ?_, ?_⟩ <;> first | rfl | omega)))
        | ((with_reducible refine Or.inr (Or.inr (Or.inl (And.intro ?_ ?_)))); (focus (refine ⟨?_, ?_, ?_, ?_, ?_⟩ <;> first | rfl | omega)))
        | ((with_reducible refine Or.inr (Or.inr (Or.inr (And.intro ?_ ?_)))); (focus (refine ⟨?_, ?_, ?_, ?_, ?_, ?_, ?_⟩ <;> first | rfl | omega)))
        | (with_reducible intro hc; (try simp only [capsP, and_true] at hc); (try (exfalso; omega)))
        | ((fail_if_success (with_reducible first | refine And.intro ?_ ?_ | refine Or.inl ?_ | intro _)); (conv => whnf); (fail_if_success (fail_if_success (with_reducible first | apply LoopK.mk | apply CallK.mk | apply FinK.mk | refine Both.mk ?_ ?_ | refine And.intro ?_ ?_ | refine Or.inl ?_ | intro _))))))
    refine FinK.mk ⟨[0, 1], _, _, ⟨rfl, rfl⟩, ?_⟩; (repeat' (first | (refine And.intro ?_ ?_) | exact trivial | rfl | exact Nat.le_refl _ | exact (fun _ _ => rfl) | (simp only [Int.toNat_natCast, Nat.zero_add, Nat.add_zero]; done)))
    all_goals simp only [Int.toNat_natCast, Nat.zero_add]
  · rw [e, e2]
    repeat' (first
      | ((fail_if_success (with_reducible first | apply LoopK.mk | apply CallK.mk | apply FinK.mk)); first
        | ((with_reducible refine And.intro (fun (hb : _ = true) => ?_) (fun (hb : _ = false) => ?_)) <;> (try simp only [decide_eq_true_eq, decide_eq_false_iff_not, Bool.not_eq_true', Bool.not_eq_false', Bool.and_eq_true, Bool.and_eq_false_iff, Bool.or_eq_true, Bool.or_eq_false_iff, Bool.and_true, Int.not_lt, Int.not_le, not_true_eq_false, or_self, true_and, Bool.true_eq_false, Bool.false_eq_true, reduceCtorEq, not_false_eq_true, decide_true, decide_false, Int.toNat_natCast, Nat.zero_add] at hb) <;> (try (first | (exfalso; omega) | exact (Bool.false_ne_true (Eq.trans (Eq.symm hb) (by assumption))).elim | exact (Bool.false_ne_true (Eq.trans (Eq.symm (by assumption)) hb)).elim)))
        | (with_reducible refine Both.mk ?_ ?_)
        | ((with_reducible refine And.intro ?_ ?_); (focus (first | rfl | omega | (split <;> omega) | (refine ⟨?_, ?_, ?_⟩ <;> first | rfl | omega | (split <;> omega)) | assumption | (refine ⟨?_, ?_⟩ <;> omega) | (refine ⟨?_, ?_, ?_⟩ <;> omega) | (refine ⟨?_, ?_, ?_, ?_⟩ <;> omega) | (dsimp only [maxLen]; refine ⟨?_, ?_⟩ <;> omega) | (refine ⟨rfl, ?_⟩ <;> omega) | exact ⟨rfl, rfl⟩ | exact ⟨rfl, rfl, by omega⟩)))
        | ((with_reducible refine Or.inl (And.intro ?_ (And.intro ?_ ?_))); (focus (rfl)); (focus (refine ⟨?_, ?_, ?_, ?_⟩ <;> first | rfl | omega)))
        | ((with_reducible refine Or.inr (Or.inl (And.intro ?_ ?_))); (focus (refine ⟨?_, ?_, ?_⟩ <;> first | rfl | omega)))
        | ((with_reducible refine Or.inr (Or.inr (Or.inl (And.intro ?_ ?_)))); (focus (refine ⟨?_, ?_, ?_, ?_, ?_⟩ <;> first | rfl | omega)))
        | ((with_reducible refine Or.inr (Or.inr (Or.inr (And.intro ?_ ?_)))); (focus (refine ⟨?_, ?_, ?_, ?_, ?_, ?_, ?_⟩ <;> first | rfl | omega)))
        | (with_reducible intro hc; (try simp only [capsP, and_true] at hc); (try (exfalso; omega)))
        | ((fail_if_success (with_reducible first | refine And.intro ?_ ?_ | refine Or.inl ?_ | intro _)); (conv => whnf); (fail_if_success (fail_if_success (with_reducible first | apply LoopK.mk | apply CallK.mk | apply FinK.mk | refine Both.mk ?_ ?_ | refine And.intro ?_ ?_ | refine Or.inl ?_ | intro _))))))
    refine FinK.mk ⟨[0, 1], _, _, ⟨rfl, rfl⟩, ?_⟩; (repeat' (first | (refine And.intro ?_ ?_) | exact trivial | rfl | exact Nat.le_refl _ | exact (fun _ _ => rfl) | (simp only [Int.toNat_natCast, Nat.zero_add, Nat.add_zero]; done)))
set_option maxRecDepth 10000 in
theorem iget (q : Qos) (l : List Smp) (c : Nat) (w sq : Int) (hl : l.length ≤ 1000000) :
    Ctr Try.prog 15 [.c (.p 0 0 0), .c (.i .i64 w), .c (.i .i64 sq)] [.one (hist 1 q l.length c), .one (smps true l c)]
      fun v h => v = .t [.a (encS (getS l w sq).1), .c (.b (getS l w sq).2)] ∧ h = [.one (hist 1 q l.length c), .one (smps true l c)] := by
  refine Ctr.mk' tbv mixed Try.func15 rfl rfl rfl (fun _ _ => by kernel_rfl) (by kernel_rfl) (by rfl) (by rfl) (by exact trivial) ?_
  repeat' (first
    | ((fail_if_success (with_reducible first | apply LoopK.mk | apply CallK.mk | apply FinK.mk)); first
      | ((with_reducible refine And.intro (fun (hb : _ = true) => ?_) (fun (hb : _ = false) => ?_)) <;> (try simp only [decide_eq_true_eq, decide_eq_false_iff_not, Bool.not_eq_true', Bool.not_eq_false', Bool.and_eq_true, Bool.and_eq_false_iff, Bool.or_eq_true, Bool.or_eq_false_iff, Bool.and_true, Int.not_lt, Int.not_le, not_true_eq_false, or_self, true_and, Bool.true_eq_false, Bool.false_eq_true, reduceCtorEq, not_false_eq_true, decide_true, decide_false, Int.toNat_natCast, Nat.zero_add] at hb) <;> (try (first | (exfalso; omega) | exact (Bool.false_ne_true (Eq.trans (Eq.symm hb) (by assumption))).elim | exact (Bool.false_ne_true (Eq.trans (Eq.symm (by assumption)) hb)).elim)))
      | (with_reducible refine Both.mk ?_ ?_)
      | ((with_reducible refine And.intro ?_ ?_); (focus (first | rfl | omega | (split <;> omega) | (refine ⟨?_, ?_, ?_⟩ <;> first | rfl | omega | (split <;> omega)) | assumption | (refine ⟨?_, ?_⟩ <;> omega) | (refine ⟨?_, ?_, ?_⟩ <;> omega) | (refine ⟨?_, ?_, ?_, ?_⟩ <;> omega) | (dsimp only [maxLen]; refine ⟨?_, ?_⟩ <;> omega) | (refine ⟨rfl, ?_⟩ <;> omega) | exact ⟨rfl, rfl⟩ | exact ⟨rfl, rfl, by omega⟩)))
      | ((with_reducible refine Or.inl (And.intro ?_ (And.intro ?_ ?_))); (focus (rfl)); (focus (refine ⟨?_, ?_, ?_, ?_⟩ <;> first | rfl | omega)))
      | ((with_reducible refine Or.inr (Or.inl (And.intro ?_ ?_))); (focus (refine ⟨?_, ?_, ?_⟩ <;> first | rfl | omega)))
      | ((with_reducible refine Or.inr (Or.inr (Or.inl (And.intro ?_ ?_)))); (focus (refine ⟨?_, ?_, ?_, ?_, ?_⟩ <;> first | rfl | omega)))
      | ((with_reducible refine Or.inr (Or.inr (Or.inr (And.intro ?_ ?_)))); (focus (refine ⟨?_, ?_, ?_, ?_, ?_, ?_, ?_⟩ <;> first | rfl | omega)))
      | (with_reducible intro hc; (try simp only [capsP, and_true] at hc); (try (exfalso; omega)))
      | ((fail_if_success (with_reducible first | refine And.intro ?_ ?_ | refine Or.inl ?_ | intro _)); (conv => whnf); (fail_if_success (fail_if_success (with_reducible first | apply LoopK.mk | apply CallK.mk | apply FinK.mk | refine Both.mk ?_ ?_ | refine And.intro ?_ ?_ | refine Or.inl ?_ | intro _))))))
  refine CallK.mk2 (σ := [.whole 0, .whole 1]) (nl := []) (ifind q l c w sq hl) rfl rfl (by (try simp only [givesF, setF, updF, Fam.zeroth, Fam.rk, Ck.rk, C.rk, E.rk, T.rk, key, List.map_cons, List.map_nil, List.cons_append, List.nil_append, List.length_cons, List.length_nil, Option.map_some, Option.bind_some, Nat.reduceAdd, Nat.zero_add, Nat.add_zero, Nat.add_sub_cancel_left, Int.toNat_natCast, reps, List.all_cons, List.all_nil, C.flat, List.append_eq, Bool.not_true, Bool.and_true, Bool.or_false, Bool.or_self, Bool.not_false, List.append_nil, Bool.and_self]); rfl) (by (repeat' (first | (refine And.intro ?_ ?_) | exact trivial | rfl | exact Nat.le_refl _ | exact (fun _ _ => rfl) | (simp only [Int.toNat_natCast, Nat.zero_add, Nat.add_zero]; done)))) ?_
  rintro v h' ⟨rfl, rfl⟩ hcaps
  rcases find_cases l w sq with ⟨k, hk, e, e2⟩ | ⟨e, e2⟩
  · rw [e, e2]
    repeat' (first
      | ((fail_if_success (with_reducible first | apply LoopK.mk | apply CallK.mk | apply FinK.mk)); first
        | ((with_reducible refine And.intro (fun (hb : _ = true) => ?_) (fun (hb : _ = false) => ?_)) <;> (try simp only [decide_eq_true_eq, decide_eq_false_iff_not, Bool.not_eq_true', Bool.not_eq_false', Bool.and_eq_true, Bool.and_eq_false_iff, Bool.or_eq_true, Bool.or_eq_false_iff, Bool.and_true, Int.not_lt, Int.not_le, not_true_eq_false, or_self, true_and, Bool.true_eq_false, Bool.false_eq_true, reduceCtorEq, not_false_eq_true, decide_true, decide_false, Int.toNat_natCast, Nat.zero_add] at hb) <;> (try (first | (exfalso; omega) | exact (Bool.false_ne_true (Eq.trans (Eq.symm hb) (by assumption))).elim | exact (Bool.false_ne_true (Eq.trans (Eq.symm (by assumption)) hb)).elim)))
        | (with_reducible refine Both.mk ?_ ?_)
        | ((with_reducible refine And.intro ?_ ?_); (focus (first | rfl | omega | (split <;> omega) | (refine ⟨?_, ?_, ?_⟩ <;> first | rfl | omega | (split <;> omega)) | assumption | (refine ⟨?_, ?_⟩ <;> omega) | (refine ⟨?_, ?_, ?_⟩ <;> omega) | (refine ⟨?_, ?_, ?_, ?_⟩ <;> omega) | (dsimp only [maxLen]; refine ⟨?_, ?_⟩ <;> omega) | (refine ⟨rfl, ?_⟩ <;> omega) | exact ⟨rfl, rfl⟩ | exact ⟨rfl, rfl, by omega⟩)))
        | ((with_reducible refine Or.inl (And.intro ?_ (And.intro ?_ ?_))); (focus (rfl)); (focus (refine ⟨?_, ?_, ?_, ?_⟩ <;> first | rfl | omega)))
        | ((with_reducible refine Or.inr (Or.inl (And.intro ?_ ?_))); (focus (refine ⟨?_, ?_, ?_⟩ <;> first | rfl | omega)))
        | ((with_reducible refine Or.inr (Or.inr (Or.inl (And.intro ?_ ?_)))); (focus (refine ⟨?_, ?_, ?_, ?_, ?_⟩ <;> first | rfl | omega)))
        | ((with_reducible refine Or.inr (Or.inr (Or.inr (And.intro ?_ ?_)))); (focus (refine ⟨?_, ?_, ?_, ?_, ?_, ?_, ?_⟩ <;> first | rfl | omega)))
        | (with_reducible intro hc; (try simp only [capsP, and_true] at hc); (try (exfalso; omega)))
        | ((fail_if_success (with_reducible first | refine And.intro ?_ ?_ | refine Or.inl ?_ | intro _)); (conv => whnf); (fail_if_success (fail_if_success (with_reducible first | apply LoopK.mk | apply CallK.mk | apply FinK.mk | refine Both.mk ?_ ?_ | refine And.intro ?_ ?_ | refine Or.inl ?_ | intro _))))))
    refine FinK.mk ⟨[0, 1], _, _, ⟨rfl, rfl⟩, ?_⟩; (repeat' (first | (refine And.intro ?_ ?_) | exact trivial | rfl | exact Nat.le_refl _ | exact (fun _ _ => rfl) | (simp only [Int.toNat_natCast, Nat.zero_add, Nat.add_zero]; done)))
    all_goals simp only [Int.toNat_natCast, Nat.zero_add]
  · rw [e, e2]
    repeat' (first
      | ((fail_if_success (with_reducible first | apply LoopK.mk | apply CallK.mk | apply FinK.mk)); first
        | ((with_reducible refine And.intro (fun (hb : _ = true) => ?_) (fun (hb : _ = false) => ?_)) <;> (try simp only [decide_eq_true_eq, decide_eq_false_iff_not, Bool.not_eq_true', Bool.not_eq_false', Bool.and_eq_true, Bool.and_eq_false_iff, Bool.or_eq_true, Bool.or_eq_false_iff, Bool.and_true, Int.not_lt, Int.not_le, not_true_eq_false, or_self, true_and, Bool.true_eq_false, Bool.false_eq_true, reduceCtorEq, not_false_eq_true, decide_true, decide_false, Int.toNat_natCast, Nat.zero_add] at hb) <;> (try (first | (exfalso; omega) | exact (Bool.false_ne_true (Eq.trans (Eq.symm hb) (by assumption))).elim | exact (Bool.false_ne_true (Eq.trans (Eq.symm (by assumption)) hb)).elim)))
        | (with_reducible refine Both.mk ?_ ?_)
        | ((with_reducible refine And.intro ?_ ?_); (focus (first | rfl | omega | (split <;> omega) | (refine ⟨?_, ?_, ?_⟩ <;> first | rfl | omega | (split <;> omega)) | assumption | (refine ⟨?_, ?_⟩ <;> omega) | (refine ⟨?_, ?_, ?_⟩ <;> omega) | (refine ⟨?_, ?_, ?_, ?_⟩ <;> omega) | (dsimp only [maxLen]; refine ⟨?_, ?_⟩ <;> omega) | (refine ⟨rfl, ?_⟩ <;> omega) | exact ⟨rfl, rfl⟩ | exact ⟨rfl, rfl, by omega⟩)))
        | ((with_reducible refine Or.inl (And.intro ?_ (And.intro ?_ ?_))); (focus (rfl)); (focus (refine ⟨?_, ?_, ?_, ?_⟩ <;> first | rfl | omega)))
        | ((with_reducible refine Or.inr (Or.inl (And.intro ?_ ?_))); (focus (refine ⟨?_, ?_, ?_⟩ <;> first | rfl | omega)))
        | ((with_reducible refine Or.inr (Or.inr (Or.inl (And.intro ?_ ?_)))); (focus (refine ⟨?_, ?_, ?_, ?_, ?_⟩ <;> first | rfl | omega)))
        | ((with_reducible refine Or.inr (Or.inr (Or.inr (And.intro ?_ ?_)))); (focus (refine ⟨?_, ?_, ?_, ?_, ?_, ?_, ?_⟩ <;> first | rfl | omega)))
        | (with_reducible intro hc; (try simp only [capsP, and_true] at hc); (try (exfalso; omega)))
        | ((fail_if_success (with_reducible first | refine And.intro ?_ ?_ | refine Or.inl ?_ | intro _)); (conv => whnf); (fail_if_success (fail_if_success (with_reducible first | apply LoopK.mk | apply CallK.mk | apply FinK.mk | refine Both.mk ?_ ?_ | refine And.intro ?_ ?_ | refine Or.inl ?_ | intro _))))))
    refine FinK.mk ⟨[0, 1], _, _, ⟨rfl, rfl⟩, ?_⟩; (repeat' (first | (refine And.intro ?_ ?_) | exact trivial | rfl | exact Nat.le_refl _ | exact (fun _ _ => rfl) | (simp only [Int.toNat_natCast, Nat.zero_add, Nat.add_zero]; done)))
def eraS (l : List Smp) (w q : Int) : List Smp := match l.findIdx? (fun x => x.w == w && x.q == q) with | some i => l.eraseIdx i | none => l
theorem era_cases {l : List Smp} {w q : Int} : (∀ k : Nat, findI l w q = k → eraS l w q = l.eraseIdx k) ∧ (findI l w q = -1 → eraS l w q = l) := by
  unfold eraS findI
  cases h : l.findIdx? (fun x => x.w == w && x.q == q) with
  | none => exact ⟨fun k hk => by simp only at hk; omega, fun _ => rfl⟩
  | some i => exact ⟨fun k hk => by simp only at hk ⊢; have : i = k := by omega
                                    rw [this], fun hk => by simp only at hk; omega⟩

set_option maxRecDepth 10000 in
theorem rremove (q : Qos) (l : List Smp) (c : Nat) (w sq : Int) (hl : l.length ≤ 1000000) :
    Ctr Try.prog 30 [.c (.p 0 0 0), .c (.i .i64 w), .c (.i .i64 sq)] [.one (hist 1 q l.length c), .one (smps true l c)]
      fun v h => ∃ c', v = .c (.b (getS l w sq).2) ∧ h = [.one (hist 2 q (eraS l w sq).length c'), .one .no, .one (smps true (eraS l w sq) c')] := by
  refine Ctr.mk' tbv mixed Try.func30 rfl rfl rfl (fun _ _ => by kernel_rfl) (by kernel_rfl) (by rfl) (by rfl) (by exact trivial) ?_
  repeat' (first
    | ((fail_if_success (with_reducible first | apply LoopK.mk | apply CallK.mk | apply FinK.mk)); first
      | ((with_reducible refine And.intro (fun (hb : _ = true) => ?_) (fun (hb : _ = false) => ?_)) <;> (try simp only [decide_eq_true_eq, decide_eq_false_iff_not, Bool.not_eq_true', Bool.not_eq_false', Bool.and_eq_true, Bool.and_eq_false_iff, Bool.or_eq_true, Bool.or_eq_false_iff, Bool.and_true, Int.not_lt, Int.not_le, not_true_eq_false, or_self, true_and, Bool.true_eq_false, Bool.false_eq_true, reduceCtorEq, not_false_eq_true, decide_true, decide_false, Int.toNat_natCast, Nat.zero_add] at hb) <;> (try (first | (exfalso; omega) | exact (Bool.false_ne_true (Eq.trans (Eq.symm hb) (by assumption))).elim | exact (Bool.false_ne_true (Eq.trans (Eq.symm (by assumption)) hb)).elim)))
      | (with_reducible refine Both.mk ?_ ?_)
      | ((with_reducible refine And.intro ?_ ?_); (focus (first | rfl | omega | (split <;> omega) | (refine ⟨?_, ?_, ?_⟩ <;> first | rfl | omega | (split <;> omega)) | assumption | (refine ⟨?_, ?_⟩ <;> omega) | (refine ⟨?_, ?_, ?_⟩ <;> omega) | (refine ⟨?_, ?_, ?_, ?_⟩ <;> omega) | (dsimp only [maxLen]; refine ⟨?_, ?_⟩ <;> omega) | (refine ⟨rfl, ?_⟩ <;> omega) | exact ⟨rfl, rfl⟩ | exact ⟨rfl, rfl, by omega⟩)))
      | ((with_reducible refine Or.inl (And.intro ?_ (And.intro ?_ ?_))); (focus (rfl)); (focus (refine ⟨?_, ?_, ?_, ?_⟩ <;> first | rfl | omega)))
      | ((with_reducible refine Or.inr (Or.inl (And.intro ?_ ?_))); (focus (refine ⟨?_, ?_, ?_⟩ <;> first | rfl | omega)))
      | ((with_reducible refine Or.inr (Or.inr (Or.inl (And.intro ?_ ?_)))); (focus (refine ⟨?_, ?_, ?_, ?_, ?_⟩ <;> first | rfl | omega)))
      | ((with_reducible refine Or.inr (Or.inr (Or.inr (And.intro ?_ ?_)))); (focus (refine ⟨?_, ?_, ?_, ?_, ?_, ?_, ?_⟩ <;> first | rfl | omega)))
      | (with_reducible intro hc; (try simp only [capsP, and_true] at hc); (try (exfalso; omega)))
      | ((fail_if_success (with_reducible first | refine And.intro ?_ ?_ | refine Or.inl ?_ | intro _)); (conv => whnf); (fail_if_success (fail_if_success (with_reducible first | apply LoopK.mk | apply CallK.mk | apply FinK.mk | refine Both.mk ?_ ?_ | refine And.intro ?_ ?_ | refine Or.inl ?_ | intro _))))))
  refine CallK.mk2 (σ := [.whole 0, .whole 1]) (nl := []) (rfind q l c w sq hl) rfl rfl (by (try simp only [givesF, setF, updF, Fam.zeroth, Fam.rk, Ck.rk, C.rk, E.rk, T.rk, key, List.map_cons, List.map_nil, List.cons_append, List.nil_append, List.length_cons, List.length_nil, Option.map_some, Option.bind_some, Nat.reduceAdd, Nat.zero_add, Nat.add_zero, Nat.add_sub_cancel_left, Int.toNat_natCast, reps, List.all_cons, List.all_nil, C.flat, List.append_eq, Bool.not_true, Bool.and_true, Bool.or_false, Bool.or_self, Bool.not_false, List.append_nil, Bool.and_self]); rfl) (by (repeat' (first | (refine And.intro ?_ ?_) | exact trivial | rfl | exact Nat.le_refl _ | exact (fun _ _ => rfl) | (simp only [Int.toNat_natCast, Nat.zero_add, Nat.add_zero]; done)))) ?_
  rintro v h' ⟨rfl, rfl⟩ hcaps
  refine ret_mk (by (try simp only [givesF, setF, updF, Fam.zeroth, Fam.rk, Ck.rk, C.rk, E.rk, T.rk, key, List.map_cons, List.map_nil, List.cons_append, List.nil_append, List.length_cons, List.length_nil, Option.map_some, Option.bind_some, Nat.reduceAdd, Nat.zero_add, Nat.add_zero, Nat.add_sub_cancel_left, Int.toNat_natCast, reps, List.all_cons, List.all_nil, C.flat, List.append_eq, Bool.not_true, Bool.and_true, Bool.or_false, Bool.or_self, Bool.not_false, List.append_nil, Bool.and_self]); rfl) (by (try simp only [givesF, setF, updF, Fam.zeroth, Fam.rk, Ck.rk, C.rk, E.rk, T.rk, key, List.map_cons, List.map_nil, List.cons_append, List.nil_append, List.length_cons, List.length_nil, Option.map_some, Option.bind_some, Nat.reduceAdd, Nat.zero_add, Nat.add_zero, Nat.add_sub_cancel_left, Int.toNat_natCast, reps, List.all_cons, List.all_nil, C.flat, List.append_eq, Bool.not_true, Bool.and_true, Bool.or_false, Bool.or_self, Bool.not_false, List.append_nil, Bool.and_self]); rfl) ?_
  rcases find_cases l w sq with ⟨k, hk, e, e2⟩ | ⟨e, e2⟩
  · rw [e, e2, era_cases.1 k e]
    repeat' (first
      | ((fail_if_success (with_reducible first | apply LoopK.mk | apply CallK.mk | apply FinK.mk)); first
        | ((with_reducible refine And.intro (fun (hb : _ = true) => ?_) (fun (hb : _ = false) => ?_)) <;> (try simp only [decide_eq_true_eq, decide_eq_false_iff_not, Bool.not_eq_true', Bool.not_eq_false', Bool.and_eq_true, Bool.and_eq_false_iff, Bool.or_eq_true, Bool.or_eq_false_iff, Bool.and_true, Int.not_lt, Int.not_le, not_true_eq_false, or_self, true_and, Bool.true_eq_false, Bool.false_eq_true, reduceCtorEq, not_false_eq_true, decide_true, decide_false, Int.toNat_natCast, Nat.zero_add] at hb) <;> (try (first | (exfalso; omega) | exact (Bool.false_ne_true (Eq.trans (Eq.symm hb) (by assumption))).elim | exact (Bool.false_ne_true (Eq.trans (Eq.symm (by assumption)) hb)).elim)))
        | (with_reducible refine Both.mk ?_ ?_)
        | ((with_reducible refine And.intro ?_ ?_); (focus (first | rfl | omega | (split <;> omega) | (refine ⟨?_, ?_, ?_⟩ <;> first | rfl | omega | (split <;> omega)) | assumption | (refine ⟨?_, ?_⟩ <;> omega) | (refine ⟨?_, ?_, ?_⟩ <;> omega) | (refine ⟨?_, ?_, ?_, ?_⟩ <;> omega) | (dsimp only [maxLen]; refine ⟨?_, ?_⟩ <;> omega) | (refine ⟨rfl, ?_⟩ <;> omega) | exact ⟨rfl, rfl⟩ | exact ⟨rfl, rfl, by omega⟩)))
        | ((with_reducible refine Or.inl (And.intro ?_ (And.intro ?_ ?_))); (focus (rfl)); (focus (refine ⟨?_, ?_, ?_, ?_⟩ <;> first | rfl | omega)))
        | ((with_reducible refine Or.inr (Or.inl (And.intro ?_ ?_))); (focus (refine ⟨?_, ?_, ?_⟩ <;> first | rfl | omega)))
        | ((with_reducible refine Or.inr (Or.inr (Or.inl (And.intro ?_ ?_)))); (focus (refine ⟨?_, ?_, ?_, ?_, ?_⟩ <;> first | rfl | omega)))
        | ((with_reducible refine Or.inr (Or.inr (Or.inr (And.intro ?_ ?_)))); (focus (refine ⟨?_, ?_, ?_, ?_, ?_, ?_, ?_⟩ <;> first | rfl | omega)))
        | (with_reducible intro hc; (try simp only [capsP, and_true] at hc); (try (exfalso; omega)))
        | ((fail_if_success (with_reducible first | refine And.intro ?_ ?_ | refine Or.inl ?_ | intro _)); (conv => whnf); (fail_if_success (fail_if_success (with_reducible first | apply LoopK.mk | apply CallK.mk | apply FinK.mk | refine Both.mk ?_ ?_ | refine And.intro ?_ ?_ | refine Or.inl ?_ | intro _))))))
    refine CallK.mk2 (σ := [.whole 0, .whole 1]) (nl := []) (rcut q l c k hk hl) rfl rfl (by (try simp only [givesF, setF, updF, Fam.zeroth, Fam.rk, Ck.rk, C.rk, E.rk, T.rk, key, List.map_cons, List.map_nil, List.cons_append, List.nil_append, List.length_cons, List.length_nil, Option.map_some, Option.bind_some, Nat.reduceAdd, Nat.zero_add, Nat.add_zero, Nat.add_sub_cancel_left, Int.toNat_natCast, reps, List.all_cons, List.all_nil, C.flat, List.append_eq, Bool.not_true, Bool.and_true, Bool.or_false, Bool.or_self, Bool.not_false, List.append_nil, Bool.and_self]); rfl) (by (repeat' (first | (refine And.intro ?_ ?_) | exact trivial | rfl | exact Nat.le_refl _ | exact (fun _ _ => rfl) | (simp only [Int.toNat_natCast, Nat.zero_add, Nat.add_zero]; done)))) ?_
    rintro v h' ⟨rfl, c2, rfl⟩ hcaps
    refine ret_mk (by (try simp only [givesF, setF, updF, Fam.zeroth, Fam.rk, Ck.rk, C.rk, E.rk, T.rk, key, List.map_cons, List.map_nil, List.cons_append, List.nil_append, List.length_cons, List.length_nil, Option.map_some, Option.bind_some, Nat.reduceAdd, Nat.zero_add, Nat.add_zero, Nat.add_sub_cancel_left, Int.toNat_natCast, reps, List.all_cons, List.all_nil, C.flat, List.append_eq, Bool.not_true, Bool.and_true, Bool.or_false, Bool.or_self, Bool.not_false, List.append_nil, Bool.and_self]); rfl) (by (try simp only [givesF, setF, updF, Fam.zeroth, Fam.rk, Ck.rk, C.rk, E.rk, T.rk, key, List.map_cons, List.map_nil, List.cons_append, List.nil_append, List.length_cons, List.length_nil, Option.map_some, Option.bind_some, Nat.reduceAdd, Nat.zero_add, Nat.add_zero, Nat.add_sub_cancel_left, Int.toNat_natCast, reps, List.all_cons, List.all_nil, C.flat, List.append_eq, Bool.not_true, Bool.and_true, Bool.or_false, Bool.or_self, Bool.not_false, List.append_nil, Bool.and_self]); rfl) ?_
    repeat' (first
      | ((fail_if_success (with_reducible first | apply LoopK.mk | apply CallK.mk | apply FinK.mk)); first
        | ((with_reducible refine And.intro (fun (hb : _ = true) => ?_) (fun (hb : _ = false) => ?_)) <;> (try simp only [decide_eq_true_eq, decide_eq_false_iff_not, Bool.not_eq_true', Bool.not_eq_false', Bool.and_eq_true, Bool.and_eq_false_iff, Bool.or_eq_true, Bool.or_eq_false_iff, Bool.and_true, Int.not_lt, Int.not_le, not_true_eq_false, or_self, true_and, Bool.true_eq_false, Bool.false_eq_true, reduceCtorEq, not_false_eq_true, decide_true, decide_false, Int.toNat_natCast, Nat.zero_add] at hb) <;> (try (first | (exfalso; omega) | exact (Bool.false_ne_true (Eq.trans (Eq.symm hb) (by assumption))).elim | exact (Bool.false_ne_true (Eq.trans (Eq.symm (by assumption)) hb)).elim)))
        | (with_reducible refine Both.mk ?_ ?_)
        | ((with_reducible refine And.intro ?_ ?_); (focus (first | rfl | omega | (split <;> omega) | (refine ⟨?_, ?_, ?_⟩ <;> first | rfl | omega | (split <;> omega)) | assumption | (refine ⟨?_, ?_⟩ <;> omega) | (refine ⟨?_, ?_, ?_⟩ <;> omega) | (refine ⟨?_, ?_, ?_, ?_⟩ <;> omega) | (dsimp only [maxLen]; refine ⟨?_, ?_⟩ <;> omega) | (refine ⟨rfl, ?_⟩ <;> omega) | exact ⟨rfl, rfl⟩ | exact ⟨rfl, rfl, by omega⟩)))
        | ((with_reducible refine Or.inl (And.intro ?_ (And.intro ?_ ?_))); (focus (rfl)); (focus (refine ⟨?_, ?_, ?_, ?_⟩ <;> first | rfl | omega)))
        | ((with_reducible refine Or.inr (Or.inl (And.intro ?_ ?_))); (focus (refine ⟨?_, ?_, ?_⟩ <;> first | rfl | omega)))
        | ((with_reducible refine Or.inr (Or.inr (Or.inl (And.intro ?_ ?_)))); (focus (refine ⟨?_, ?_, ?_, ?_, ?_⟩ <;> first | rfl | omega)))
        | ((with_reducible refine Or.inr (Or.inr (Or.inr (And.intro ?_ ?_)))); (focus (refine ⟨?_, ?_, ?_, ?_, ?_, ?_, ?_⟩ <;> first | rfl | omega)))
        | (with_reducible intro hc; (try simp only [capsP, and_true] at hc); (try (exfalso; omega)))
        | ((fail_if_success (with_reducible first | refine And.intro ?_ ?_ | refine Or.inl ?_ | intro _)); (conv => whnf); (fail_if_success (fail_if_success (with_reducible first | apply LoopK.mk | apply CallK.mk | apply FinK.mk | refine Both.mk ?_ ?_ | refine And.intro ?_ ?_ | refine Or.inl ?_ | intro _))))))
    refine FinK.mk ⟨[0, 1, 2], _, _, ⟨c2, rfl, rfl⟩, ?_⟩
    (repeat' (first | (refine And.intro ?_ ?_) | exact trivial | rfl | exact Nat.le_refl _ | exact (fun _ _ => rfl) | (simp only [Int.toNat_natCast, Nat.zero_add, Nat.add_zero]; done)))
  · rw [e, e2, era_cases.2 e]
    repeat' (first
      | ((fail_if_success (with_reducible first | apply LoopK.mk | apply CallK.mk | apply FinK.mk)); first
        | ((with_reducible refine And.intro (fun (hb : _ = true) => ?_) (fun (hb : _ = false) => ?_)) <;> (try simp only [decide_eq_true_eq, decide_eq_false_iff_not, Bool.not_eq_true', Bool.not_eq_false', Bool.and_eq_true, Bool.and_eq_false_iff, Bool.or_eq_true, Bool.or_eq_false_iff, Bool.and_true, Int.not_lt, Int.not_le, not_true_eq_false, or_self, true_and, Bool.true_eq_false, Bool.false_eq_true, reduceCtorEq, not_false_eq_true, decide_true, decide_false, Int.toNat_natCast, Nat.zero_add] at hb) <;> (try (first | (exfalso; omega) | exact (Bool.false_ne_true (Eq.trans (Eq.symm hb) (by assumption))).elim | exact (Bool.false_ne_true (Eq.trans (Eq.symm (by assumption)) hb)).elim)))
        | (with_reducible refine Both.mk ?_ ?_)
        | ((with_reducible refine And.intro ?_ ?_); (focus (first | rfl | omega | (split <;> omega) | (refine ⟨?_, ?_, ?_⟩ <;> first | rfl | omega | (split <;> omega)) | assumption | (refine ⟨?_, ?_⟩ <;> omega) | (refine ⟨?_, ?_, ?_⟩ <;> omega) | (refine ⟨?_, ?_, ?_, ?_⟩ <;> omega) | (dsimp only [maxLen]; refine ⟨?_, ?_⟩ <;> omega) | (refine ⟨rfl, ?_⟩ <;> omega) | exact ⟨rfl, rfl⟩ | exact ⟨rfl, rfl, by omega⟩)))
        | ((with_reducible refine Or.inl (And.intro ?_ (And.intro ?_ ?_))); (focus (rfl)); (focus (refine ⟨?_, ?_, ?_, ?_⟩ <;> first | rfl | omega)))
        | ((with_reducible refine Or.inr (Or.inl (And.intro ?_ ?_))); (focus (refine ⟨?_, ?_, ?_⟩ <;> first | rfl | omega)))
        | ((with_reducible refine Or.inr (Or.inr (Or.inl (And.intro ?_ ?_)))); (focus (refine ⟨?_, ?_, ?_, ?_, ?_⟩ <;> first | rfl | omega)))
        | ((with_reducible refine Or.inr (Or.inr (Or.inr (And.intro ?_ ?_)))); (focus (refine ⟨?_, ?_, ?_, ?_, ?_, ?_, ?_⟩ <;> first | rfl | omega)))
        | (with_reducible intro hc; (try simp only [capsP, and_true] at hc); (try (exfalso; omega)))
        | ((fail_if_success (with_reducible first | refine And.intro ?_ ?_ | refine Or.inl ?_ | intro _)); (conv => whnf); (fail_if_success (fail_if_success (with_reducible first | apply LoopK.mk | apply CallK.mk | apply FinK.mk | refine Both.mk ?_ ?_ | refine And.intro ?_ ?_ | refine Or.inl ?_ | intro _))))))
    refine FinK.mk ⟨[0, 1, 1], _, _, ⟨c, rfl, rfl⟩, ?_⟩
    (repeat' (first | (refine And.intro ?_ ?_) | exact trivial | rfl | exact Nat.le_refl _ | exact (fun _ _ => rfl) | (simp only [Int.toNat_natCast, Nat.zero_add, Nat.add_zero]; done)))
end Go.Proofs.Ytohghplabennjaa

namespace Go.Proofs.Ytohghplabennjaa
open Go.X
set_option linter.unusedSimpArgs false
set_option linter.unusedVariables false

def lastS (l : List Smp) (n : Int) : List Smp := if n < 1 then [] else l.drop (l.length - n.toNat)
theorem drop_row (l : List Smp) (k i : Nat) : (l.drop k).getD i default = l.getD (k + i) default := by
  simp only [List.getD, List.getElem?_drop]

set_option maxRecDepth 10000 in
theorem rlast (q : Qos) (l : List Smp) (c : Nat) (n : Int) (hl : l.length ≤ 1000000) (hn : In64 n) :
    Ctr Try.prog 33 [.c (.p 0 0 0), .c (.i .i64 n)] [.one (hist 1 q l.length c), .one (smps true l c)]
      fun v h => ∃ c', v = .c (.sl 2 0 4 0 (lastS l n).length c') ∧ h = [.one (hist 1 q l.length c), .one (smps true l c), .one (smps true (lastS l n) c')] := by
  refine Ctr.mk' tbv mixed Try.func33 rfl rfl rfl (fun _ _ => by kernel_rfl) (by kernel_rfl) (by rfl) (by rfl) (by exact trivial) ?_
  repeat' (first
    | ((fail_if_success (with_reducible first | apply LoopK.mk | apply CallK.mk | apply FinK.mk)); first
      | ((with_reducible refine And.intro (fun (hb : _ = true) => ?_) (fun (hb : _ = false) => ?_)) <;> (try simp only [decide_eq_true_eq, decide_eq_false_iff_not, Bool.not_eq_true', Bool.not_eq_false', Bool.and_eq_true, Bool.and_eq_false_iff, Bool.or_eq_true, Bool.or_eq_false_iff, Bool.and_true, Int.not_lt, Int.not_le, not_true_eq_false, or_self, true_and, Bool.true_eq_false, Bool.false_eq_true, reduceCtorEq, not_false_eq_true, decide_true, decide_false, Int.toNat_natCast, Nat.zero_add] at hb) <;> (try (first | (exfalso; omega) | exact (Bool.false_ne_true (Eq.trans (Eq.symm hb) (by assumption))).elim | exact (Bool.false_ne_true (Eq.trans (Eq.symm (by assumption)) hb)).elim)))
      | (with_reducible refine Both.mk ?_ ?_)
      | ((with_reducible refine And.intro ?_ ?_); (focus (first | rfl | omega | (split <;> omega) | (refine ⟨?_, ?_, ?_⟩ <;> first | rfl | omega | (split <;> omega)) | assumption | (refine ⟨?_, ?_⟩ <;> omega) | (refine ⟨?_, ?_, ?_⟩ <;> omega) | (refine ⟨?_, ?_, ?_, ?_⟩ <;> omega) | (dsimp only [maxLen]; refine ⟨?_, ?_⟩ <;> omega) | (refine ⟨rfl, ?_⟩ <;> omega) | exact ⟨rfl, rfl⟩ | exact ⟨rfl, rfl, by omega⟩)))
      | ((with_reducible refine Or.inl (And.intro ?_ (And.intro ?_ ?_))); (focus (rfl)); (focus (refine ⟨?_, ?_, ?_, ?_⟩ <;> first | rfl | omega)))
      | ((with_reducible refine Or.inr (Or.inl (And.intro ?_ ?_))); (focus (refine ⟨?_, ?_, ?_⟩ <;> first | rfl | omega)))
      | ((with_reducible refine Or.inr (Or.inr (Or.inl (And.intro ?_ ?_)))); (focus (refine ⟨?_, ?_, ?_, ?_, ?_⟩ <;> first | rfl | omega)))
      | ((with_reducible refine Or.inr (Or.inr (Or.inr (And.intro ?_ ?_)))); (focus (refine ⟨?_, ?_, ?_, ?_, ?_, ?_, ?_⟩ <;> first | rfl | omega)))
      | (with_reducible intro hc; (try simp only [capsP, and_true] at hc); (try (exfalso; omega)))
      | ((fail_if_success (with_reducible first | refine And.intro ?_ ?_ | refine Or.inl ?_ | intro _)); (conv => whnf); (fail_if_success (fail_if_success (with_reducible first | apply LoopK.mk | apply CallK.mk | apply FinK.mk | refine Both.mk ?_ ?_ | refine And.intro ?_ ?_ | refine Or.inl ?_ | intro _))))))
  · have e : lastS l n = [] := by unfold lastS; rw [if_pos ‹_›]
    rw [e]
    refine FinK.mk ⟨[0, 1, 9], _, _, ⟨0, rfl, rfl⟩, ?_⟩
    (repeat' (first | (refine And.intro ?_ ?_) | exact trivial | rfl | exact Nat.le_refl _ | exact (fun _ _ => rfl) | (simp only [Int.toNat_natCast, Nat.zero_add, Nat.add_zero]; done)))
  all_goals (rename_i c2)
  all_goals (have e : lastS l n = l.drop (l.length - n.toNat) := by unfold lastS; rw [if_neg (by omega)])
  all_goals (rw [e])
  all_goals (refine FinK.mk ⟨[0, 1, 2], _, _, ⟨c2, rfl, rfl⟩, ?_⟩)
  all_goals (repeat' (first | (refine And.intro ?_ ?_) | exact trivial | rfl | exact Nat.le_refl _ | exact (fun _ _ => rfl) | (simp only [Int.toNat_natCast, Nat.zero_add, Nat.add_zero]; done)))
  all_goals first
    | (rw [List.length_drop]; omega)
    | (intro i hi
       rw [List.length_drop] at hi
       unfold rowOf
       rw [drop_row]
       refine congrArg (fun j => encS (l.getD j default)) ?_
       split <;> omega)
end Go.Proofs.Ytohghplabennjaa

namespace Go.Proofs.Ytohghplabennjaa
open Go.X
set_option linter.unusedSimpArgs false
set_option linter.unusedVariables false

def expd (q : Qos) (x : Smp) (t : Int) : Bool := decide (0 < q.life ∧ x.t + q.life ≤ t)

set_option maxRecDepth 10000 in
theorem rexpired (q : Qos) (x : Smp) (t : Int) (h1 : 0 ≤ x.t ∧ x.t ≤ 1099511627776) (h2 : q.life ≤ 1099511627776) : Ctr Try.prog 37 [.a (encQ q), .a (encS x), .c (.i .i64 t)] [] fun v h => v = .c (.b (expd q x t)) ∧ h = [] := by
  refine Ctr.mk' tbv mixed Try.func37 rfl rfl rfl (fun _ _ => by kernel_rfl) (by kernel_rfl) (by rfl) (by rfl) (by exact trivial) ?_
  repeat' (first
    | ((fail_if_success (with_reducible first | apply LoopK.mk | apply CallK.mk | apply FinK.mk)); first
      | ((with_reducible refine And.intro (fun (hb : _ = true) => ?_) (fun (hb : _ = false) => ?_)) <;> (try simp only [decide_eq_true_eq, decide_eq_false_iff_not, Bool.not_eq_true', Bool.not_eq_false', Bool.and_eq_true, Bool.and_eq_false_iff, Bool.or_eq_true, Bool.or_eq_false_iff, Bool.and_true, Int.not_lt, Int.not_le, not_true_eq_false, or_self, true_and, Bool.true_eq_false, Bool.false_eq_true, reduceCtorEq, not_false_eq_true, decide_true, decide_false, Int.toNat_natCast, Nat.zero_add] at hb) <;> (try (first | (exfalso; omega) | exact (Bool.false_ne_true (Eq.trans (Eq.symm hb) (by assumption))).elim | exact (Bool.false_ne_true (Eq.trans (Eq.symm (by assumption)) hb)).elim)))
      | (with_reducible refine Both.mk ?_ ?_)
      | ((with_reducible refine And.intro ?_ ?_); (focus (first | rfl | omega | (split <;> omega) | (refine ⟨?_, ?_, ?_⟩ <;> first | rfl | omega | (split <;> omega)) | assumption | (refine ⟨?_, ?_⟩ <;> omega) | (refine ⟨?_, ?_, ?_⟩ <;> omega) | (refine ⟨?_, ?_, ?_, ?_⟩ <;> omega) | (dsimp only [maxLen]; refine ⟨?_, ?_⟩ <;> omega) | (refine ⟨rfl, ?_⟩ <;> omega) | exact ⟨rfl, rfl⟩ | exact ⟨rfl, rfl, by omega⟩)))
      | ((with_reducible refine Or.inl (And.intro ?_ (And.intro ?_ ?_))); (focus (rfl)); (focus (refine ⟨?_, ?_, ?_, ?_⟩ <;> first | rfl | omega)))
      | ((with_reducible refine Or.inr (Or.inl (And.intro ?_ ?_))); (focus (refine ⟨?_, ?_, ?_⟩ <;> first | rfl | omega)))
      | ((with_reducible refine Or.inr (Or.inr (Or.inl (And.intro ?_ ?_)))); (focus (refine ⟨?_, ?_, ?_, ?_, ?_⟩ <;> first | rfl | omega)))
      | ((with_reducible refine Or.inr (Or.inr (Or.inr (And.intro ?_ ?_)))); (focus (refine ⟨?_, ?_, ?_, ?_, ?_, ?_, ?_⟩ <;> first | rfl | omega)))
      | (with_reducible intro hc; (try simp only [capsP, and_true] at hc); (try (exfalso; omega)))
      | ((fail_if_success (with_reducible first | refine And.intro ?_ ?_ | refine Or.inl ?_ | intro _)); (conv => whnf); (fail_if_success (fail_if_success (with_reducible first | apply LoopK.mk | apply CallK.mk | apply FinK.mk | refine Both.mk ?_ ?_ | refine And.intro ?_ ?_ | refine Or.inl ?_ | intro _))))))
  · refine FinK.mk ⟨[], _, _, ⟨rfl, rfl⟩, ?_⟩; (repeat' (first | (refine And.intro ?_ ?_) | exact trivial | rfl | exact Nat.le_refl _ | exact (fun _ _ => rfl) | (simp only [Int.toNat_natCast, Nat.zero_add, Nat.add_zero]; done)))
    exact decide_eq_decide.2 ⟨fun h => ⟨‹_›, h⟩, fun h => h.2⟩
  · refine FinK.mk ⟨[], _, _, ⟨rfl, rfl⟩, ?_⟩; (repeat' (first | (refine And.intro ?_ ?_) | exact trivial | rfl | exact Nat.le_refl _ | exact (fun _ _ => rfl) | (simp only [Int.toNat_natCast, Nat.zero_add, Nat.add_zero]; done)))
    exact decide_eq_false (by omega)
end Go.Proofs.Ytohghplabennjaa

namespace Go.Proofs.Ytohghplabennjaa
open Go.X
set_option linter.unusedSimpArgs false
set_option linter.unusedVariables false

def gone (q : Qos) (l : List Smp) (t : Int) : List Smp := l.filter fun x => expd q x t
def stay (q : Qos) (l : List Smp) (t : Int) : List Smp := l.filter fun x => !expd q x t

theorem app_row (m : List Smp) (x : Smp) (cs : Nat → List C) (hc : cs 0 = encS x) (i : Nat) (hi : i < (m ++ [x]).length) : appF m.length (rowOf encS m) 0 cs i = rowOf encS (m ++ [x]) i := by
  unfold appF rowOf
  simp only [List.length_append, List.length_singleton] at hi
  by_cases h : i < m.length
  · rw [if_pos h]
    simp only [List.getD, List.getElem?_append_left h]
  · rw [if_neg h]
    have : i = m.length := by omega
    subst this
    rw [Nat.sub_self, Nat.add_zero, hc]
    simp [List.getD]
theorem gone_yes {q : Qos} {l : List Smp} {t : Int} {k : Nat} (hk : k < l.length) (h : expd q (l.getD k default) t = true) : gone q (l.take (k + 1)) t = gone q (l.take k) t ++ [l.getD k default] ∧ stay q (l.take (k + 1)) t = stay q (l.take k) t := by
  unfold gone stay
  rw [take_snoc hk, List.filter_append, List.filter_append]
  generalize l.getD k default = x at *
  simp [h]
theorem gone_no {q : Qos} {l : List Smp} {t : Int} {k : Nat} (hk : k < l.length) (h : expd q (l.getD k default) t = false) : stay q (l.take (k + 1)) t = stay q (l.take k) t ++ [l.getD k default] ∧ gone q (l.take (k + 1)) t = gone q (l.take k) t := by
  unfold gone stay
  rw [take_snoc hk, List.filter_append, List.filter_append]
  generalize l.getD k default = x at *
  simp [h]

set_option maxRecDepth 10000 in
set_option maxHeartbeats 1000000 in
theorem rexpire (q : Qos) (l : List Smp) (c : Nat) (t : Int) (hl : l.length ≤ 1000000) (h1 : ∀ k, k < l.length → 0 ≤ (l.getD k default).t ∧ (l.getD k default).t ≤ 1099511627776) (h2 : q.life ≤ 1099511627776) :
    Ctr Try.prog 29 [.c (.p 0 0 0), .c (.i .i64 t)] [.one (hist 1 q l.length c), .one (smps true l c)]
      fun v h => ∃ cg cs, v = .c (.sl 3 0 4 0 (gone q l t).length cg) ∧ h = [.one (hist 2 q (stay q l t).length cs), .one .no, .one (smps true (stay q l t) cs), .one (smps true (gone q l t) cg)] := by
  refine Ctr.mk' tbv mixed Try.func29 rfl rfl rfl (fun _ _ => by kernel_rfl) (by kernel_rfl) (by rfl) (by rfl) (by exact trivial) ?_
  repeat' (first
    | ((fail_if_success (with_reducible first | apply LoopK.mk | apply CallK.mk | apply FinK.mk)); first
      | ((with_reducible refine And.intro (fun (hb : _ = true) => ?_) (fun (hb : _ = false) => ?_)) <;> (try simp only [decide_eq_true_eq, decide_eq_false_iff_not, Bool.not_eq_true', Bool.not_eq_false', Bool.and_eq_true, Bool.and_eq_false_iff, Bool.or_eq_true, Bool.or_eq_false_iff, Bool.and_true, Int.not_lt, Int.not_le, not_true_eq_false, or_self, true_and, Bool.true_eq_false, Bool.false_eq_true, reduceCtorEq, not_false_eq_true, decide_true, decide_false, Int.toNat_natCast, Nat.zero_add] at hb) <;> (try (first | (exfalso; omega) | exact (Bool.false_ne_true (Eq.trans (Eq.symm hb) (by assumption))).elim | exact (Bool.false_ne_true (Eq.trans (Eq.symm (by assumption)) hb)).elim)))
      | (with_reducible refine Both.mk ?_ ?_)
      | ((with_reducible refine And.intro ?_ ?_); (focus (first | rfl | omega | (split <;> omega) | (refine ⟨?_, ?_, ?_⟩ <;> first | rfl | omega | (split <;> omega)) | assumption | (refine ⟨?_, ?_⟩ <;> omega) | (refine ⟨?_, ?_, ?_⟩ <;> omega) | (refine ⟨?_, ?_, ?_, ?_⟩ <;> omega) | (dsimp only [maxLen]; refine ⟨?_, ?_⟩ <;> omega) | (refine ⟨rfl, ?_⟩ <;> omega) | exact ⟨rfl, rfl⟩ | exact ⟨rfl, rfl, by omega⟩)))
      | ((with_reducible refine Or.inl (And.intro ?_ (And.intro ?_ ?_))); (focus (rfl)); (focus (refine ⟨?_, ?_, ?_, ?_⟩ <;> first | rfl | omega)))
      | ((with_reducible refine Or.inr (Or.inl (And.intro ?_ ?_))); (focus (refine ⟨?_, ?_, ?_⟩ <;> first | rfl | omega)))
      | ((with_reducible refine Or.inr (Or.inr (Or.inl (And.intro ?_ ?_)))); (focus (refine ⟨?_, ?_, ?_, ?_, ?_⟩ <;> first | rfl | omega)))
      | ((with_reducible refine Or.inr (Or.inr (Or.inr (And.intro ?_ ?_)))); (focus (refine ⟨?_, ?_, ?_, ?_, ?_, ?_, ?_⟩ <;> first | rfl | omega)))
      | (with_reducible intro hc; (try simp only [capsP, and_true] at hc); (try (exfalso; omega)))
      | ((fail_if_success (with_reducible first | refine And.intro ?_ ?_ | refine Or.inl ?_ | intro _)); (conv => whnf); (fail_if_success (fail_if_success (with_reducible first | apply LoopK.mk | apply CallK.mk | apply FinK.mk | refine Both.mk ?_ ?_ | refine And.intro ?_ ?_ | refine Or.inl ?_ | intro _))))))
  refine LoopK.mk' {k : Nat × Nat × Nat // k.1 ≤ l.length}
    (fun ⟨(k, cg, cs), _⟩ => ⟨[(0, .c (.p 0 0 0)), (1, .c (.i .i64 t)), (5, .c (.sl 2 0 4 0 (gone q (l.take k) t).length cg)), (6, .c (.sl 3 0 4 0 (stay q (l.take k) t).length cs)), (7, .c (.i .i64 k))], [.one (hist 1 q l.length c), .one (smps true l c), .one (smps true (gone q (l.take k) t) cg), .one (smps true (stay q (l.take k) t) cs)]⟩) (fun k => l.length - k.1.1)
    ⟨⟨(0, 0, 0), Nat.zero_le _⟩, [0, 1, 8, 9], ?_⟩ ?_
  · (repeat' (first | (refine And.intro ?_ ?_) | exact trivial | rfl | exact Nat.le_refl _ | exact (fun _ _ => rfl) | (simp only [Int.toNat_natCast, Nat.zero_add, Nat.add_zero]; done)))
  rintro ⟨⟨k, cg, cs⟩, hk⟩
  have hg : (gone q (l.take k) t).length ≤ l.length := Nat.le_trans (List.length_filter_le _ _) (by rw [List.length_take]; omega)
  have hs : (stay q (l.take k) t).length ≤ l.length := Nat.le_trans (List.length_filter_le _ _) (by rw [List.length_take]; omega)
  repeat' (first
    | ((fail_if_success (with_reducible first | apply LoopK.mk | apply CallK.mk | apply FinK.mk)); first
      | ((with_reducible refine And.intro (fun (hb : _ = true) => ?_) (fun (hb : _ = false) => ?_)) <;> (try simp only [decide_eq_true_eq, decide_eq_false_iff_not, Bool.not_eq_true', Bool.not_eq_false', Bool.and_eq_true, Bool.and_eq_false_iff, Bool.or_eq_true, Bool.or_eq_false_iff, Bool.and_true, Int.not_lt, Int.not_le, not_true_eq_false, or_self, true_and, Bool.true_eq_false, Bool.false_eq_true, reduceCtorEq, not_false_eq_true, decide_true, decide_false, Int.toNat_natCast, Nat.zero_add] at hb) <;> (try (first | (exfalso; omega) | exact (Bool.false_ne_true (Eq.trans (Eq.symm hb) (by assumption))).elim | exact (Bool.false_ne_true (Eq.trans (Eq.symm (by assumption)) hb)).elim)))
      | (with_reducible refine Both.mk ?_ ?_)
      | ((with_reducible refine And.intro ?_ ?_); (focus (first | rfl | omega | (split <;> omega) | (refine ⟨?_, ?_, ?_⟩ <;> first | rfl | omega | (split <;> omega)) | assumption | (refine ⟨?_, ?_⟩ <;> omega) | (refine ⟨?_, ?_, ?_⟩ <;> omega) | (refine ⟨?_, ?_, ?_, ?_⟩ <;> omega) | (dsimp only [maxLen]; refine ⟨?_, ?_⟩ <;> omega) | (refine ⟨rfl, ?_⟩ <;> omega) | exact ⟨rfl, rfl⟩ | exact ⟨rfl, rfl, by omega⟩)))
      | ((with_reducible refine Or.inl (And.intro ?_ (And.intro ?_ ?_))); (focus (rfl)); (focus (refine ⟨?_, ?_, ?_, ?_⟩ <;> first | rfl | omega)))
      | ((with_reducible refine Or.inr (Or.inl (And.intro ?_ ?_))); (focus (refine ⟨?_, ?_, ?_⟩ <;> first | rfl | omega)))
      | ((with_reducible refine Or.inr (Or.inr (Or.inl (And.intro ?_ ?_)))); (focus (refine ⟨?_, ?_, ?_, ?_, ?_⟩ <;> first | rfl | omega)))
      | ((with_reducible refine Or.inr (Or.inr (Or.inr (And.intro ?_ ?_)))); (focus (refine ⟨?_, ?_, ?_, ?_, ?_, ?_, ?_⟩ <;> first | rfl | omega)))
      | (with_reducible intro hc; (try simp only [capsP, and_true] at hc); (try (exfalso; omega)))
      | ((fail_if_success (with_reducible first | refine And.intro ?_ ?_ | refine Or.inl ?_ | intro _)); (conv => whnf); (fail_if_success (fail_if_success (with_reducible first | apply LoopK.mk | apply CallK.mk | apply FinK.mk | refine Both.mk ?_ ?_ | refine And.intro ?_ ?_ | refine Or.inl ?_ | intro _))))))
  · refine CallK.mk2 (σ := []) (nl := []) (rexpired q (l.getD k default) t (h1 k (by omega)) h2) rfl rfl (by (try simp only [givesF, setF, updF, Fam.zeroth, Fam.rk, Ck.rk, C.rk, E.rk, T.rk, key, List.map_cons, List.map_nil, List.cons_append, List.nil_append, List.length_cons, List.length_nil, Option.map_some, Option.bind_some, Nat.reduceAdd, Nat.zero_add, Nat.add_zero, Nat.add_sub_cancel_left, Int.toNat_natCast, reps, List.all_cons, List.all_nil, C.flat, List.append_eq, Bool.not_true, Bool.and_true, Bool.or_false, Bool.or_self, Bool.not_false, List.append_nil, Bool.and_self]); rfl) (by (repeat' (first | (refine And.intro ?_ ?_) | exact trivial | rfl | exact Nat.le_refl _ | exact (fun _ _ => rfl) | (simp only [Int.toNat_natCast, Nat.zero_add, Nat.add_zero]; done)))) ?_
    rintro v h' ⟨rfl, rfl⟩ hcaps
    repeat' (first
      | ((fail_if_success (with_reducible first | apply LoopK.mk | apply CallK.mk | apply FinK.mk)); first
        | ((with_reducible refine And.intro (fun (hb : _ = true) => ?_) (fun (hb : _ = false) => ?_)) <;> (try simp only [decide_eq_true_eq, decide_eq_false_iff_not, Bool.not_eq_true', Bool.not_eq_false', Bool.and_eq_true, Bool.and_eq_false_iff, Bool.or_eq_true, Bool.or_eq_false_iff, Bool.and_true, Int.not_lt, Int.not_le, not_true_eq_false, or_self, true_and, Bool.true_eq_false, Bool.false_eq_true, reduceCtorEq, not_false_eq_true, decide_true, decide_false, Int.toNat_natCast, Nat.zero_add] at hb) <;> (try (first | (exfalso; omega) | exact (Bool.false_ne_true (Eq.trans (Eq.symm hb) (by assumption))).elim | exact (Bool.false_ne_true (Eq.trans (Eq.symm (by assumption)) hb)).elim)))
        | (with_reducible refine Both.mk ?_ ?_)
        | ((with_reducible refine And.intro ?_ ?_); (focus (first | rfl | omega | (split <;> omega) | (refine ⟨?_, ?_, ?_⟩ <;> first | rfl | omega | (split <;> omega)) | assumption | (refine ⟨?_, ?_⟩ <;> omega) | (refine ⟨?_, ?_, ?_⟩ <;> omega) | (refine ⟨?_, ?_, ?_, ?_⟩ <;> omega) | (dsimp only [maxLen]; refine ⟨?_, ?_⟩ <;> omega) | (refine ⟨rfl, ?_⟩ <;> omega) | exact ⟨rfl, rfl⟩ | exact ⟨rfl, rfl, by omega⟩)))
        | ((with_reducible refine Or.inl (And.intro ?_ (And.intro ?_ ?_))); (focus (rfl)); (focus (refine ⟨?_, ?_, ?_, ?_⟩ <;> first | rfl | omega)))
        | ((with_reducible refine Or.inr (Or.inl (And.intro ?_ ?_))); (focus (refine ⟨?_, ?_, ?_⟩ <;> first | rfl | omega)))
        | ((with_reducible refine Or.inr (Or.inr (Or.inl (And.intro ?_ ?_)))); (focus (refine ⟨?_, ?_, ?_, ?_, ?_⟩ <;> first | rfl | omega)))
        | ((with_reducible refine Or.inr (Or.inr (Or.inr (And.intro ?_ ?_)))); (focus (refine ⟨?_, ?_, ?_, ?_, ?_, ?_, ?_⟩ <;> first | rfl | omega)))
        | (with_reducible intro hc; (try simp only [capsP, and_true] at hc); (try (exfalso; omega)))
        | ((fail_if_success (with_reducible first | refine And.intro ?_ ?_ | refine Or.inl ?_ | intro _)); (conv => whnf); (fail_if_success (fail_if_success (with_reducible first | apply LoopK.mk | apply CallK.mk | apply FinK.mk | refine Both.mk ?_ ?_ | refine And.intro ?_ ?_ | refine Or.inl ?_ | intro _))))))
    · rename_i c2
      obtain ⟨eg, es⟩ := gone_yes (q := q) (t := t) (show k < l.length by omega) ‹_›
      refine ⟨⟨(k + 1, c2, cs), by simp only; omega⟩, [0, 1, 5, 3], by simp only; omega, ?_⟩
      simp only [eg, es]
      (repeat' (first | (refine And.intro ?_ ?_) | exact trivial | rfl | exact Nat.le_refl _ | exact (fun _ _ => rfl) | (simp only [Int.toNat_natCast, Nat.zero_add, Nat.add_zero]; done)))
      all_goals first
        | (simp only [List.length_append, List.length_singleton]; done)
        | (rw [List.length_append, List.length_singleton]; omega)
        | (intro i hi
           refine app_row _ (l.getD k default) _ ?_ i hi
           have ek : 0 + (k : Int).toNat = k := by omega
           rw [ek]
           rfl)
    · rename_i c2
      obtain ⟨eg, es⟩ := gone_no (q := q) (t := t) (show k < l.length by omega) ‹_›
      refine ⟨⟨(k + 1, cg, c2), by simp only; omega⟩, [0, 1, 2, 5], by simp only; omega, ?_⟩
      simp only [eg, es]
      (repeat' (first | (refine And.intro ?_ ?_) | exact trivial | rfl | exact Nat.le_refl _ | exact (fun _ _ => rfl) | (simp only [Int.toNat_natCast, Nat.zero_add, Nat.add_zero]; done)))
      all_goals first
        | (simp only [List.length_append, List.length_singleton]; done)
        | (rw [List.length_append, List.length_singleton]; omega)
        | (intro i hi
           refine app_row _ (l.getD k default) _ ?_ i hi
           have ek : 0 + (k : Int).toNat = k := by omega
           rw [ek]
           rfl)
  · have hkl : k = l.length := by have := hk; simp only at this; omega
    subst hkl
    rw [List.take_length] at *
    refine FinK.mk ⟨[0, 1, 3, 2], _, _, ⟨cg, cs, rfl, rfl⟩, ?_⟩
    (repeat' (first | (refine And.intro ?_ ?_) | exact trivial | rfl | exact Nat.le_refl _ | exact (fun _ _ => rfl) | (simp only [Int.toNat_natCast, Nat.zero_add, Nat.add_zero]; done)))
end Go.Proofs.Ytohghplabennjaa

namespace Go.Proofs.Ytohghplabennjaa
open Go.X
set_option linter.unusedSimpArgs false
set_option linter.unusedVariables false

set_option maxRecDepth 10000 in
theorem icloneD (wa : Bool) (l : List Smp) (c o o' n cc : Nat) (ho : o ≤ l.length) (hn : n = l.length - o) (ho' : o' = o ∨ n = 0) (hb : o' + n ≤ l.length) (hl : l.length ≤ 1000000) :
    Ctr Try.prog 24 [.c (.sl 0 0 4 o' n cc)] [.one (smps wa l c)]
      fun v h => ∃ c', v = .c (.sl 1 0 4 0 (l.drop o).length c') ∧ h = [.one (smps wa l c), .one (smps true (l.drop o) c')] := by
  have hd : (l.drop o).length = n := by rw [List.length_drop]; omega
  refine Ctr.mk' tbv mixed Try.func24 rfl rfl rfl (fun _ _ => by kernel_rfl) (by kernel_rfl) (by rfl) (by rfl) (by exact trivial) ?_
  repeat' (first
    | ((fail_if_success (with_reducible first | apply LoopK.mk | apply CallK.mk | apply FinK.mk)); first
      | ((with_reducible refine And.intro (fun (hb : _ = true) => ?_) (fun (hb : _ = false) => ?_)) <;> (try simp only [decide_eq_true_eq, decide_eq_false_iff_not, Bool.not_eq_true', Bool.not_eq_false', Bool.and_eq_true, Bool.and_eq_false_iff, Bool.or_eq_true, Bool.or_eq_false_iff, Bool.and_true, Int.not_lt, Int.not_le, not_true_eq_false, or_self, true_and, Bool.true_eq_false, Bool.false_eq_true, reduceCtorEq, not_false_eq_true, decide_true, decide_false, Int.toNat_natCast, Nat.zero_add] at hb) <;> (try (first | (exfalso; omega) | exact (Bool.false_ne_true (Eq.trans (Eq.symm hb) (by assumption))).elim | exact (Bool.false_ne_true (Eq.trans (Eq.symm (by assumption)) hb)).elim)))
      | (with_reducible refine Both.mk ?_ ?_)
      | ((with_reducible refine And.intro ?_ ?_); (focus (first | rfl | omega | (split <;> omega) | (refine ⟨?_, ?_, ?_⟩ <;> first | rfl | omega | (split <;> omega)) | assumption | (refine ⟨?_, ?_⟩ <;> omega) | (refine ⟨?_, ?_, ?_⟩ <;> omega) | (refine ⟨?_, ?_, ?_, ?_⟩ <;> omega) | (dsimp only [maxLen]; refine ⟨?_, ?_⟩ <;> omega) | (refine ⟨rfl, ?_⟩ <;> omega) | exact ⟨rfl, rfl⟩ | exact ⟨rfl, rfl, by omega⟩)))
      | ((with_reducible refine Or.inl (And.intro ?_ (And.intro ?_ ?_))); (focus (rfl)); (focus (refine ⟨?_, ?_, ?_, ?_⟩ <;> first | rfl | omega)))
      | ((with_reducible refine Or.inr (Or.inl (And.intro ?_ ?_))); (focus (refine ⟨?_, ?_, ?_⟩ <;> first | rfl | omega)))
      | ((with_reducible refine Or.inr (Or.inr (Or.inl (And.intro ?_ ?_)))); (focus (refine ⟨?_, ?_, ?_, ?_, ?_⟩ <;> first | rfl | omega)))
      | ((with_reducible refine Or.inr (Or.inr (Or.inr (And.intro ?_ ?_)))); (focus (refine ⟨?_, ?_, ?_, ?_, ?_, ?_, ?_⟩ <;> first | rfl | omega)))
      | (with_reducible intro hc; (try simp only [capsP, and_true] at hc); (try (exfalso; omega)))
      | ((fail_if_success (with_reducible first | refine And.intro ?_ ?_ | refine Or.inl ?_ | intro _)); (conv => whnf); (fail_if_success (fail_if_success (with_reducible first | apply LoopK.mk | apply CallK.mk | apply FinK.mk | refine Both.mk ?_ ?_ | refine And.intro ?_ ?_ | refine Or.inl ?_ | intro _))))))
  · have h0 : c = 0 := ‹_ → c = 0› ‹_›
    have : l = [] := List.eq_nil_of_length_eq_zero (by omega)
    subst this
    have hn0 : n = 0 := by simp at hn; exact hn
    subst hn0
    refine FinK.mk ⟨[0, 7], _, _, ⟨0, rfl, rfl⟩, ?_⟩
    (repeat' (first | (refine And.intro ?_ ?_) | exact trivial | rfl | exact Nat.le_refl _ | exact (fun _ _ => rfl) | (simp only [Int.toNat_natCast, Nat.zero_add, Nat.add_zero]; done)))
    all_goals (first | omega | (rw [hd]; done) | (intro i hi; rw [hd] at hi; omega))
  · rename_i c2
    refine FinK.mk ⟨[0, 2], _, _, ⟨c2, rfl, rfl⟩, ?_⟩
    (repeat' (first | (refine And.intro ?_ ?_) | exact trivial | rfl | exact Nat.le_refl _ | exact (fun _ _ => rfl) | (simp only [Int.toNat_natCast, Nat.zero_add, Nat.add_zero]; done)))
    all_goals first
      | (rw [hd]; omega)
      | omega
      | (intro i hi
         rw [hd] at hi
         unfold appF rowOf
         rw [if_neg (by omega), drop_row]
         have e : o' + (i - 0) = o + i := by omega
         rw [e])
end Go.Proofs.Ytohghplabennjaa

namespace Go.Proofs.Ytohghplabennjaa
open Go.X
set_option linter.unusedSimpArgs false
set_option linter.unusedVariables false

set_option maxRecDepth 10000 in
theorem ilast (q : Qos) (l : List Smp) (c : Nat) (n : Int) (hl : l.length ≤ 1000000) (hn : In64 n) :
    Ctr Try.prog 32 [.c (.p 0 0 0), .c (.i .i64 n)] [.one (hist 1 q l.length c), .one (smps true l c)]
      fun v h => ∃ c', v = .c (.sl 2 0 4 0 (lastS l n).length c') ∧ h = [.one (hist 1 q l.length c), .one (smps true l c), .one (smps true (lastS l n) c')] := by
  unfold In64 at hn
  refine Ctr.mk' tbv mixed Try.func32 rfl rfl rfl (fun _ _ => by kernel_rfl) (by kernel_rfl) (by rfl) (by rfl) (by exact trivial) ?_
  repeat' (first
    | ((fail_if_success (with_reducible first | apply LoopK.mk | apply CallK.mk | apply FinK.mk)); first
      | ((with_reducible refine And.intro (fun (hb : _ = true) => ?_) (fun (hb : _ = false) => ?_)) <;> (try simp only [decide_eq_true_eq, decide_eq_false_iff_not, Bool.not_eq_true', Bool.not_eq_false', Bool.and_eq_true, Bool.and_eq_false_iff, Bool.or_eq_true, Bool.or_eq_false_iff, Bool.and_true, Int.not_lt, Int.not_le, not_true_eq_false, or_self, true_and, Bool.true_eq_false, Bool.false_eq_true, reduceCtorEq, not_false_eq_true, decide_true, decide_false, Int.toNat_natCast, Nat.zero_add] at hb) <;> (try (first | (exfalso; omega) | exact (Bool.false_ne_true (Eq.trans (Eq.symm hb) (by assumption))).elim | exact (Bool.false_ne_true (Eq.trans (Eq.symm (by assumption)) hb)).elim)))
      | (with_reducible refine Both.mk ?_ ?_)
      | ((with_reducible refine And.intro ?_ ?_); (focus (first | rfl | omega | (split <;> omega) | (refine ⟨?_, ?_, ?_⟩ <;> first | rfl | omega | (split <;> omega)) | assumption | (refine ⟨?_, ?_⟩ <;> omega) | (refine ⟨?_, ?_, ?_⟩ <;> omega) | (refine ⟨?_, ?_, ?_, ?_⟩ <;> omega) | (dsimp only [maxLen]; refine ⟨?_, ?_⟩ <;> omega) | (refine ⟨rfl, ?_⟩ <;> omega) | exact ⟨rfl, rfl⟩ | exact ⟨rfl, rfl, by omega⟩)))
      | ((with_reducible refine Or.inl (And.intro ?_ (And.intro ?_ ?_))); (focus (rfl)); (focus (refine ⟨?_, ?_, ?_, ?_⟩ <;> first | rfl | omega)))
      | ((with_reducible refine Or.inr (Or.inl (And.intro ?_ ?_))); (focus (refine ⟨?_, ?_, ?_⟩ <;> first | rfl | omega)))
      | ((with_reducible refine Or.inr (Or.inr (Or.inl (And.intro ?_ ?_)))); (focus (refine ⟨?_, ?_, ?_, ?_, ?_⟩ <;> first | rfl | omega)))
      | ((with_reducible refine Or.inr (Or.inr (Or.inr (And.intro ?_ ?_)))); (focus (refine ⟨?_, ?_, ?_, ?_, ?_, ?_, ?_⟩ <;> first | rfl | omega)))
      | (with_reducible intro hc; (try simp only [capsP, and_true] at hc); (try (exfalso; omega)))
      | ((fail_if_success (with_reducible first | refine And.intro ?_ ?_ | refine Or.inl ?_ | intro _)); (conv => whnf); (fail_if_success (fail_if_success (with_reducible first | apply LoopK.mk | apply CallK.mk | apply FinK.mk | refine Both.mk ?_ ?_ | refine And.intro ?_ ?_ | refine Or.inl ?_ | intro _))))))
  · have e : lastS l n = [] := by unfold lastS; rw [if_pos ‹_›]
    rw [e]
    refine FinK.mk ⟨[0, 1, 9], _, _, ⟨0, rfl, rfl⟩, ?_⟩
    (repeat' (first | (refine And.intro ?_ ?_) | exact trivial | rfl | exact Nat.le_refl _ | exact (fun _ _ => rfl) | (simp only [Int.toNat_natCast, Nat.zero_add, Nat.add_zero]; done)))
  have e : lastS l n = l.drop (l.length - n.toNat) := by unfold lastS; rw [if_neg (by omega)]
  rw [e]
  refine CallK.mk2 (σ := [.whole 1]) (nl := []) (icloneD true l c (l.length - n.toNat) (if c = (max 0 ((l.length : Int) - n)).toNat then 0 else 0 + (max 0 ((l.length : Int) - n)).toNat) (l.length - (max 0 ((l.length : Int) - n)).toNat) (c - (max 0 ((l.length : Int) - n)).toNat) (by omega) (by omega) (by split <;> omega) (by split <;> omega) hl) rfl rfl (by (try simp only [givesF, setF, updF, Fam.zeroth, Fam.rk, Ck.rk, C.rk, E.rk, T.rk, key, List.map_cons, List.map_nil, List.cons_append, List.nil_append, List.length_cons, List.length_nil, Option.map_some, Option.bind_some, Nat.reduceAdd, Nat.zero_add, Nat.add_zero, Nat.add_sub_cancel_left, Int.toNat_natCast, reps, List.all_cons, List.all_nil, C.flat, List.append_eq, Bool.not_true, Bool.and_true, Bool.or_false, Bool.or_self, Bool.not_false, List.append_nil, Bool.and_self]); rfl) (by (repeat' (first | (refine And.intro ?_ ?_) | exact trivial | rfl | exact Nat.le_refl _ | exact (fun _ _ => rfl) | (simp only [Int.toNat_natCast, Nat.zero_add, Nat.add_zero]; done)))) ?_
  rintro v h' ⟨c2, rfl, rfl⟩ hcaps
  repeat' (first
    | ((fail_if_success (with_reducible first | apply LoopK.mk | apply CallK.mk | apply FinK.mk)); first
      | ((with_reducible refine And.intro (fun (hb : _ = true) => ?_) (fun (hb : _ = false) => ?_)) <;> (try simp only [decide_eq_true_eq, decide_eq_false_iff_not, Bool.not_eq_true', Bool.not_eq_false', Bool.and_eq_true, Bool.and_eq_false_iff, Bool.or_eq_true, Bool.or_eq_false_iff, Bool.and_true, Int.not_lt, Int.not_le, not_true_eq_false, or_self, true_and, Bool.true_eq_false, Bool.false_eq_true, reduceCtorEq, not_false_eq_true, decide_true, decide_false, Int.toNat_natCast, Nat.zero_add] at hb) <;> (try (first | (exfalso; omega) | exact (Bool.false_ne_true (Eq.trans (Eq.symm hb) (by assumption))).elim | exact (Bool.false_ne_true (Eq.trans (Eq.symm (by assumption)) hb)).elim)))
      | (with_reducible refine Both.mk ?_ ?_)
      | ((with_reducible refine And.intro ?_ ?_); (focus (first | rfl | omega | (split <;> omega) | (refine ⟨?_, ?_, ?_⟩ <;> first | rfl | omega | (split <;> omega)) | assumption | (refine ⟨?_, ?_⟩ <;> omega) | (refine ⟨?_, ?_, ?_⟩ <;> omega) | (refine ⟨?_, ?_, ?_, ?_⟩ <;> omega) | (dsimp only [maxLen]; refine ⟨?_, ?_⟩ <;> omega) | (refine ⟨rfl, ?_⟩ <;> omega) | exact ⟨rfl, rfl⟩ | exact ⟨rfl, rfl, by omega⟩)))
      | ((with_reducible refine Or.inl (And.intro ?_ (And.intro ?_ ?_))); (focus (rfl)); (focus (refine ⟨?_, ?_, ?_, ?_⟩ <;> first | rfl | omega)))
      | ((with_reducible refine Or.inr (Or.inl (And.intro ?_ ?_))); (focus (refine ⟨?_, ?_, ?_⟩ <;> first | rfl | omega)))
      | ((with_reducible refine Or.inr (Or.inr (Or.inl (And.intro ?_ ?_)))); (focus (refine ⟨?_, ?_, ?_, ?_, ?_⟩ <;> first | rfl | omega)))
      | ((with_reducible refine Or.inr (Or.inr (Or.inr (And.intro ?_ ?_)))); (focus (refine ⟨?_, ?_, ?_, ?_, ?_, ?_, ?_⟩ <;> first | rfl | omega)))
      | (with_reducible intro hc; (try simp only [capsP, and_true] at hc); (try (exfalso; omega)))
      | ((fail_if_success (with_reducible first | refine And.intro ?_ ?_ | refine Or.inl ?_ | intro _)); (conv => whnf); (fail_if_success (fail_if_success (with_reducible first | apply LoopK.mk | apply CallK.mk | apply FinK.mk | refine Both.mk ?_ ?_ | refine And.intro ?_ ?_ | refine Or.inl ?_ | intro _))))))
  refine FinK.mk ⟨[0, 1, 2], _, _, ⟨c2, rfl, rfl⟩, ?_⟩
  (repeat' (first | (refine And.intro ?_ ?_) | exact trivial | rfl | exact Nat.le_refl _ | exact (fun _ _ => rfl) | (simp only [Int.toNat_natCast, Nat.zero_add, Nat.add_zero]; done)))
end Go.Proofs.Ytohghplabennjaa

namespace Go.Proofs.Ytohghplabennjaa
open Go.X
set_option linter.unusedSimpArgs false
set_option linter.unusedVariables false

def isS (w q : Int) (x : Smp) : Bool := decide (x.w = w ∧ x.q = q)
theorem filt_yes {p : Smp → Bool} {l : List Smp} {k : Nat} (hk : k < l.length) (h : p (l.getD k default) = true) : (l.take (k + 1)).filter p = (l.take k).filter p ++ [l.getD k default] := by
  rw [take_snoc hk, List.filter_append]
  generalize l.getD k default = x at *
  simp [h]
theorem filt_no {p : Smp → Bool} {l : List Smp} {k : Nat} (hk : k < l.length) (h : p (l.getD k default) = false) : (l.take (k + 1)).filter p = (l.take k).filter p := by
  rw [take_snoc hk, List.filter_append]
  generalize l.getD k default = x at *
  simp [h]

set_option maxRecDepth 10000 in
theorem cremove1 (x : Smp) (w q : Int) : Ctr Try.prog 28 [.a (encS x), .c (.p 0 0 0), .c (.p 1 0 0)] [.one (.cells true [.i .i64 w]), .one (.cells true [.i .i64 q])]
      fun v h => v = .c (.b (isS w q x)) ∧ h = [.one (.cells true [.i .i64 w]), .one (.cells true [.i .i64 q])] := by
  refine Ctr.mk' tbv mixed Try.func28 rfl rfl rfl (fun _ _ => by kernel_rfl) (by kernel_rfl) (by rfl) (by rfl) (by exact trivial) ?_
  repeat' (first
    | ((fail_if_success (with_reducible first | apply LoopK.mk | apply CallK.mk | apply FinK.mk)); first
      | ((with_reducible refine And.intro (fun (hb : _ = true) => ?_) (fun (hb : _ = false) => ?_)) <;> (try simp only [decide_eq_true_eq, decide_eq_false_iff_not, Bool.not_eq_true', Bool.not_eq_false', Bool.and_eq_true, Bool.and_eq_false_iff, Bool.or_eq_true, Bool.or_eq_false_iff, Bool.and_true, Int.not_lt, Int.not_le, not_true_eq_false, or_self, true_and, Bool.true_eq_false, Bool.false_eq_true, reduceCtorEq, not_false_eq_true, decide_true, decide_false, Int.toNat_natCast, Nat.zero_add] at hb) <;> (try (first | (exfalso; omega) | exact (Bool.false_ne_true (Eq.trans (Eq.symm hb) (by assumption))).elim | exact (Bool.false_ne_true (Eq.trans (Eq.symm (by assumption)) hb)).elim)))
      | (with_reducible refine Both.mk ?_ ?_)
      | ((with_reducible refine And.intro ?_ ?_); (focus (first | rfl | omega | (split <;> omega) | (refine ⟨?_, ?_, ?_⟩ <;> first | rfl | omega | (split <;> omega)) | assumption | (refine ⟨?_, ?_⟩ <;> omega) | (refine ⟨?_, ?_, ?_⟩ <;> omega) | (refine ⟨?_, ?_, ?_, ?_⟩ <;> omega) | (dsimp only [maxLen]; refine ⟨?_, ?_⟩ <;> omega) | (refine ⟨rfl, ?_⟩ <;> omega) | exact ⟨rfl, rfl⟩ | exact ⟨rfl, rfl, by omega⟩)))
      | ((with_reducible refine Or.inl (And.intro ?_ (And.intro ?_ ?_))); (focus (rfl)); (focus (refine ⟨?_, ?_, ?_, ?_⟩ <;> first | rfl | omega)))
      | ((with_reducible refine Or.inr (Or.inl (And.intro ?_ ?_))); (focus (refine ⟨?_, ?_, ?_⟩ <;> first | rfl | omega)))
      | ((with_reducible refine Or.inr (Or.inr (Or.inl (And.intro ?_ ?_)))); (focus (refine ⟨?_, ?_, ?_, ?_, ?_⟩ <;> first | rfl | omega)))
      | ((with_reducible refine Or.inr (Or.inr (Or.inr (And.intro ?_ ?_)))); (focus (refine ⟨?_, ?_, ?_, ?_, ?_, ?_, ?_⟩ <;> first | rfl | omega)))
      | (with_reducible intro hc; (try simp only [capsP, and_true] at hc); (try (exfalso; omega)))
      | ((fail_if_success (with_reducible first | refine And.intro ?_ ?_ | refine Or.inl ?_ | intro _)); (conv => whnf); (fail_if_success (fail_if_success (with_reducible first | apply LoopK.mk | apply CallK.mk | apply FinK.mk | refine Both.mk ?_ ?_ | refine And.intro ?_ ?_ | refine Or.inl ?_ | intro _))))))
  · refine FinK.mk ⟨[0, 1], _, _, ⟨rfl, rfl⟩, ?_⟩; (repeat' (first | (refine And.intro ?_ ?_) | exact trivial | rfl | exact Nat.le_refl _ | exact (fun _ _ => rfl) | (simp only [Int.toNat_natCast, Nat.zero_add, Nat.add_zero]; done)))
    exact decide_eq_decide.2 ⟨fun h => ⟨‹_›, h⟩, fun h => h.2⟩
  · refine FinK.mk ⟨[0, 1], _, _, ⟨rfl, rfl⟩, ?_⟩; (repeat' (first | (refine And.intro ?_ ?_) | exact trivial | rfl | exact Nat.le_refl _ | exact (fun _ _ => rfl) | (simp only [Int.toNat_natCast, Nat.zero_add, Nat.add_zero]; done)))
    exact decide_eq_false (fun h => ‹¬ _› h.1)
end Go.Proofs.Ytohghplabennjaa

namespace Go.Proofs.Ytohghplabennjaa
open Go.X
set_option linter.unusedSimpArgs false
set_option linter.unusedVariables false

set_option maxRecDepth 10000 in
set_option maxHeartbeats 1000000 in
theorem isplitR (l : List Smp) (c : Nat) (w sq : Int) (hl : l.length ≤ 1000000) :
    Ctr Try.prog 26 [.c (.sl 0 0 4 0 l.length c), .c (.fn 28 [(1, 0, 0), (2, 0, 0)])] [.one (smps true l c), .one (.cells true [.i .i64 w]), .one (.cells true [.i .i64 sq])]
      fun v h => ∃ cs cg, v = .t [.c (.sl 3 0 4 0 (l.filter fun x => !isS w sq x).length cs), .c (.sl 4 0 4 0 (l.filter (isS w sq)).length cg)] ∧
        h = [.one (smps true l c), .one (.cells true [.i .i64 w]), .one (.cells true [.i .i64 sq]), .one (smps true (l.filter fun x => !isS w sq x) cs), .one (smps true (l.filter (isS w sq)) cg)] := by
  refine Ctr.mk' tbv mixed Try.func26 rfl rfl rfl (fun _ _ => by kernel_rfl) (by kernel_rfl) (by rfl) (by rfl) (by exact trivial) ?_
  repeat' (first
    | ((fail_if_success (with_reducible first | apply LoopK.mk | apply CallK.mk | apply FinK.mk)); first
      | ((with_reducible refine And.intro (fun (hb : _ = true) => ?_) (fun (hb : _ = false) => ?_)) <;> (try simp only [decide_eq_true_eq, decide_eq_false_iff_not, Bool.not_eq_true', Bool.not_eq_false', Bool.and_eq_true, Bool.and_eq_false_iff, Bool.or_eq_true, Bool.or_eq_false_iff, Bool.and_true, Int.not_lt, Int.not_le, not_true_eq_false, or_self, true_and, Bool.true_eq_false, Bool.false_eq_true, reduceCtorEq, not_false_eq_true, decide_true, decide_false, Int.toNat_natCast, Nat.zero_add] at hb) <;> (try (first | (exfalso; omega) | exact (Bool.false_ne_true (Eq.trans (Eq.symm hb) (by assumption))).elim | exact (Bool.false_ne_true (Eq.trans (Eq.symm (by assumption)) hb)).elim)))
      | (with_reducible refine Both.mk ?_ ?_)
      | ((with_reducible refine And.intro ?_ ?_); (focus (first | rfl | omega | (split <;> omega) | (refine ⟨?_, ?_, ?_⟩ <;> first | rfl | omega | (split <;> omega)) | assumption | (refine ⟨?_, ?_⟩ <;> omega) | (refine ⟨?_, ?_, ?_⟩ <;> omega) | (refine ⟨?_, ?_, ?_, ?_⟩ <;> omega) | (dsimp only [maxLen]; refine ⟨?_, ?_⟩ <;> omega) | (refine ⟨rfl, ?_⟩ <;> omega) | exact ⟨rfl, rfl⟩ | exact ⟨rfl, rfl, by omega⟩)))
      | ((with_reducible refine Or.inl (And.intro ?_ (And.intro ?_ ?_))); (focus (rfl)); (focus (refine ⟨?_, ?_, ?_, ?_⟩ <;> first | rfl | omega)))
      | ((with_reducible refine Or.inr (Or.inl (And.intro ?_ ?_))); (focus (refine ⟨?_, ?_, ?_⟩ <;> first | rfl | omega)))
      | ((with_reducible refine Or.inr (Or.inr (Or.inl (And.intro ?_ ?_)))); (focus (refine ⟨?_, ?_, ?_, ?_, ?_⟩ <;> first | rfl | omega)))
      | ((with_reducible refine Or.inr (Or.inr (Or.inr (And.intro ?_ ?_)))); (focus (refine ⟨?_, ?_, ?_, ?_, ?_, ?_, ?_⟩ <;> first | rfl | omega)))
      | (with_reducible intro hc; (try simp only [capsP, and_true] at hc); (try (exfalso; omega)))
      | ((fail_if_success (with_reducible first | refine And.intro ?_ ?_ | refine Or.inl ?_ | intro _)); (conv => whnf); (fail_if_success (fail_if_success (with_reducible first | apply LoopK.mk | apply CallK.mk | apply FinK.mk | refine Both.mk ?_ ?_ | refine And.intro ?_ ?_ | refine Or.inl ?_ | intro _))))))
  refine LoopK.mk' {k : Nat × Nat × Nat // k.1 ≤ l.length}
    (fun ⟨(k, cs, cg), _⟩ => ⟨[(1, .c (.fn 28 [(1, 0, 0), (2, 0, 0)])), (4, .c (.sl 3 0 4 0 ((l.take k).filter fun x => !isS w sq x).length cs)), (5, .c (.sl 4 0 4 0 ((l.take k).filter (isS w sq)).length cg)), (8, .c (.sl 0 0 4 0 l.length c)), (9, .c (.i .i64 l.length)), (10, .c (.i .i64 k))],
      [.one (smps true l c), .one (.cells true [.i .i64 w]), .one (.cells true [.i .i64 sq]), .one (smps true ((l.take k).filter fun x => !isS w sq x) cs), .one (smps true ((l.take k).filter (isS w sq)) cg)]⟩) (fun k => l.length - k.1.1)
    ⟨⟨(0, 0, 0), Nat.zero_le _⟩, [0, 1, 2, 8, 9], ?_⟩ ?_
  · (repeat' (first | (refine And.intro ?_ ?_) | exact trivial | rfl | exact Nat.le_refl _ | exact (fun _ _ => rfl) | (simp only [Int.toNat_natCast, Nat.zero_add, Nat.add_zero]; done)))
  rintro ⟨⟨k, cs, cg⟩, hk⟩
  have hg : ((l.take k).filter (isS w sq)).length ≤ l.length := Nat.le_trans (List.length_filter_le _ _) (by rw [List.length_take]; omega)
  have hs : ((l.take k).filter fun x => !isS w sq x).length ≤ l.length := Nat.le_trans (List.length_filter_le _ _) (by rw [List.length_take]; omega)
  repeat' (first
    | ((fail_if_success (with_reducible first | apply LoopK.mk | apply CallK.mk | apply FinK.mk)); first
      | ((with_reducible refine And.intro (fun (hb : _ = true) => ?_) (fun (hb : _ = false) => ?_)) <;> (try simp only [decide_eq_true_eq, decide_eq_false_iff_not, Bool.not_eq_true', Bool.not_eq_false', Bool.and_eq_true, Bool.and_eq_false_iff, Bool.or_eq_true, Bool.or_eq_false_iff, Bool.and_true, Int.not_lt, Int.not_le, not_true_eq_false, or_self, true_and, Bool.true_eq_false, Bool.false_eq_true, reduceCtorEq, not_false_eq_true, decide_true, decide_false, Int.toNat_natCast, Nat.zero_add] at hb) <;> (try (first | (exfalso; omega) | exact (Bool.false_ne_true (Eq.trans (Eq.symm hb) (by assumption))).elim | exact (Bool.false_ne_true (Eq.trans (Eq.symm (by assumption)) hb)).elim)))
      | (with_reducible refine Both.mk ?_ ?_)
      | ((with_reducible refine And.intro ?_ ?_); (focus (first | rfl | omega | (split <;> omega) | (refine ⟨?_, ?_, ?_⟩ <;> first | rfl | omega | (split <;> omega)) | assumption | (refine ⟨?_, ?_⟩ <;> omega) | (refine ⟨?_, ?_, ?_⟩ <;> omega) | (refine ⟨?_, ?_, ?_, ?_⟩ <;> omega) | (dsimp only [maxLen]; refine ⟨?_, ?_⟩ <;> omega) | (refine ⟨rfl, ?_⟩ <;> omega) | exact ⟨rfl, rfl⟩ | exact ⟨rfl, rfl, by omega⟩)))
      | ((with_reducible refine Or.inl (And.intro ?_ (And.intro ?_ ?_))); (focus (rfl)); (focus (refine ⟨?_, ?_, ?_, ?_⟩ <;> first | rfl | omega)))
      | ((with_reducible refine Or.inr (Or.inl (And.intro ?_ ?_))); (focus (refine ⟨?_, ?_, ?_⟩ <;> first | rfl | omega)))
      | ((with_reducible refine Or.inr (Or.inr (Or.inl (And.intro ?_ ?_)))); (focus (refine ⟨?_, ?_, ?_, ?_, ?_⟩ <;> first | rfl | omega)))
      | ((with_reducible refine Or.inr (Or.inr (Or.inr (And.intro ?_ ?_)))); (focus (refine ⟨?_, ?_, ?_, ?_, ?_, ?_, ?_⟩ <;> first | rfl | omega)))
      | (with_reducible intro hc; (try simp only [capsP, and_true] at hc); (try (exfalso; omega)))
      | ((fail_if_success (with_reducible first | refine And.intro ?_ ?_ | refine Or.inl ?_ | intro _)); (conv => whnf); (fail_if_success (fail_if_success (with_reducible first | apply LoopK.mk | apply CallK.mk | apply FinK.mk | refine Both.mk ?_ ?_ | refine And.intro ?_ ?_ | refine Or.inl ?_ | intro _))))))
  · refine CallK.mk2 (σ := [.whole 1, .whole 2]) (nl := []) (cremove1 (l.getD k default) w sq) rfl rfl (by (try simp only [givesF, setF, updF, Fam.zeroth, Fam.rk, Ck.rk, C.rk, E.rk, T.rk, key, List.map_cons, List.map_nil, List.cons_append, List.nil_append, List.length_cons, List.length_nil, Option.map_some, Option.bind_some, Nat.reduceAdd, Nat.zero_add, Nat.add_zero, Nat.add_sub_cancel_left, Int.toNat_natCast, reps, List.all_cons, List.all_nil, C.flat, List.append_eq, Bool.not_true, Bool.and_true, Bool.or_false, Bool.or_self, Bool.not_false, List.append_nil, Bool.and_self]); rfl) (by (repeat' (first | (refine And.intro ?_ ?_) | exact trivial | rfl | exact Nat.le_refl _ | exact (fun _ _ => rfl) | (simp only [Int.toNat_natCast, Nat.zero_add, Nat.add_zero]; done)))) ?_
    rintro v h' ⟨rfl, rfl⟩ hcaps
    repeat' (first
      | ((fail_if_success (with_reducible first | apply LoopK.mk | apply CallK.mk | apply FinK.mk)); first
        | ((with_reducible refine And.intro (fun (hb : _ = true) => ?_) (fun (hb : _ = false) => ?_)) <;> (try simp only [decide_eq_true_eq, decide_eq_false_iff_not, Bool.not_eq_true', Bool.not_eq_false', Bool.and_eq_true, Bool.and_eq_false_iff, Bool.or_eq_true, Bool.or_eq_false_iff, Bool.and_true, Int.not_lt, Int.not_le, not_true_eq_false, or_self, true_and, Bool.true_eq_false, Bool.false_eq_true, reduceCtorEq, not_false_eq_true, decide_true, decide_false, Int.toNat_natCast, Nat.zero_add] at hb) <;> (try (first | (exfalso; omega) | exact (Bool.false_ne_true (Eq.trans (Eq.symm hb) (by assumption))).elim | exact (Bool.false_ne_true (Eq.trans (Eq.symm (by assumption)) hb)).elim)))
        | (with_reducible refine Both.mk ?_ ?_)
        | ((with_reducible refine And.intro ?_ ?_); (focus (first | rfl | omega | (split <;> omega) | (refine ⟨?_, ?_, ?_⟩ <;> first | rfl | omega | (split <;> omega)) | assumption | (refine ⟨?_, ?_⟩ <;> omega) | (refine ⟨?_, ?_, ?_⟩ <;> omega) | (refine ⟨?_, ?_, ?_, ?_⟩ <;> omega) | (dsimp only [maxLen]; refine ⟨?_, ?_⟩ <;> omega) | (refine ⟨rfl, ?_⟩ <;> omega) | exact ⟨rfl, rfl⟩ | exact ⟨rfl, rfl, by omega⟩)))
        | ((with_reducible refine Or.inl (And.intro ?_ (And.intro ?_ ?_))); (focus (rfl)); (focus (refine ⟨?_, ?_, ?_, ?_⟩ <;> first | rfl | omega)))
        | ((with_reducible refine Or.inr (Or.inl (And.intro ?_ ?_))); (focus (refine ⟨?_, ?_, ?_⟩ <;> first | rfl | omega)))
        | ((with_reducible refine Or.inr (Or.inr (Or.inl (And.intro ?_ ?_)))); (focus (refine ⟨?_, ?_, ?_, ?_, ?_⟩ <;> first | rfl | omega)))
        | ((with_reducible refine Or.inr (Or.inr (Or.inr (And.intro ?_ ?_)))); (focus (refine ⟨?_, ?_, ?_, ?_, ?_, ?_, ?_⟩ <;> first | rfl | omega)))
        | (with_reducible intro hc; (try simp only [capsP, and_true] at hc); (try (exfalso; omega)))
        | ((fail_if_success (with_reducible first | refine And.intro ?_ ?_ | refine Or.inl ?_ | intro _)); (conv => whnf); (fail_if_success (fail_if_success (with_reducible first | apply LoopK.mk | apply CallK.mk | apply FinK.mk | refine Both.mk ?_ ?_ | refine And.intro ?_ ?_ | refine Or.inl ?_ | intro _))))))
    · rename_i c2
      have eg := filt_yes (p := isS w sq) (show k < l.length by omega) ‹_›
      have es := filt_no (p := fun x => !isS w sq x) (show k < l.length by omega) (by simp only [‹isS w sq _ = true›, Bool.not_true])
      refine ⟨⟨(k + 1, cs, c2), by simp only; omega⟩, [0, 1, 2, 3, 7], by simp only; omega, ?_⟩
      simp only [eg, es]
      (repeat' (first | (refine And.intro ?_ ?_) | exact trivial | rfl | exact Nat.le_refl _ | exact (fun _ _ => rfl) | (simp only [Int.toNat_natCast, Nat.zero_add, Nat.add_zero]; done)))
      all_goals first
        | (simp only [List.length_append, List.length_singleton]; done)
        | (rw [List.length_append, List.length_singleton]; omega)
        | (intro i hi
           refine app_row _ (l.getD k default) _ ?_ i hi
           rfl)
    · rename_i c2
      have eg := filt_no (p := isS w sq) (show k < l.length by omega) ‹_›
      have es := filt_yes (p := fun x => !isS w sq x) (show k < l.length by omega) (by simp only [‹isS w sq _ = false›, Bool.not_false])
      refine ⟨⟨(k + 1, c2, cg), by simp only; omega⟩, [0, 1, 2, 7, 4], by simp only; omega, ?_⟩
      simp only [eg, es]
      (repeat' (first | (refine And.intro ?_ ?_) | exact trivial | rfl | exact Nat.le_refl _ | exact (fun _ _ => rfl) | (simp only [Int.toNat_natCast, Nat.zero_add, Nat.add_zero]; done)))
      all_goals first
        | (simp only [List.length_append, List.length_singleton]; done)
        | (rw [List.length_append, List.length_singleton]; omega)
        | (intro i hi
           refine app_row _ (l.getD k default) _ ?_ i hi
           rfl)
  · have hkl : k = l.length := by have := hk; simp only at this; omega
    subst hkl
    rw [List.take_length] at *
    refine FinK.mk ⟨[0, 1, 2, 3, 4], _, _, ⟨cs, cg, rfl, rfl⟩, ?_⟩
    (repeat' (first | (refine And.intro ?_ ?_) | exact trivial | rfl | exact Nat.le_refl _ | exact (fun _ _ => rfl) | (simp only [Int.toNat_natCast, Nat.zero_add, Nat.add_zero]; done)))
end Go.Proofs.Ytohghplabennjaa

namespace Go.Proofs.Ytohghplabennjaa
open Go.X
set_option linter.unusedSimpArgs false
set_option linter.unusedVariables false

set_option maxRecDepth 10000 in
theorem iremove (q : Qos) (l : List Smp) (c : Nat) (w sq : Int) (hl : l.length ≤ 1000000) :
    Ctr Try.prog 16 [.c (.p 0 0 0), .c (.i .i64 w), .c (.i .i64 sq)] [.one (hist 1 q l.length c), .one (smps true l c)]
      fun v h => ∃ c', v = .c (.b (decide ((0 : Int) < ((l.filter (isS w sq)).length : Nat)))) ∧ h = [.one (hist 2 q (l.filter fun x => !isS w sq x).length c'), .one .no, .one (smps true (l.filter fun x => !isS w sq x) c')] := by
  refine Ctr.mk' tbv mixed Try.func16 rfl rfl rfl (fun _ _ => by kernel_rfl) (by kernel_rfl) (by rfl) (by rfl) (by exact trivial) ?_
  repeat' (first
    | ((fail_if_success (with_reducible first | apply LoopK.mk | apply CallK.mk | apply FinK.mk)); first
      | ((with_reducible refine And.intro (fun (hb : _ = true) => ?_) (fun (hb : _ = false) => ?_)) <;> (try simp only [decide_eq_true_eq, decide_eq_false_iff_not, Bool.not_eq_true', Bool.not_eq_false', Bool.and_eq_true, Bool.and_eq_false_iff, Bool.or_eq_true, Bool.or_eq_false_iff, Bool.and_true, Int.not_lt, Int.not_le, not_true_eq_false, or_self, true_and, Bool.true_eq_false, Bool.false_eq_true, reduceCtorEq, not_false_eq_true, decide_true, decide_false, Int.toNat_natCast, Nat.zero_add] at hb) <;> (try (first | (exfalso; omega) | exact (Bool.false_ne_true (Eq.trans (Eq.symm hb) (by assumption))).elim | exact (Bool.false_ne_true (Eq.trans (Eq.symm (by assumption)) hb)).elim)))
      | (with_reducible refine Both.mk ?_ ?_)
      | ((with_reducible refine And.intro ?_ ?_); (focus (first | rfl | omega | (split <;> omega) | (refine ⟨?_, ?_, ?_⟩ <;> first | rfl | omega | (split <;> omega)) | assumption | (refine ⟨?_, ?_⟩ <;> omega) | (refine ⟨?_, ?_, ?_⟩ <;> omega) | (refine ⟨?_, ?_, ?_, ?_⟩ <;> omega) | (dsimp only [maxLen]; refine ⟨?_, ?_⟩ <;> omega) | (refine ⟨rfl, ?_⟩ <;> omega) | exact ⟨rfl, rfl⟩ | exact ⟨rfl, rfl, by omega⟩)))
      | ((with_reducible refine Or.inl (And.intro ?_ (And.intro ?_ ?_))); (focus (rfl)); (focus (refine ⟨?_, ?_, ?_, ?_⟩ <;> first | rfl | omega)))
      | ((with_reducible refine Or.inr (Or.inl (And.intro ?_ ?_))); (focus (refine ⟨?_, ?_, ?_⟩ <;> first | rfl | omega)))
      | ((with_reducible refine Or.inr (Or.inr (Or.inl (And.intro ?_ ?_)))); (focus (refine ⟨?_, ?_, ?_, ?_, ?_⟩ <;> first | rfl | omega)))
      | ((with_reducible refine Or.inr (Or.inr (Or.inr (And.intro ?_ ?_)))); (focus (refine ⟨?_, ?_, ?_, ?_, ?_, ?_, ?_⟩ <;> first | rfl | omega)))
      | (with_reducible intro hc; (try simp only [capsP, and_true] at hc); (try (exfalso; omega)))
      | ((fail_if_success (with_reducible first | refine And.intro ?_ ?_ | refine Or.inl ?_ | intro _)); (conv => whnf); (fail_if_success (fail_if_success (with_reducible first | apply LoopK.mk | apply CallK.mk | apply FinK.mk | refine Both.mk ?_ ?_ | refine And.intro ?_ ?_ | refine Or.inl ?_ | intro _))))))
  refine CallK.mk2 (σ := [.whole 1, .whole 2, .whole 3]) (nl := []) (isplitR l c w sq hl) rfl rfl (by (try simp only [givesF, setF, updF, Fam.zeroth, Fam.rk, Ck.rk, C.rk, E.rk, T.rk, key, List.map_cons, List.map_nil, List.cons_append, List.nil_append, List.length_cons, List.length_nil, Option.map_some, Option.bind_some, Nat.reduceAdd, Nat.zero_add, Nat.add_zero, Nat.add_sub_cancel_left, Int.toNat_natCast, reps, List.all_cons, List.all_nil, C.flat, List.append_eq, Bool.not_true, Bool.and_true, Bool.or_false, Bool.or_self, Bool.not_false, List.append_nil, Bool.and_self]); rfl) (by (repeat' (first | (refine And.intro ?_ ?_) | exact trivial | rfl | exact Nat.le_refl _ | exact (fun _ _ => rfl) | (simp only [Int.toNat_natCast, Nat.zero_add, Nat.add_zero]; done)))) ?_
  rintro v h' ⟨cs, cg, rfl, rfl⟩ hcaps
  repeat' (first
    | ((fail_if_success (with_reducible first | apply LoopK.mk | apply CallK.mk | apply FinK.mk)); first
      | ((with_reducible refine And.intro (fun (hb : _ = true) => ?_) (fun (hb : _ = false) => ?_)) <;> (try simp only [decide_eq_true_eq, decide_eq_false_iff_not, Bool.not_eq_true', Bool.not_eq_false', Bool.and_eq_true, Bool.and_eq_false_iff, Bool.or_eq_true, Bool.or_eq_false_iff, Bool.and_true, Int.not_lt, Int.not_le, not_true_eq_false, or_self, true_and, Bool.true_eq_false, Bool.false_eq_true, reduceCtorEq, not_false_eq_true, decide_true, decide_false, Int.toNat_natCast, Nat.zero_add] at hb) <;> (try (first | (exfalso; omega) | exact (Bool.false_ne_true (Eq.trans (Eq.symm hb) (by assumption))).elim | exact (Bool.false_ne_true (Eq.trans (Eq.symm (by assumption)) hb)).elim)))
      | (with_reducible refine Both.mk ?_ ?_)
      | ((with_reducible refine And.intro ?_ ?_); (focus (first | rfl | omega | (split <;> omega) | (refine ⟨?_, ?_, ?_⟩ <;> first | rfl | omega | (split <;> omega)) | assumption | (refine ⟨?_, ?_⟩ <;> omega) | (refine ⟨?_, ?_, ?_⟩ <;> omega) | (refine ⟨?_, ?_, ?_, ?_⟩ <;> omega) | (dsimp only [maxLen]; refine ⟨?_, ?_⟩ <;> omega) | (refine ⟨rfl, ?_⟩ <;> omega) | exact ⟨rfl, rfl⟩ | exact ⟨rfl, rfl, by omega⟩)))
      | ((with_reducible refine Or.inl (And.intro ?_ (And.intro ?_ ?_))); (focus (rfl)); (focus (refine ⟨?_, ?_, ?_, ?_⟩ <;> first | rfl | omega)))
      | ((with_reducible refine Or.inr (Or.inl (And.intro ?_ ?_))); (focus (refine ⟨?_, ?_, ?_⟩ <;> first | rfl | omega)))
      | ((with_reducible refine Or.inr (Or.inr (Or.inl (And.intro ?_ ?_)))); (focus (refine ⟨?_, ?_, ?_, ?_, ?_⟩ <;> first | rfl | omega)))
      | ((with_reducible refine Or.inr (Or.inr (Or.inr (And.intro ?_ ?_)))); (focus (refine ⟨?_, ?_, ?_, ?_, ?_, ?_, ?_⟩ <;> first | rfl | omega)))
      | (with_reducible intro hc; (try simp only [capsP, and_true] at hc); (try (exfalso; omega)))
      | ((fail_if_success (with_reducible first | refine And.intro ?_ ?_ | refine Or.inl ?_ | intro _)); (conv => whnf); (fail_if_success (fail_if_success (with_reducible first | apply LoopK.mk | apply CallK.mk | apply FinK.mk | refine Both.mk ?_ ?_ | refine And.intro ?_ ?_ | refine Or.inl ?_ | intro _))))))
  refine FinK.mk ⟨[0, 1, 4], _, _, ⟨cs, rfl, rfl⟩, ?_⟩
  (repeat' (first | (refine And.intro ?_ ?_) | exact trivial | rfl | exact Nat.le_refl _ | exact (fun _ _ => rfl) | (simp only [Int.toNat_natCast, Nat.zero_add, Nat.add_zero]; done)))
end Go.Proofs.Ytohghplabennjaa

namespace Go.Proofs.Ytohghplabennjaa
open Go.X
set_option linter.unusedSimpArgs false
set_option linter.unusedVariables false

def addE (q : Qos) (l : List Smp) (x : Smp) : Int :=
  if x.w < 1 ∨ x.q < 1 ∨ x.t < 0 ∨ 1099511627776 < x.t then 4 else if 2000 < x.p.size then 3 else if 0 ≤ findI l x.w x.q then 7
  else if oldI q l x.w < 0 ∧ 256 ≤ l.length then 15 else 0
def addO (q : Qos) (l : List Smp) (x : Smp) : List Smp := if oldI q l x.w < 0 then [] else [l.getD (oldI q l x.w).toNat default]
def addL (q : Qos) (l : List Smp) (x : Smp) : List Smp := (if oldI q l x.w < 0 then l else l.eraseIdx (oldI q l x.w).toNat) ++ [x]
def newS (q : Qos) (l : List Smp) (x : Smp) : List Smp := if addE q l x = 0 then addL q l x else l
def outS (q : Qos) (l : List Smp) (x : Smp) : List Smp := if addE q l x = 0 then addO q l x else []
theorem add_err {q : Qos} {l : List Smp} {x : Smp} (h : addE q l x ≠ 0) : newS q l x = l ∧ outS q l x = [] := ⟨if_neg h, if_neg h⟩
theorem add_ok {q : Qos} {l : List Smp} {x : Smp} (h : addE q l x = 0) : newS q l x = addL q l x ∧ outS q l x = addO q l x := ⟨if_pos h, if_pos h⟩
def addQ (q : Qos) (l : List Smp) (x : Smp) (v : T) (h : List Fam) : Prop :=
  ∃ co c', v = .t [.c (.sl 3 0 4 0 (outS q l x).length co), .c (.i .i64 (addE q l x))] ∧
    h = [.one (hist 2 q (newS q l x).length c'), .one .no, .one (smps true (newS q l x) c'), .one (smps true (outS q l x) co)]
theorem fst_lt (l : List Smp) (w : Int) : fstI l w < l.length := by
  unfold fstI
  split
  · rename_i i h
    obtain ⟨hk, _⟩ := List.findIdx?_eq_some_iff_getElem.1 h
    omega
  · omega
theorem old_lt (q : Qos) (l : List Smp) (w : Int) : oldI q l w < l.length := by
  unfold oldI
  have := fst_lt l w
  split
  · omega
  · split
    · omega
    · exact this

set_option maxRecDepth 10000 in
set_option maxHeartbeats 4000000 in
theorem iadd (q : Qos) (l : List Smp) (c : Nat) (x : Smp) (hl : l.length ≤ 1000000) :
    Ctr Try.prog 9 [.c (.p 0 0 0), .a (encS x)] [.one (hist 1 q l.length c), .one (smps true l c)] (addQ q l x) := by
  refine Ctr.mk' tbv mixed Try.func9 rfl rfl rfl (fun _ _ => by kernel_rfl) (by kernel_rfl) (by rfl) (by rfl) (by exact trivial) ?_
  repeat' (first
    | ((fail_if_success (with_reducible first | apply LoopK.mk | apply CallK.mk | apply FinK.mk)); first
      | ((with_reducible refine And.intro (fun (hb : _ = true) => ?_) (fun (hb : _ = false) => ?_)) <;> (try simp only [decide_eq_true_eq, decide_eq_false_iff_not, Bool.not_eq_true', Bool.not_eq_false', Bool.and_eq_true, Bool.and_eq_false_iff, Bool.or_eq_true, Bool.or_eq_false_iff, Bool.and_true, Int.not_lt, Int.not_le, not_true_eq_false, or_self, true_and, Bool.true_eq_false, Bool.false_eq_true, reduceCtorEq, not_false_eq_true, decide_true, decide_false, Int.toNat_natCast, Nat.zero_add] at hb) <;> (try (first | (exfalso; omega) | exact (Bool.false_ne_true (Eq.trans (Eq.symm hb) (by assumption))).elim | exact (Bool.false_ne_true (Eq.trans (Eq.symm (by assumption)) hb)).elim)))
      | (with_reducible refine Both.mk ?_ ?_)
      | ((with_reducible refine And.intro ?_ ?_); (focus (first | rfl | omega | (split <;> omega) | (refine ⟨?_, ?_, ?_⟩ <;> first | rfl | omega | (split <;> omega)) | assumption | (refine ⟨?_, ?_⟩ <;> omega) | (refine ⟨?_, ?_, ?_⟩ <;> omega) | (refine ⟨?_, ?_, ?_, ?_⟩ <;> omega) | (dsimp only [maxLen]; refine ⟨?_, ?_⟩ <;> omega) | (refine ⟨rfl, ?_⟩ <;> omega) | exact ⟨rfl, rfl⟩ | exact ⟨rfl, rfl, by omega⟩)))
      | ((with_reducible refine Or.inl (And.intro ?_ (And.intro ?_ ?_))); (focus (rfl)); (focus (refine ⟨?_, ?_, ?_, ?_⟩ <;> first | rfl | omega)))
      | ((with_reducible refine Or.inr (Or.inl (And.intro ?_ ?_))); (focus (refine ⟨?_, ?_, ?_⟩ <;> first | rfl | omega)))
      | ((with_reducible refine Or.inr (Or.inr (Or.inl (And.intro ?_ ?_)))); (focus (refine ⟨?_, ?_, ?_, ?_, ?_⟩ <;> first | rfl | omega)))
      | ((with_reducible refine Or.inr (Or.inr (Or.inr (And.intro ?_ ?_)))); (focus (refine ⟨?_, ?_, ?_, ?_, ?_, ?_, ?_⟩ <;> first | rfl | omega)))
      | (with_reducible intro hc; (try simp only [capsP, and_true] at hc); (try (exfalso; omega)))
      | ((fail_if_success (with_reducible first | refine And.intro ?_ ?_ | refine Or.inl ?_ | intro _)); (conv => whnf); (fail_if_success (fail_if_success (with_reducible first | apply LoopK.mk | apply CallK.mk | apply FinK.mk | refine Both.mk ?_ ?_ | refine And.intro ?_ ?_ | refine Or.inl ?_ | intro _))))))
  · have e : addE q l x = 4 := by unfold addE; rw [if_pos (by omega)]
    obtain ⟨e1, e2⟩ := add_err (show addE q l x ≠ 0 by omega)
    unfold addQ
    rw [e, e1, e2]
    refine FinK.mk ⟨[0, 1, 1, 9], _, _, ⟨0, c, rfl, rfl⟩, ?_⟩
    (repeat' (first | (refine And.intro ?_ ?_) | exact trivial | rfl | exact Nat.le_refl _ | exact (fun _ _ => rfl) | (simp only [Int.toNat_natCast, Nat.zero_add, Nat.add_zero]; done)))
  · have e : addE q l x = 4 := by unfold addE; rw [if_pos (by omega)]
    obtain ⟨e1, e2⟩ := add_err (show addE q l x ≠ 0 by omega)
    unfold addQ
    rw [e, e1, e2]
    refine FinK.mk ⟨[0, 1, 1, 9], _, _, ⟨0, c, rfl, rfl⟩, ?_⟩
    (repeat' (first | (refine And.intro ?_ ?_) | exact trivial | rfl | exact Nat.le_refl _ | exact (fun _ _ => rfl) | (simp only [Int.toNat_natCast, Nat.zero_add, Nat.add_zero]; done)))
  · have e : addE q l x = 4 := by unfold addE; rw [if_pos (by omega)]
    obtain ⟨e1, e2⟩ := add_err (show addE q l x ≠ 0 by omega)
    unfold addQ
    rw [e, e1, e2]
    refine FinK.mk ⟨[0, 1, 1, 9], _, _, ⟨0, c, rfl, rfl⟩, ?_⟩
    (repeat' (first | (refine And.intro ?_ ?_) | exact trivial | rfl | exact Nat.le_refl _ | exact (fun _ _ => rfl) | (simp only [Int.toNat_natCast, Nat.zero_add, Nat.add_zero]; done)))
  · have e : addE q l x = 4 := by unfold addE; rw [if_pos (by omega)]
    obtain ⟨e1, e2⟩ := add_err (show addE q l x ≠ 0 by omega)
    unfold addQ
    rw [e, e1, e2]
    refine FinK.mk ⟨[0, 1, 1, 9], _, _, ⟨0, c, rfl, rfl⟩, ?_⟩
    (repeat' (first | (refine And.intro ?_ ?_) | exact trivial | rfl | exact Nat.le_refl _ | exact (fun _ _ => rfl) | (simp only [Int.toNat_natCast, Nat.zero_add, Nat.add_zero]; done)))
  · have e : addE q l x = 3 := by unfold addE; rw [if_neg (by omega), if_pos (by omega)]
    obtain ⟨e1, e2⟩ := add_err (show addE q l x ≠ 0 by omega)
    unfold addQ
    rw [e, e1, e2]
    refine FinK.mk ⟨[0, 1, 1, 9], _, _, ⟨0, c, rfl, rfl⟩, ?_⟩
    (repeat' (first | (refine And.intro ?_ ?_) | exact trivial | rfl | exact Nat.le_refl _ | exact (fun _ _ => rfl) | (simp only [Int.toNat_natCast, Nat.zero_add, Nat.add_zero]; done)))
  refine CallK.mk2 (σ := [.whole 0, .whole 1]) (nl := []) (ifind q l c x.w x.q hl) rfl rfl (by (try simp only [givesF, setF, updF, Fam.zeroth, Fam.rk, Ck.rk, C.rk, E.rk, T.rk, key, List.map_cons, List.map_nil, List.cons_append, List.nil_append, List.length_cons, List.length_nil, Option.map_some, Option.bind_some, Nat.reduceAdd, Nat.zero_add, Nat.add_zero, Nat.add_sub_cancel_left, Int.toNat_natCast, reps, List.all_cons, List.all_nil, C.flat, List.append_eq, Bool.not_true, Bool.and_true, Bool.or_false, Bool.or_self, Bool.not_false, List.append_nil, Bool.and_self]); rfl) (by (repeat' (first | (refine And.intro ?_ ?_) | exact trivial | rfl | exact Nat.le_refl _ | exact (fun _ _ => rfl) | (simp only [Int.toNat_natCast, Nat.zero_add, Nat.add_zero]; done)))) ?_
  rintro v h' ⟨rfl, rfl⟩ hcaps
  refine ret_mk (by (try simp only [givesF, setF, updF, Fam.zeroth, Fam.rk, Ck.rk, C.rk, E.rk, T.rk, key, List.map_cons, List.map_nil, List.cons_append, List.nil_append, List.length_cons, List.length_nil, Option.map_some, Option.bind_some, Nat.reduceAdd, Nat.zero_add, Nat.add_zero, Nat.add_sub_cancel_left, Int.toNat_natCast, reps, List.all_cons, List.all_nil, C.flat, List.append_eq, Bool.not_true, Bool.and_true, Bool.or_false, Bool.or_self, Bool.not_false, List.append_nil, Bool.and_self]); rfl) (by (try simp only [givesF, setF, updF, Fam.zeroth, Fam.rk, Ck.rk, C.rk, E.rk, T.rk, key, List.map_cons, List.map_nil, List.cons_append, List.nil_append, List.length_cons, List.length_nil, Option.map_some, Option.bind_some, Nat.reduceAdd, Nat.zero_add, Nat.add_zero, Nat.add_sub_cancel_left, Int.toNat_natCast, reps, List.all_cons, List.all_nil, C.flat, List.append_eq, Bool.not_true, Bool.and_true, Bool.or_false, Bool.or_self, Bool.not_false, List.append_nil, Bool.and_self]); rfl) ?_
  repeat' (first
    | ((fail_if_success (with_reducible first | apply LoopK.mk | apply CallK.mk | apply FinK.mk)); first
      | ((with_reducible refine And.intro (fun (hb : _ = true) => ?_) (fun (hb : _ = false) => ?_)) <;> (try simp only [decide_eq_true_eq, decide_eq_false_iff_not, Bool.not_eq_true', Bool.not_eq_false', Bool.and_eq_true, Bool.and_eq_false_iff, Bool.or_eq_true, Bool.or_eq_false_iff, Bool.and_true, Int.not_lt, Int.not_le, not_true_eq_false, or_self, true_and, Bool.true_eq_false, Bool.false_eq_true, reduceCtorEq, not_false_eq_true, decide_true, decide_false, Int.toNat_natCast, Nat.zero_add] at hb) <;> (try (first | (exfalso; omega) | exact (Bool.false_ne_true (Eq.trans (Eq.symm hb) (by assumption))).elim | exact (Bool.false_ne_true (Eq.trans (Eq.symm (by assumption)) hb)).elim)))
      | (with_reducible refine Both.mk ?_ ?_)
      | ((with_reducible refine And.intro ?_ ?_); (focus (first | rfl | omega | (split <;> omega) | (refine ⟨?_, ?_, ?_⟩ <;> first | rfl | omega | (split <;> omega)) | assumption | (refine ⟨?_, ?_⟩ <;> omega) | (refine ⟨?_, ?_, ?_⟩ <;> omega) | (refine ⟨?_, ?_, ?_, ?_⟩ <;> omega) | (dsimp only [maxLen]; refine ⟨?_, ?_⟩ <;> omega) | (refine ⟨rfl, ?_⟩ <;> omega) | exact ⟨rfl, rfl⟩ | exact ⟨rfl, rfl, by omega⟩)))
      | ((with_reducible refine Or.inl (And.intro ?_ (And.intro ?_ ?_))); (focus (rfl)); (focus (refine ⟨?_, ?_, ?_, ?_⟩ <;> first | rfl | omega)))
      | ((with_reducible refine Or.inr (Or.inl (And.intro ?_ ?_))); (focus (refine ⟨?_, ?_, ?_⟩ <;> first | rfl | omega)))
      | ((with_reducible refine Or.inr (Or.inr (Or.inl (And.intro ?_ ?_)))); (focus (refine ⟨?_, ?_, ?_, ?_, ?_⟩ <;> first | rfl | omega)))
      | ((with_reducible refine Or.inr (Or.inr (Or.inr (And.intro ?_ ?_)))); (focus (refine ⟨?_, ?_, ?_, ?_, ?_, ?_, ?_⟩ <;> first | rfl | omega)))
      | (with_reducible intro hc; (try simp only [capsP, and_true] at hc); (try (exfalso; omega)))
      | ((fail_if_success (with_reducible first | refine And.intro ?_ ?_ | refine Or.inl ?_ | intro _)); (conv => whnf); (fail_if_success (fail_if_success (with_reducible first | apply LoopK.mk | apply CallK.mk | apply FinK.mk | refine Both.mk ?_ ?_ | refine And.intro ?_ ?_ | refine Or.inl ?_ | intro _))))))
  · have e : addE q l x = 7 := by unfold addE; rw [if_neg (by omega), if_neg (by omega), if_pos (by omega)]
    obtain ⟨e1, e2⟩ := add_err (show addE q l x ≠ 0 by omega)
    unfold addQ
    rw [e, e1, e2]
    refine FinK.mk ⟨[0, 1, 1, 9], _, _, ⟨0, c, rfl, rfl⟩, ?_⟩
    (repeat' (first | (refine And.intro ?_ ?_) | exact trivial | rfl | exact Nat.le_refl _ | exact (fun _ _ => rfl) | (simp only [Int.toNat_natCast, Nat.zero_add, Nat.add_zero]; done)))
  refine CallK.mk2 (σ := [.whole 0, .whole 1]) (nl := []) (ioldest q l c x.w hl) rfl rfl (by (try simp only [givesF, setF, updF, Fam.zeroth, Fam.rk, Ck.rk, C.rk, E.rk, T.rk, key, List.map_cons, List.map_nil, List.cons_append, List.nil_append, List.length_cons, List.length_nil, Option.map_some, Option.bind_some, Nat.reduceAdd, Nat.zero_add, Nat.add_zero, Nat.add_sub_cancel_left, Int.toNat_natCast, reps, List.all_cons, List.all_nil, C.flat, List.append_eq, Bool.not_true, Bool.and_true, Bool.or_false, Bool.or_self, Bool.not_false, List.append_nil, Bool.and_self]); rfl) (by (repeat' (first | (refine And.intro ?_ ?_) | exact trivial | rfl | exact Nat.le_refl _ | exact (fun _ _ => rfl) | (simp only [Int.toNat_natCast, Nat.zero_add, Nat.add_zero]; done)))) ?_
  rintro v h' ⟨rfl, rfl⟩ hcaps
  refine ret_mk (by (try simp only [givesF, setF, updF, Fam.zeroth, Fam.rk, Ck.rk, C.rk, E.rk, T.rk, key, List.map_cons, List.map_nil, List.cons_append, List.nil_append, List.length_cons, List.length_nil, Option.map_some, Option.bind_some, Nat.reduceAdd, Nat.zero_add, Nat.add_zero, Nat.add_sub_cancel_left, Int.toNat_natCast, reps, List.all_cons, List.all_nil, C.flat, List.append_eq, Bool.not_true, Bool.and_true, Bool.or_false, Bool.or_self, Bool.not_false, List.append_nil, Bool.and_self]); rfl) (by (try simp only [givesF, setF, updF, Fam.zeroth, Fam.rk, Ck.rk, C.rk, E.rk, T.rk, key, List.map_cons, List.map_nil, List.cons_append, List.nil_append, List.length_cons, List.length_nil, Option.map_some, Option.bind_some, Nat.reduceAdd, Nat.zero_add, Nat.add_zero, Nat.add_sub_cancel_left, Int.toNat_natCast, reps, List.all_cons, List.all_nil, C.flat, List.append_eq, Bool.not_true, Bool.and_true, Bool.or_false, Bool.or_self, Bool.not_false, List.append_nil, Bool.and_self]); rfl) ?_
  have hlt := old_lt q l x.w
  have hE : ¬ (x.w < 1 ∨ x.q < 1 ∨ x.t < 0 ∨ 1099511627776 < x.t) ∧ ¬ 2000 < x.p.size ∧ ¬ 0 ≤ findI l x.w x.q := by omega
  rcases Int.lt_or_le (oldI q l x.w) 0 with hneg | hpos
  · skip
    repeat' (first
      | ((fail_if_success (with_reducible first | apply LoopK.mk | apply CallK.mk | apply FinK.mk)); first
        | ((with_reducible refine And.intro (fun (hb : _ = true) => ?_) (fun (hb : _ = false) => ?_)) <;> (try simp only [decide_eq_true_eq, decide_eq_false_iff_not, Bool.not_eq_true', Bool.not_eq_false', Bool.and_eq_true, Bool.and_eq_false_iff, Bool.or_eq_true, Bool.or_eq_false_iff, Bool.and_true, Int.not_lt, Int.not_le, not_true_eq_false, or_self, true_and, Bool.true_eq_false, Bool.false_eq_true, reduceCtorEq, not_false_eq_true, decide_true, decide_false, Int.toNat_natCast, Nat.zero_add] at hb) <;> (try (first | (exfalso; omega) | exact (Bool.false_ne_true (Eq.trans (Eq.symm hb) (by assumption))).elim | exact (Bool.false_ne_true (Eq.trans (Eq.symm (by assumption)) hb)).elim)))
        | (with_reducible refine Both.mk ?_ ?_)
        | ((with_reducible refine And.intro ?_ ?_); (focus (first | rfl | omega | (split <;> omega) | (refine ⟨?_, ?_, ?_⟩ <;> first | rfl | omega | (split <;> omega)) | assumption | (refine ⟨?_, ?_⟩ <;> omega) | (refine ⟨?_, ?_, ?_⟩ <;> omega) | (refine ⟨?_, ?_, ?_, ?_⟩ <;> omega) | (dsimp only [maxLen]; refine ⟨?_, ?_⟩ <;> omega) | (refine ⟨rfl, ?_⟩ <;> omega) | exact ⟨rfl, rfl⟩ | exact ⟨rfl, rfl, by omega⟩)))
        | ((with_reducible refine Or.inl (And.intro ?_ (And.intro ?_ ?_))); (focus (rfl)); (focus (refine ⟨?_, ?_, ?_, ?_⟩ <;> first | rfl | omega)))
        | ((with_reducible refine Or.inr (Or.inl (And.intro ?_ ?_))); (focus (refine ⟨?_, ?_, ?_⟩ <;> first | rfl | omega)))
        | ((with_reducible refine Or.inr (Or.inr (Or.inl (And.intro ?_ ?_)))); (focus (refine ⟨?_, ?_, ?_, ?_, ?_⟩ <;> first | rfl | omega)))
        | ((with_reducible refine Or.inr (Or.inr (Or.inr (And.intro ?_ ?_)))); (focus (refine ⟨?_, ?_, ?_, ?_, ?_, ?_, ?_⟩ <;> first | rfl | omega)))
        | (with_reducible intro hc; (try simp only [capsP, and_true] at hc); (try (exfalso; omega)))
        | ((fail_if_success (with_reducible first | refine And.intro ?_ ?_ | refine Or.inl ?_ | intro _)); (conv => whnf); (fail_if_success (fail_if_success (with_reducible first | apply LoopK.mk | apply CallK.mk | apply FinK.mk | refine Both.mk ?_ ?_ | refine And.intro ?_ ?_ | refine Or.inl ?_ | intro _))))))
    · have e : addE q l x = 15 := by unfold addE; rw [if_neg hE.1, if_neg hE.2.1, if_neg hE.2.2, if_pos (by omega)]
      obtain ⟨e1, e2⟩ := add_err (show addE q l x ≠ 0 by omega)
      unfold addQ
      rw [e, e1, e2]
      refine FinK.mk ⟨[0, 1, 1, 9], _, _, ⟨0, c, rfl, rfl⟩, ?_⟩
      (repeat' (first | (refine And.intro ?_ ?_) | exact trivial | rfl | exact Nat.le_refl _ | exact (fun _ _ => rfl) | (simp only [Int.toNat_natCast, Nat.zero_add, Nat.add_zero]; done)))
    · rename_i c2
      have e : addE q l x = 0 := by unfold addE; rw [if_neg hE.1, if_neg hE.2.1, if_neg hE.2.2, if_neg (by omega)]
      have eL : addL q l x = l ++ [x] := by unfold addL; rw [if_pos hneg]
      have eO : addO q l x = [] := by unfold addO; rw [if_pos hneg]
      obtain ⟨e1, e2⟩ := add_ok e
      unfold addQ
      rw [e, e1, e2, eL, eO]
      refine FinK.mk ⟨[0, 1, 4, 9], _, _, ⟨0, c2, rfl, rfl⟩, ?_⟩
      (repeat' (first | (refine And.intro ?_ ?_) | exact trivial | rfl | exact Nat.le_refl _ | exact (fun _ _ => rfl) | (simp only [Int.toNat_natCast, Nat.zero_add, Nat.add_zero]; done)))
      all_goals first
        | (simp only [List.length_append, List.length_singleton]; done)
        | (rw [List.length_append, List.length_singleton]; omega)
        | (intro i hi; exact app_row l x _ rfl i hi)
  · obtain ⟨k, hk⟩ := Int.eq_ofNat_of_zero_le hpos
    have eE : addE q l x = 0 := by unfold addE; rw [if_neg hE.1, if_neg hE.2.1, if_neg hE.2.2, if_neg (by omega)]
    have eL : addL q l x = l.eraseIdx k ++ [x] := by unfold addL; rw [if_neg (by omega), hk]; rfl
    have eO : addO q l x = [l.getD k default] := by unfold addO; rw [if_neg (by omega), hk]; rfl
    have hkl : k < l.length := by omega
    obtain ⟨e1, e2⟩ := add_ok eE
    unfold addQ
    rw [eE, e1, e2, eL, eO, hk]
    repeat' (first
      | ((fail_if_success (with_reducible first | apply LoopK.mk | apply CallK.mk | apply FinK.mk)); first
        | ((with_reducible refine And.intro (fun (hb : _ = true) => ?_) (fun (hb : _ = false) => ?_)) <;> (try simp only [decide_eq_true_eq, decide_eq_false_iff_not, Bool.not_eq_true', Bool.not_eq_false', Bool.and_eq_true, Bool.and_eq_false_iff, Bool.or_eq_true, Bool.or_eq_false_iff, Bool.and_true, Int.not_lt, Int.not_le, not_true_eq_false, or_self, true_and, Bool.true_eq_false, Bool.false_eq_true, reduceCtorEq, not_false_eq_true, decide_true, decide_false, Int.toNat_natCast, Nat.zero_add] at hb) <;> (try (first | (exfalso; omega) | exact (Bool.false_ne_true (Eq.trans (Eq.symm hb) (by assumption))).elim | exact (Bool.false_ne_true (Eq.trans (Eq.symm (by assumption)) hb)).elim)))
        | (with_reducible refine Both.mk ?_ ?_)
        | ((with_reducible refine And.intro ?_ ?_); (focus (first | rfl | omega | (split <;> omega) | (refine ⟨?_, ?_, ?_⟩ <;> first | rfl | omega | (split <;> omega)) | assumption | (refine ⟨?_, ?_⟩ <;> omega) | (refine ⟨?_, ?_, ?_⟩ <;> omega) | (refine ⟨?_, ?_, ?_, ?_⟩ <;> omega) | (dsimp only [maxLen]; refine ⟨?_, ?_⟩ <;> omega) | (refine ⟨rfl, ?_⟩ <;> omega) | exact ⟨rfl, rfl⟩ | exact ⟨rfl, rfl, by omega⟩)))
        | ((with_reducible refine Or.inl (And.intro ?_ (And.intro ?_ ?_))); (focus (rfl)); (focus (refine ⟨?_, ?_, ?_, ?_⟩ <;> first | rfl | omega)))
        | ((with_reducible refine Or.inr (Or.inl (And.intro ?_ ?_))); (focus (refine ⟨?_, ?_, ?_⟩ <;> first | rfl | omega)))
        | ((with_reducible refine Or.inr (Or.inr (Or.inl (And.intro ?_ ?_)))); (focus (refine ⟨?_, ?_, ?_, ?_, ?_⟩ <;> first | rfl | omega)))
        | ((with_reducible refine Or.inr (Or.inr (Or.inr (And.intro ?_ ?_)))); (focus (refine ⟨?_, ?_, ?_, ?_, ?_, ?_, ?_⟩ <;> first | rfl | omega)))
        | (with_reducible intro hc; (try simp only [capsP, and_true] at hc); (try (exfalso; omega)))
        | ((fail_if_success (with_reducible first | refine And.intro ?_ ?_ | refine Or.inl ?_ | intro _)); (conv => whnf); (fail_if_success (fail_if_success (with_reducible first | apply LoopK.mk | apply CallK.mk | apply FinK.mk | refine Both.mk ?_ ?_ | refine And.intro ?_ ?_ | refine Or.inl ?_ | intro _))))))
    rename_i c2
    refine CallK.mk2 (σ := [.whole 1]) (nl := []) (idelete l c k hkl hl) rfl rfl (by (try simp only [givesF, setF, updF, Fam.zeroth, Fam.rk, Ck.rk, C.rk, E.rk, T.rk, key, List.map_cons, List.map_nil, List.cons_append, List.nil_append, List.length_cons, List.length_nil, Option.map_some, Option.bind_some, Nat.reduceAdd, Nat.zero_add, Nat.add_zero, Nat.add_sub_cancel_left, Int.toNat_natCast, reps, List.all_cons, List.all_nil, C.flat, List.append_eq, Bool.not_true, Bool.and_true, Bool.or_false, Bool.or_self, Bool.not_false, List.append_nil, Bool.and_self]); rfl) (by (repeat' (first | (refine And.intro ?_ ?_) | exact trivial | rfl | exact Nat.le_refl _ | exact (fun _ _ => rfl) | (simp only [Int.toNat_natCast, Nat.zero_add, Nat.add_zero]; done)))) ?_
    rintro v h' ⟨rfl, rfl⟩ hcaps
    refine ret_mk (by (try simp only [givesF, setF, updF, Fam.zeroth, Fam.rk, Ck.rk, C.rk, E.rk, T.rk, key, List.map_cons, List.map_nil, List.cons_append, List.nil_append, List.length_cons, List.length_nil, Option.map_some, Option.bind_some, Nat.reduceAdd, Nat.zero_add, Nat.add_zero, Nat.add_sub_cancel_left, Int.toNat_natCast, reps, List.all_cons, List.all_nil, C.flat, List.append_eq, Bool.not_true, Bool.and_true, Bool.or_false, Bool.or_self, Bool.not_false, List.append_nil, Bool.and_self]); rfl) (by (try simp only [givesF, setF, updF, Fam.zeroth, Fam.rk, Ck.rk, C.rk, E.rk, T.rk, key, List.map_cons, List.map_nil, List.cons_append, List.nil_append, List.length_cons, List.length_nil, Option.map_some, Option.bind_some, Nat.reduceAdd, Nat.zero_add, Nat.add_zero, Nat.add_sub_cancel_left, Int.toNat_natCast, reps, List.all_cons, List.all_nil, C.flat, List.append_eq, Bool.not_true, Bool.and_true, Bool.or_false, Bool.or_self, Bool.not_false, List.append_nil, Bool.and_self]); rfl) ?_
    have hel := erase_len hkl
    repeat' (first
      | ((fail_if_success (with_reducible first | apply LoopK.mk | apply CallK.mk | apply FinK.mk)); first
        | ((with_reducible refine And.intro (fun (hb : _ = true) => ?_) (fun (hb : _ = false) => ?_)) <;> (try simp only [decide_eq_true_eq, decide_eq_false_iff_not, Bool.not_eq_true', Bool.not_eq_false', Bool.and_eq_true, Bool.and_eq_false_iff, Bool.or_eq_true, Bool.or_eq_false_iff, Bool.and_true, Int.not_lt, Int.not_le, not_true_eq_false, or_self, true_and, Bool.true_eq_false, Bool.false_eq_true, reduceCtorEq, not_false_eq_true, decide_true, decide_false, Int.toNat_natCast, Nat.zero_add] at hb) <;> (try (first | (exfalso; omega) | exact (Bool.false_ne_true (Eq.trans (Eq.symm hb) (by assumption))).elim | exact (Bool.false_ne_true (Eq.trans (Eq.symm (by assumption)) hb)).elim)))
        | (with_reducible refine Both.mk ?_ ?_)
        | ((with_reducible refine And.intro ?_ ?_); (focus (first | rfl | omega | (split <;> omega) | (refine ⟨?_, ?_, ?_⟩ <;> first | rfl | omega | (split <;> omega)) | assumption | (refine ⟨?_, ?_⟩ <;> omega) | (refine ⟨?_, ?_, ?_⟩ <;> omega) | (refine ⟨?_, ?_, ?_, ?_⟩ <;> omega) | (dsimp only [maxLen]; refine ⟨?_, ?_⟩ <;> omega) | (refine ⟨rfl, ?_⟩ <;> omega) | exact ⟨rfl, rfl⟩ | exact ⟨rfl, rfl, by omega⟩)))
        | ((with_reducible refine Or.inl (And.intro ?_ (And.intro ?_ ?_))); (focus (rfl)); (focus (refine ⟨?_, ?_, ?_, ?_⟩ <;> first | rfl | omega)))
        | ((with_reducible refine Or.inr (Or.inl (And.intro ?_ ?_))); (focus (refine ⟨?_, ?_, ?_⟩ <;> first | rfl | omega)))
        | ((with_reducible refine Or.inr (Or.inr (Or.inl (And.intro ?_ ?_)))); (focus (refine ⟨?_, ?_, ?_, ?_, ?_⟩ <;> first | rfl | omega)))
        | ((with_reducible refine Or.inr (Or.inr (Or.inr (And.intro ?_ ?_)))); (focus (refine ⟨?_, ?_, ?_, ?_, ?_, ?_, ?_⟩ <;> first | rfl | omega)))
        | (with_reducible intro hc; (try simp only [capsP, and_true] at hc); (try (exfalso; omega)))
        | ((fail_if_success (with_reducible first | refine And.intro ?_ ?_ | refine Or.inl ?_ | intro _)); (conv => whnf); (fail_if_success (fail_if_success (with_reducible first | apply LoopK.mk | apply CallK.mk | apply FinK.mk | refine Both.mk ?_ ?_ | refine And.intro ?_ ?_ | refine Or.inl ?_ | intro _))))))
    rename_i c3
    refine FinK.mk ⟨[0, 1, 6, 4], _, _, ⟨c2, c3, rfl, rfl⟩, ?_⟩
    (repeat' (first | (refine And.intro ?_ ?_) | exact trivial | rfl | exact Nat.le_refl _ | exact (fun _ _ => rfl) | (simp only [Int.toNat_natCast, Nat.zero_add, Nat.add_zero]; done)))
    all_goals first
      | (simp only [List.length_append, List.length_singleton]; done)
      | (rw [List.length_append, List.length_singleton]; omega)
      | (intro i hi; exact app_row (l.eraseIdx k) x _ rfl i hi)
      | (intro i hi; have : i = 0 := by simpa using hi
         subst this; rfl)
end Go.Proofs.Ytohghplabennjaa

namespace Go.Proofs.Ytohghplabennjaa
open Go.X
set_option linter.unusedSimpArgs false
set_option linter.unusedVariables false

theorem fst_pos {l : List Smp} {w : Int} (h : 0 < cnt l w) : 0 ≤ fstI l w := by
  unfold fstI
  split
  · omega
  · rename_i hn
    rw [List.findIdx?_eq_none_iff] at hn
    unfold cnt at h
    rw [List.filter_eq_nil_iff.2 (fun x hx => by simpa using hn x hx)] at h
    simp at h

set_option maxRecDepth 10000 in
set_option maxHeartbeats 4000000 in
theorem radd (q : Qos) (l : List Smp) (c : Nat) (x : Smp) (hl : l.length ≤ 1000000) (hq : q.keep = true ∨ 1 ≤ q.depth) :
    Ctr Try.prog 34 [.c (.p 0 0 0), .a (encS x)] [.one (hist 1 q l.length c), .one (smps true l c)] (addQ q l x) := by
  refine Ctr.mk' tbv mixed Try.func34 rfl rfl rfl (fun _ _ => by kernel_rfl) (by kernel_rfl) (by rfl) (by rfl) (by exact trivial) ?_
  repeat' (first
    | ((fail_if_success (with_reducible first | apply LoopK.mk | apply CallK.mk | apply FinK.mk)); first
      | ((with_reducible refine And.intro (fun (hb : _ = true) => ?_) (fun (hb : _ = false) => ?_)) <;> (try simp only [decide_eq_true_eq, decide_eq_false_iff_not, Bool.not_eq_true', Bool.not_eq_false', Bool.and_eq_true, Bool.and_eq_false_iff, Bool.or_eq_true, Bool.or_eq_false_iff, Bool.and_true, Int.not_lt, Int.not_le, not_true_eq_false, or_self, true_and, Bool.true_eq_false, Bool.false_eq_true, reduceCtorEq, not_false_eq_true, decide_true, decide_false, Int.toNat_natCast, Nat.zero_add] at hb) <;> (try (first | (exfalso; omega) | exact (Bool.false_ne_true (Eq.trans (Eq.symm hb) (by assumption))).elim | exact (Bool.false_ne_true (Eq.trans (Eq.symm (by assumption)) hb)).elim)))
      | (with_reducible refine Both.mk ?_ ?_)
      | ((with_reducible refine And.intro ?_ ?_); (focus (first | rfl | omega | (split <;> omega) | (refine ⟨?_, ?_, ?_⟩ <;> first | rfl | omega | (split <;> omega)) | assumption | (refine ⟨?_, ?_⟩ <;> omega) | (refine ⟨?_, ?_, ?_⟩ <;> omega) | (refine ⟨?_, ?_, ?_, ?_⟩ <;> omega) | (dsimp only [maxLen]; refine ⟨?_, ?_⟩ <;> omega) | (refine ⟨rfl, ?_⟩ <;> omega) | exact ⟨rfl, rfl⟩ | exact ⟨rfl, rfl, by omega⟩)))
      | ((with_reducible refine Or.inl (And.intro ?_ (And.intro ?_ ?_))); (focus (rfl)); (focus (refine ⟨?_, ?_, ?_, ?_⟩ <;> first | rfl | omega)))
      | ((with_reducible refine Or.inr (Or.inl (And.intro ?_ ?_))); (focus (refine ⟨?_, ?_, ?_⟩ <;> first | rfl | omega)))
      | ((with_reducible refine Or.inr (Or.inr (Or.inl (And.intro ?_ ?_)))); (focus (refine ⟨?_, ?_, ?_, ?_, ?_⟩ <;> first | rfl | omega)))
      | ((with_reducible refine Or.inr (Or.inr (Or.inr (And.intro ?_ ?_)))); (focus (refine ⟨?_, ?_, ?_, ?_, ?_, ?_, ?_⟩ <;> first | rfl | omega)))
      | (with_reducible intro hc; (try simp only [capsP, and_true] at hc); (try (exfalso; omega)))
      | ((fail_if_success (with_reducible first | refine And.intro ?_ ?_ | refine Or.inl ?_ | intro _)); (conv => whnf); (fail_if_success (fail_if_success (with_reducible first | apply LoopK.mk | apply CallK.mk | apply FinK.mk | refine Both.mk ?_ ?_ | refine And.intro ?_ ?_ | refine Or.inl ?_ | intro _))))))
  all_goals try (
    have e : addE q l x = 4 := by unfold addE; rw [if_pos (by omega)]
    obtain ⟨e1, e2⟩ := add_err (show addE q l x ≠ 0 by omega)
    unfold addQ
    rw [e, e1, e2]
    refine FinK.mk ⟨[0, 1, 1, 9], _, _, ⟨0, c, rfl, rfl⟩, ?_⟩
    (repeat' (first | (refine And.intro ?_ ?_) | exact trivial | rfl | exact Nat.le_refl _ | exact (fun _ _ => rfl) | (simp only [Int.toNat_natCast, Nat.zero_add, Nat.add_zero]; done)))
    done)
  all_goals try (
    have e : addE q l x = 3 := by unfold addE; rw [if_neg (by omega), if_pos (by omega)]
    obtain ⟨e1, e2⟩ := add_err (show addE q l x ≠ 0 by omega)
    unfold addQ
    rw [e, e1, e2]
    refine FinK.mk ⟨[0, 1, 1, 9], _, _, ⟨0, c, rfl, rfl⟩, ?_⟩
    (repeat' (first | (refine And.intro ?_ ?_) | exact trivial | rfl | exact Nat.le_refl _ | exact (fun _ _ => rfl) | (simp only [Int.toNat_natCast, Nat.zero_add, Nat.add_zero]; done)))
    done)
  refine CallK.mk2 (σ := [.whole 0, .whole 1]) (nl := []) (rfind q l c x.w x.q hl) rfl rfl (by (try simp only [givesF, setF, updF, Fam.zeroth, Fam.rk, Ck.rk, C.rk, E.rk, T.rk, key, List.map_cons, List.map_nil, List.cons_append, List.nil_append, List.length_cons, List.length_nil, Option.map_some, Option.bind_some, Nat.reduceAdd, Nat.zero_add, Nat.add_zero, Nat.add_sub_cancel_left, Int.toNat_natCast, reps, List.all_cons, List.all_nil, C.flat, List.append_eq, Bool.not_true, Bool.and_true, Bool.or_false, Bool.or_self, Bool.not_false, List.append_nil, Bool.and_self]); rfl) (by (repeat' (first | (refine And.intro ?_ ?_) | exact trivial | rfl | exact Nat.le_refl _ | exact (fun _ _ => rfl) | (simp only [Int.toNat_natCast, Nat.zero_add, Nat.add_zero]; done)))) ?_
  rintro v h' ⟨rfl, rfl⟩ hcaps
  refine ret_mk (by (try simp only [givesF, setF, updF, Fam.zeroth, Fam.rk, Ck.rk, C.rk, E.rk, T.rk, key, List.map_cons, List.map_nil, List.cons_append, List.nil_append, List.length_cons, List.length_nil, Option.map_some, Option.bind_some, Nat.reduceAdd, Nat.zero_add, Nat.add_zero, Nat.add_sub_cancel_left, Int.toNat_natCast, reps, List.all_cons, List.all_nil, C.flat, List.append_eq, Bool.not_true, Bool.and_true, Bool.or_false, Bool.or_self, Bool.not_false, List.append_nil, Bool.and_self]); rfl) (by (try simp only [givesF, setF, updF, Fam.zeroth, Fam.rk, Ck.rk, C.rk, E.rk, T.rk, key, List.map_cons, List.map_nil, List.cons_append, List.nil_append, List.length_cons, List.length_nil, Option.map_some, Option.bind_some, Nat.reduceAdd, Nat.zero_add, Nat.add_zero, Nat.add_sub_cancel_left, Int.toNat_natCast, reps, List.all_cons, List.all_nil, C.flat, List.append_eq, Bool.not_true, Bool.and_true, Bool.or_false, Bool.or_self, Bool.not_false, List.append_nil, Bool.and_self]); rfl) ?_
  repeat' (first
    | ((fail_if_success (with_reducible first | apply LoopK.mk | apply CallK.mk | apply FinK.mk)); first
      | ((with_reducible refine And.intro (fun (hb : _ = true) => ?_) (fun (hb : _ = false) => ?_)) <;> (try simp only [decide_eq_true_eq, decide_eq_false_iff_not, Bool.not_eq_true', Bool.not_eq_false', Bool.and_eq_true, Bool.and_eq_false_iff, Bool.or_eq_true, Bool.or_eq_false_iff, Bool.and_true, Int.not_lt, Int.not_le, not_true_eq_false, or_self, true_and, Bool.true_eq_false, Bool.false_eq_true, reduceCtorEq, not_false_eq_true, decide_true, decide_false, Int.toNat_natCast, Nat.zero_add] at hb) <;> (try (first | (exfalso; omega) | exact (Bool.false_ne_true (Eq.trans (Eq.symm hb) (by assumption))).elim | exact (Bool.false_ne_true (Eq.trans (Eq.symm (by assumption)) hb)).elim)))
      | (with_reducible refine Both.mk ?_ ?_)
      | ((with_reducible refine And.intro ?_ ?_); (focus (first | rfl | omega | (split <;> omega) | (refine ⟨?_, ?_, ?_⟩ <;> first | rfl | omega | (split <;> omega)) | assumption | (refine ⟨?_, ?_⟩ <;> omega) | (refine ⟨?_, ?_, ?_⟩ <;> omega) | (refine ⟨?_, ?_, ?_, ?_⟩ <;> omega) | (dsimp only [maxLen]; refine ⟨?_, ?_⟩ <;> omega) | (refine ⟨rfl, ?_⟩ <;> omega) | exact ⟨rfl, rfl⟩ | exact ⟨rfl, rfl, by omega⟩)))
      | ((with_reducible refine Or.inl (And.intro ?_ (And.intro ?_ ?_))); (focus (rfl)); (focus (refine ⟨?_, ?_, ?_, ?_⟩ <;> first | rfl | omega)))
      | ((with_reducible refine Or.inr (Or.inl (And.intro ?_ ?_))); (focus (refine ⟨?_, ?_, ?_⟩ <;> first | rfl | omega)))
      | ((with_reducible refine Or.inr (Or.inr (Or.inl (And.intro ?_ ?_)))); (focus (refine ⟨?_, ?_, ?_, ?_, ?_⟩ <;> first | rfl | omega)))
      | ((with_reducible refine Or.inr (Or.inr (Or.inr (And.intro ?_ ?_)))); (focus (refine ⟨?_, ?_, ?_, ?_, ?_, ?_, ?_⟩ <;> first | rfl | omega)))
      | (with_reducible intro hc; (try simp only [capsP, and_true] at hc); (try (exfalso; omega)))
      | ((fail_if_success (with_reducible first | refine And.intro ?_ ?_ | refine Or.inl ?_ | intro _)); (conv => whnf); (fail_if_success (fail_if_success (with_reducible first | apply LoopK.mk | apply CallK.mk | apply FinK.mk | refine Both.mk ?_ ?_ | refine And.intro ?_ ?_ | refine Or.inl ?_ | intro _))))))
  · have e : addE q l x = 7 := by unfold addE; rw [if_neg (by omega), if_neg (by omega), if_pos (by omega)]
    obtain ⟨e1, e2⟩ := add_err (show addE q l x ≠ 0 by omega)
    unfold addQ
    rw [e, e1, e2]
    refine FinK.mk ⟨[0, 1, 1, 9], _, _, ⟨0, c, rfl, rfl⟩, ?_⟩
    (repeat' (first | (refine And.intro ?_ ?_) | exact trivial | rfl | exact Nat.le_refl _ | exact (fun _ _ => rfl) | (simp only [Int.toNat_natCast, Nat.zero_add, Nat.add_zero]; done)))
  have hE : ¬ (x.w < 1 ∨ x.q < 1 ∨ x.t < 0 ∨ 1099511627776 < x.t) ∧ ¬ 2000 < x.p.size ∧ ¬ 0 ≤ findI l x.w x.q := by omega
  refine LoopK.mk' {k : Nat // k ≤ l.length}
    (fun ⟨k, _⟩ => ⟨[(0, .c (.p 0 0 0)), (3, .c (.p 2 0 0)), (6, .c (.i .i64 (cnt (l.take k) x.w))), (7, .c (.i .i64 (fstI (l.take k) x.w))), (8, .c (.i .i64 k))], [.one (hist 1 q l.length c), .one (smps true l c), .one (.cells true (encS x))]⟩) (fun k => l.length - k.1)
    ⟨⟨0, Nat.zero_le _⟩, [0, 1, 2], ?_⟩ ?_
  · (repeat' (first | (refine And.intro ?_ ?_) | exact trivial | rfl | exact Nat.le_refl _ | exact (fun _ _ => rfl) | (simp only [Int.toNat_natCast, Nat.zero_add, Nat.add_zero]; done)))
  rintro ⟨k, hk⟩
  have hcn := cnt_le l x.w k
  repeat' (first
    | ((fail_if_success (with_reducible first | apply LoopK.mk | apply CallK.mk | apply FinK.mk)); first
      | ((with_reducible refine And.intro (fun (hb : _ = true) => ?_) (fun (hb : _ = false) => ?_)) <;> (try simp only [decide_eq_true_eq, decide_eq_false_iff_not, Bool.not_eq_true', Bool.not_eq_false', Bool.and_eq_true, Bool.and_eq_false_iff, Bool.or_eq_true, Bool.or_eq_false_iff, Bool.and_true, Int.not_lt, Int.not_le, not_true_eq_false, or_self, true_and, Bool.true_eq_false, Bool.false_eq_true, reduceCtorEq, not_false_eq_true, decide_true, decide_false, Int.toNat_natCast, Nat.zero_add] at hb) <;> (try (first | (exfalso; omega) | exact (Bool.false_ne_true (Eq.trans (Eq.symm hb) (by assumption))).elim | exact (Bool.false_ne_true (Eq.trans (Eq.symm (by assumption)) hb)).elim)))
      | (with_reducible refine Both.mk ?_ ?_)
      | ((with_reducible refine And.intro ?_ ?_); (focus (first | rfl | omega | (split <;> omega) | (refine ⟨?_, ?_, ?_⟩ <;> first | rfl | omega | (split <;> omega)) | assumption | (refine ⟨?_, ?_⟩ <;> omega) | (refine ⟨?_, ?_, ?_⟩ <;> omega) | (refine ⟨?_, ?_, ?_, ?_⟩ <;> omega) | (dsimp only [maxLen]; refine ⟨?_, ?_⟩ <;> omega) | (refine ⟨rfl, ?_⟩ <;> omega) | exact ⟨rfl, rfl⟩ | exact ⟨rfl, rfl, by omega⟩)))
      | ((with_reducible refine Or.inl (And.intro ?_ (And.intro ?_ ?_))); (focus (rfl)); (focus (refine ⟨?_, ?_, ?_, ?_⟩ <;> first | rfl | omega)))
      | ((with_reducible refine Or.inr (Or.inl (And.intro ?_ ?_))); (focus (refine ⟨?_, ?_, ?_⟩ <;> first | rfl | omega)))
      | ((with_reducible refine Or.inr (Or.inr (Or.inl (And.intro ?_ ?_)))); (focus (refine ⟨?_, ?_, ?_, ?_, ?_⟩ <;> first | rfl | omega)))
      | ((with_reducible refine Or.inr (Or.inr (Or.inr (And.intro ?_ ?_)))); (focus (refine ⟨?_, ?_, ?_, ?_, ?_, ?_, ?_⟩ <;> first | rfl | omega)))
      | (with_reducible intro hc; (try simp only [capsP, and_true] at hc); (try (exfalso; omega)))
      | ((fail_if_success (with_reducible first | refine And.intro ?_ ?_ | refine Or.inl ?_ | intro _)); (conv => whnf); (fail_if_success (fail_if_success (with_reducible first | apply LoopK.mk | apply CallK.mk | apply FinK.mk | refine Both.mk ?_ ?_ | refine And.intro ?_ ?_ | refine Or.inl ?_ | intro _))))))
  · have h := ‹(l.getD k default).w = x.w›
    refine ⟨⟨k + 1, by omega⟩, [0, 1, 2], by simp only; omega, ?_⟩
    (repeat' (first | (refine And.intro ?_ ?_) | exact trivial | rfl | exact Nat.le_refl _ | exact (fun _ _ => rfl) | (simp only [Int.toNat_natCast, Nat.zero_add, Nat.add_zero]; done)))
    · rw [cnt_yes (by omega) h]; rfl
    · exact (fst_new (by omega) h ‹_›).symm
  · have h := ‹(l.getD k default).w = x.w›
    refine ⟨⟨k + 1, by omega⟩, [0, 1, 2], by simp only; omega, ?_⟩
    (repeat' (first | (refine And.intro ?_ ?_) | exact trivial | rfl | exact Nat.le_refl _ | exact (fun _ _ => rfl) | (simp only [Int.toNat_natCast, Nat.zero_add, Nat.add_zero]; done)))
    · rw [cnt_yes (by omega) h]; rfl
    · exact (fst_old (by omega) ‹_›).symm
  · have h := ‹¬ _›
    refine ⟨⟨k + 1, by omega⟩, [0, 1, 2], by simp only; omega, ?_⟩
    (repeat' (first | (refine And.intro ?_ ?_) | exact trivial | rfl | exact Nat.le_refl _ | exact (fun _ _ => rfl) | (simp only [Int.toNat_natCast, Nat.zero_add, Nat.add_zero]; done)))
    · rw [cnt_no (by omega) h]
    · exact (fst_no (by omega) h).symm
  all_goals (
    have hkl : k = l.length := by omega
    subst hkl
    rw [List.take_length] at *)
  · have ek : oldI q l x.w = fstI l x.w := by unfold oldI; rw [if_neg (by simp [*]), if_neg (by omega)]
    have hd : 1 ≤ q.depth := hq.resolve_left (by simp [*])
    have hpos : 0 ≤ fstI l x.w := fst_pos (by omega)
    obtain ⟨k, hk⟩ := Int.eq_ofNat_of_zero_le hpos
    have hkl : k < l.length := by have := fst_lt l x.w; omega
    have eE : addE q l x = 0 := by unfold addE; rw [if_neg hE.1, if_neg hE.2.1, if_neg hE.2.2, if_neg (by omega)]
    have eL : addL q l x = l.eraseIdx k ++ [x] := by unfold addL; rw [if_neg (by omega), ek, hk]; rfl
    have eO : addO q l x = [l.getD k default] := by unfold addO; rw [if_neg (by omega), ek, hk]; rfl
    obtain ⟨e1, e2⟩ := add_ok eE
    unfold addQ
    rw [eE, e1, e2, eL, eO, hk]
    refine CallK.mk2 (σ := [.whole 0, .whole 1]) (nl := []) (rcut q l c k hkl hl) rfl rfl (by (try simp only [givesF, setF, updF, Fam.zeroth, Fam.rk, Ck.rk, C.rk, E.rk, T.rk, key, List.map_cons, List.map_nil, List.cons_append, List.nil_append, List.length_cons, List.length_nil, Option.map_some, Option.bind_some, Nat.reduceAdd, Nat.zero_add, Nat.add_zero, Nat.add_sub_cancel_left, Int.toNat_natCast, reps, List.all_cons, List.all_nil, C.flat, List.append_eq, Bool.not_true, Bool.and_true, Bool.or_false, Bool.or_self, Bool.not_false, List.append_nil, Bool.and_self]); rfl) (by (repeat' (first | (refine And.intro ?_ ?_) | exact trivial | rfl | exact Nat.le_refl _ | exact (fun _ _ => rfl) | (simp only [Int.toNat_natCast, Nat.zero_add, Nat.add_zero]; done)))) ?_
    rintro v h' ⟨rfl, c2, rfl⟩ hcaps
    refine ret_mk (by (try simp only [givesF, setF, updF, Fam.zeroth, Fam.rk, Ck.rk, C.rk, E.rk, T.rk, key, List.map_cons, List.map_nil, List.cons_append, List.nil_append, List.length_cons, List.length_nil, Option.map_some, Option.bind_some, Nat.reduceAdd, Nat.zero_add, Nat.add_zero, Nat.add_sub_cancel_left, Int.toNat_natCast, reps, List.all_cons, List.all_nil, C.flat, List.append_eq, Bool.not_true, Bool.and_true, Bool.or_false, Bool.or_self, Bool.not_false, List.append_nil, Bool.and_self, encS]); rfl) (by (try simp only [givesF, setF, updF, Fam.zeroth, Fam.rk, Ck.rk, C.rk, E.rk, T.rk, key, List.map_cons, List.map_nil, List.cons_append, List.nil_append, List.length_cons, List.length_nil, Option.map_some, Option.bind_some, Nat.reduceAdd, Nat.zero_add, Nat.add_zero, Nat.add_sub_cancel_left, Int.toNat_natCast, reps, List.all_cons, List.all_nil, C.flat, List.append_eq, Bool.not_true, Bool.and_true, Bool.or_false, Bool.or_self, Bool.not_false, List.append_nil, Bool.and_self, encS]); rfl) ?_
    have hel := erase_len hkl
    repeat' (first
      | ((fail_if_success (with_reducible first | apply LoopK.mk | apply CallK.mk | apply FinK.mk)); first
        | ((with_reducible refine And.intro (fun (hb : _ = true) => ?_) (fun (hb : _ = false) => ?_)) <;> (try simp only [decide_eq_true_eq, decide_eq_false_iff_not, Bool.not_eq_true', Bool.not_eq_false', Bool.and_eq_true, Bool.and_eq_false_iff, Bool.or_eq_true, Bool.or_eq_false_iff, Bool.and_true, Int.not_lt, Int.not_le, not_true_eq_false, or_self, true_and, Bool.true_eq_false, Bool.false_eq_true, reduceCtorEq, not_false_eq_true, decide_true, decide_false, Int.toNat_natCast, Nat.zero_add] at hb) <;> (try (first | (exfalso; omega) | exact (Bool.false_ne_true (Eq.trans (Eq.symm hb) (by assumption))).elim | exact (Bool.false_ne_true (Eq.trans (Eq.symm (by assumption)) hb)).elim)))
        | (with_reducible refine Both.mk ?_ ?_)
        | ((with_reducible refine And.intro ?_ ?_); (focus (first | rfl | omega | (split <;> omega) | (refine ⟨?_, ?_, ?_⟩ <;> first | rfl | omega | (split <;> omega)) | assumption | (refine ⟨?_, ?_⟩ <;> omega) | (refine ⟨?_, ?_, ?_⟩ <;> omega) | (refine ⟨?_, ?_, ?_, ?_⟩ <;> omega) | (dsimp only [maxLen]; refine ⟨?_, ?_⟩ <;> omega) | (refine ⟨rfl, ?_⟩ <;> omega) | exact ⟨rfl, rfl⟩ | exact ⟨rfl, rfl, by omega⟩)))
        | ((with_reducible refine Or.inl (And.intro ?_ (And.intro ?_ ?_))); (focus (rfl)); (focus (refine ⟨?_, ?_, ?_, ?_⟩ <;> first | rfl | omega)))
        | ((with_reducible refine Or.inr (Or.inl (And.intro ?_ ?_))); (focus (refine ⟨?_, ?_, ?_⟩ <;> first | rfl | omega)))
        | ((with_reducible refine Or.inr (Or.inr (Or.inl (And.intro ?_ ?_)))); (focus (refine ⟨?_, ?_, ?_, ?_, ?_⟩ <;> first | rfl | omega)))
        | ((with_reducible refine Or.inr (Or.inr (Or.inr (And.intro ?_ ?_)))); (focus (refine ⟨?_, ?_, ?_, ?_, ?_, ?_, ?_⟩ <;> first | rfl | omega)))
        | (with_reducible intro hc; (try simp only [capsP, and_true] at hc); (try (exfalso; omega)))
        | ((fail_if_success (with_reducible first | refine And.intro ?_ ?_ | refine Or.inl ?_ | intro _)); (conv => whnf); (fail_if_success (fail_if_success (with_reducible first | apply LoopK.mk | apply CallK.mk | apply FinK.mk | refine Both.mk ?_ ?_ | refine And.intro ?_ ?_ | refine Or.inl ?_ | intro _))))))
    rename_i c3 _ _ c4
    refine FinK.mk ⟨[0, 1, 7, 5], _, _, ⟨c3, c4, rfl, rfl⟩, ?_⟩
    (repeat' (first | (refine And.intro ?_ ?_) | exact trivial | rfl | exact Nat.le_refl _ | exact (fun _ _ => rfl) | (simp only [Int.toNat_natCast, Nat.zero_add, Nat.add_zero]; done)))
    all_goals first
      | (simp only [List.length_append, List.length_singleton]; done)
      | (rw [List.length_append, List.length_singleton]; omega)
      | (intro i hi; exact app_row (l.eraseIdx k) x _ rfl i hi)
      | (intro i hi; have : i = 0 := by simpa using hi
         subst this; rfl)
  · have ek : oldI q l x.w < 0 := by unfold oldI; rw [if_neg (by simp [*]), if_pos (by omega)]; omega
    have e : addE q l x = 15 := by unfold addE; rw [if_neg hE.1, if_neg hE.2.1, if_neg hE.2.2, if_pos (by omega)]
    obtain ⟨e1, e2⟩ := add_err (show addE q l x ≠ 0 by omega)
    unfold addQ
    rw [e, e1, e2]
    refine FinK.mk ⟨[0, 1, 1, 9], _, _, ⟨0, c, rfl, rfl⟩, ?_⟩
    (repeat' (first | (refine And.intro ?_ ?_) | exact trivial | rfl | exact Nat.le_refl _ | exact (fun _ _ => rfl) | (simp only [Int.toNat_natCast, Nat.zero_add, Nat.add_zero]; done)))
  · have ek : oldI q l x.w < 0 := by unfold oldI; rw [if_neg (by simp [*]), if_pos (by omega)]; omega
    rename Nat => c2
    have e : addE q l x = 0 := by unfold addE; rw [if_neg hE.1, if_neg hE.2.1, if_neg hE.2.2, if_neg (by omega)]
    have eL : addL q l x = l ++ [x] := by unfold addL; rw [if_pos ek]
    have eO : addO q l x = [] := by unfold addO; rw [if_pos ek]
    obtain ⟨e1, e2⟩ := add_ok e
    unfold addQ
    rw [e, e1, e2, eL, eO]
    refine FinK.mk ⟨[0, 1, 4, 9], _, _, ⟨0, c2, rfl, rfl⟩, ?_⟩
    (repeat' (first | (refine And.intro ?_ ?_) | exact trivial | rfl | exact Nat.le_refl _ | exact (fun _ _ => rfl) | (simp only [Int.toNat_natCast, Nat.zero_add, Nat.add_zero]; done)))
    all_goals first
      | (simp only [List.length_append, List.length_singleton]; done)
      | (rw [List.length_append, List.length_singleton]; omega)
      | (intro i hi; exact app_row l x _ rfl i hi)
  · have ek : oldI q l x.w < 0 := by unfold oldI; rw [if_pos (by simp [*])]; omega
    have e : addE q l x = 15 := by unfold addE; rw [if_neg hE.1, if_neg hE.2.1, if_neg hE.2.2, if_pos (by omega)]
    obtain ⟨e1, e2⟩ := add_err (show addE q l x ≠ 0 by omega)
    unfold addQ
    rw [e, e1, e2]
    refine FinK.mk ⟨[0, 1, 1, 9], _, _, ⟨0, c, rfl, rfl⟩, ?_⟩
    (repeat' (first | (refine And.intro ?_ ?_) | exact trivial | rfl | exact Nat.le_refl _ | exact (fun _ _ => rfl) | (simp only [Int.toNat_natCast, Nat.zero_add, Nat.add_zero]; done)))
  · have ek : oldI q l x.w < 0 := by unfold oldI; rw [if_pos (by simp [*])]; omega
    rename Nat => c2
    have e : addE q l x = 0 := by unfold addE; rw [if_neg hE.1, if_neg hE.2.1, if_neg hE.2.2, if_neg (by omega)]
    have eL : addL q l x = l ++ [x] := by unfold addL; rw [if_pos ek]
    have eO : addO q l x = [] := by unfold addO; rw [if_pos ek]
    obtain ⟨e1, e2⟩ := add_ok e
    unfold addQ
    rw [e, e1, e2, eL, eO]
    refine FinK.mk ⟨[0, 1, 4, 9], _, _, ⟨0, c2, rfl, rfl⟩, ?_⟩
    (repeat' (first | (refine And.intro ?_ ?_) | exact trivial | rfl | exact Nat.le_refl _ | exact (fun _ _ => rfl) | (simp only [Int.toNat_natCast, Nat.zero_add, Nat.add_zero]; done)))
    all_goals first
      | (simp only [List.length_append, List.length_singleton]; done)
      | (rw [List.length_append, List.length_singleton]; omega)
      | (intro i hi; exact app_row l x _ rfl i hi)
end Go.Proofs.Ytohghplabennjaa

namespace Go.Proofs.Ytohghplabennjaa
open Go.X
set_option linter.unusedSimpArgs false
set_option linter.unusedVariables false

theorem getD_mem {l : List Smp} {k : Nat} (h : k < l.length) : l.getD k default ∈ l := by
  rw [getD_lt h]; exact List.getElem_mem h

set_option maxRecDepth 10000 in
theorem cexpire1 (q : Qos) (l : List Smp) (c : Nat) (x : Smp) (t : Int) (h1 : 0 ≤ x.t ∧ x.t ≤ 1099511627776) (h2 : 0 < q.life ∧ q.life ≤ 1099511627776) :
    Ctr Try.prog 27 [.a (encS x), .c (.p 0 0 0), .c (.p 1 0 0)] [.one (.cells true [.i .i64 t]), .one (.cells true [.p 2 0 0]), .one (hist 3 q l.length c), .one (smps true l c)]
      fun v h => v = .c (.b (expd q x t)) ∧ h = [.one (.cells true [.i .i64 t]), .one (.cells true [.p 2 0 0]), .one (hist 3 q l.length c), .one (smps true l c)] := by
  refine Ctr.mk' tbv mixed Try.func27 rfl rfl rfl (fun _ _ => by kernel_rfl) (by kernel_rfl) (by rfl) (by rfl) (by exact trivial) ?_
  repeat' (first
    | ((fail_if_success (with_reducible first | apply LoopK.mk | apply CallK.mk | apply FinK.mk)); first
      | ((with_reducible refine And.intro (fun (hb : _ = true) => ?_) (fun (hb : _ = false) => ?_)) <;> (try simp only [decide_eq_true_eq, decide_eq_false_iff_not, Bool.not_eq_true', Bool.not_eq_false', Bool.and_eq_true, Bool.and_eq_false_iff, Bool.or_eq_true, Bool.or_eq_false_iff, Bool.and_true, Int.not_lt, Int.not_le, not_true_eq_false, or_self, true_and, Bool.true_eq_false, Bool.false_eq_true, reduceCtorEq, not_false_eq_true, decide_true, decide_false, Int.toNat_natCast, Nat.zero_add] at hb) <;> (try (first | (exfalso; omega) | exact (Bool.false_ne_true (Eq.trans (Eq.symm hb) (by assumption))).elim | exact (Bool.false_ne_true (Eq.trans (Eq.symm (by assumption)) hb)).elim)))
      | (with_reducible refine Both.mk ?_ ?_)
      | ((with_reducible refine And.intro ?_ ?_); (focus (first | rfl | omega | (split <;> omega) | (refine ⟨?_, ?_, ?_⟩ <;> first | rfl | omega | (split <;> omega)) | assumption | (refine ⟨?_, ?_⟩ <;> omega) | (refine ⟨?_, ?_, ?_⟩ <;> omega) | (refine ⟨?_, ?_, ?_, ?_⟩ <;> omega) | (dsimp only [maxLen]; refine ⟨?_, ?_⟩ <;> omega) | (refine ⟨rfl, ?_⟩ <;> omega) | exact ⟨rfl, rfl⟩ | exact ⟨rfl, rfl, by omega⟩)))
      | ((with_reducible refine Or.inl (And.intro ?_ (And.intro ?_ ?_))); (focus (rfl)); (focus (refine ⟨?_, ?_, ?_, ?_⟩ <;> first | rfl | omega)))
      | ((with_reducible refine Or.inr (Or.inl (And.intro ?_ ?_))); (focus (refine ⟨?_, ?_, ?_⟩ <;> first | rfl | omega)))
      | ((with_reducible refine Or.inr (Or.inr (Or.inl (And.intro ?_ ?_)))); (focus (refine ⟨?_, ?_, ?_, ?_, ?_⟩ <;> first | rfl | omega)))
      | ((with_reducible refine Or.inr (Or.inr (Or.inr (And.intro ?_ ?_)))); (focus (refine ⟨?_, ?_, ?_, ?_, ?_, ?_, ?_⟩ <;> first | rfl | omega)))
      | (with_reducible intro hc; (try simp only [capsP, and_true] at hc); (try (exfalso; omega)))
      | ((fail_if_success (with_reducible first | refine And.intro ?_ ?_ | refine Or.inl ?_ | intro _)); (conv => whnf); (fail_if_success (fail_if_success (with_reducible first | apply LoopK.mk | apply CallK.mk | apply FinK.mk | refine Both.mk ?_ ?_ | refine And.intro ?_ ?_ | refine Or.inl ?_ | intro _))))))
  refine FinK.mk ⟨[0, 1, 2, 3], _, _, ⟨rfl, rfl⟩, ?_⟩; (repeat' (first | (refine And.intro ?_ ?_) | exact trivial | rfl | exact Nat.le_refl _ | exact (fun _ _ => rfl) | (simp only [Int.toNat_natCast, Nat.zero_add, Nat.add_zero]; done)))
  exact decide_eq_decide.2 ⟨fun h => ⟨h2.1, h⟩, fun h => h.2⟩

set_option maxRecDepth 10000 in
set_option maxHeartbeats 1000000 in
theorem isplitE (q : Qos) (l : List Smp) (c : Nat) (t : Int) (hl : l.length ≤ 1000000) (h1 : ∀ x ∈ l, 0 ≤ x.t ∧ x.t ≤ 1099511627776) (h2 : 0 < q.life ∧ q.life ≤ 1099511627776) :
    Ctr Try.prog 26 [.c (.sl 0 0 4 0 l.length c), .c (.fn 27 [(1, 0, 0), (2, 0, 0)])] [.one (smps true l c), .one (.cells true [.i .i64 t]), .one (.cells true [.p 3 0 0]), .one (hist 0 q l.length c)]
      fun v h => ∃ cs cg, v = .t [.c (.sl 4 0 4 0 (stay q l t).length cs), .c (.sl 5 0 4 0 (gone q l t).length cg)] ∧
        h = [.one (smps true l c), .one (.cells true [.i .i64 t]), .one (.cells true [.p 3 0 0]), .one (hist 0 q l.length c), .one (smps true (stay q l t) cs), .one (smps true (gone q l t) cg)] := by
  refine Ctr.mk' tbv mixed Try.func26 rfl rfl rfl (fun _ _ => by kernel_rfl) (by kernel_rfl) (by rfl) (by rfl) (by exact trivial) ?_
  repeat' (first
    | ((fail_if_success (with_reducible first | apply LoopK.mk | apply CallK.mk | apply FinK.mk)); first
      | ((with_reducible refine And.intro (fun (hb : _ = true) => ?_) (fun (hb : _ = false) => ?_)) <;> (try simp only [decide_eq_true_eq, decide_eq_false_iff_not, Bool.not_eq_true', Bool.not_eq_false', Bool.and_eq_true, Bool.and_eq_false_iff, Bool.or_eq_true, Bool.or_eq_false_iff, Bool.and_true, Int.not_lt, Int.not_le, not_true_eq_false, or_self, true_and, Bool.true_eq_false, Bool.false_eq_true, reduceCtorEq, not_false_eq_true, decide_true, decide_false, Int.toNat_natCast, Nat.zero_add] at hb) <;> (try (first | (exfalso; omega) | exact (Bool.false_ne_true (Eq.trans (Eq.symm hb) (by assumption))).elim | exact (Bool.false_ne_true (Eq.trans (Eq.symm (by assumption)) hb)).elim)))
      | (with_reducible refine Both.mk ?_ ?_)
      | ((with_reducible refine And.intro ?_ ?_); (focus (first | rfl | omega | (split <;> omega) | (refine ⟨?_, ?_, ?_⟩ <;> first | rfl | omega | (split <;> omega)) | assumption | (refine ⟨?_, ?_⟩ <;> omega) | (refine ⟨?_, ?_, ?_⟩ <;> omega) | (refine ⟨?_, ?_, ?_, ?_⟩ <;> omega) | (dsimp only [maxLen]; refine ⟨?_, ?_⟩ <;> omega) | (refine ⟨rfl, ?_⟩ <;> omega) | exact ⟨rfl, rfl⟩ | exact ⟨rfl, rfl, by omega⟩)))
      | ((with_reducible refine Or.inl (And.intro ?_ (And.intro ?_ ?_))); (focus (rfl)); (focus (refine ⟨?_, ?_, ?_, ?_⟩ <;> first | rfl | omega)))
      | ((with_reducible refine Or.inr (Or.inl (And.intro ?_ ?_))); (focus (refine ⟨?_, ?_, ?_⟩ <;> first | rfl | omega)))
      | ((with_reducible refine Or.inr (Or.inr (Or.inl (And.intro ?_ ?_)))); (focus (refine ⟨?_, ?_, ?_, ?_, ?_⟩ <;> first | rfl | omega)))
      | ((with_reducible refine Or.inr (Or.inr (Or.inr (And.intro ?_ ?_)))); (focus (refine ⟨?_, ?_, ?_, ?_, ?_, ?_, ?_⟩ <;> first | rfl | omega)))
      | (with_reducible intro hc; (try simp only [capsP, and_true] at hc); (try (exfalso; omega)))
      | ((fail_if_success (with_reducible first | refine And.intro ?_ ?_ | refine Or.inl ?_ | intro _)); (conv => whnf); (fail_if_success (fail_if_success (with_reducible first | apply LoopK.mk | apply CallK.mk | apply FinK.mk | refine Both.mk ?_ ?_ | refine And.intro ?_ ?_ | refine Or.inl ?_ | intro _))))))
  refine LoopK.mk' {k : Nat × Nat × Nat // k.1 ≤ l.length}
    (fun ⟨(k, cs, cg), _⟩ => ⟨[(1, .c (.fn 27 [(1, 0, 0), (2, 0, 0)])), (4, .c (.sl 4 0 4 0 (stay q (l.take k) t).length cs)), (5, .c (.sl 5 0 4 0 (gone q (l.take k) t).length cg)), (8, .c (.sl 0 0 4 0 l.length c)), (9, .c (.i .i64 l.length)), (10, .c (.i .i64 k))],
      [.one (smps true l c), .one (.cells true [.i .i64 t]), .one (.cells true [.p 3 0 0]), .one (hist 0 q l.length c), .one (smps true (stay q (l.take k) t) cs), .one (smps true (gone q (l.take k) t) cg)]⟩) (fun k => l.length - k.1.1)
    ⟨⟨(0, 0, 0), Nat.zero_le _⟩, [0, 1, 2, 3, 9, 10], ?_⟩ ?_
  · (repeat' (first | (refine And.intro ?_ ?_) | exact trivial | rfl | exact Nat.le_refl _ | exact (fun _ _ => rfl) | (simp only [Int.toNat_natCast, Nat.zero_add, Nat.add_zero]; done)))
  rintro ⟨⟨k, cs, cg⟩, hk⟩
  have hg : (gone q (l.take k) t).length ≤ l.length := Nat.le_trans (List.length_filter_le _ _) (by rw [List.length_take]; omega)
  have hs : (stay q (l.take k) t).length ≤ l.length := Nat.le_trans (List.length_filter_le _ _) (by rw [List.length_take]; omega)
  repeat' (first
    | ((fail_if_success (with_reducible first | apply LoopK.mk | apply CallK.mk | apply FinK.mk)); first
      | ((with_reducible refine And.intro (fun (hb : _ = true) => ?_) (fun (hb : _ = false) => ?_)) <;> (try simp only [decide_eq_true_eq, decide_eq_false_iff_not, Bool.not_eq_true', Bool.not_eq_false', Bool.and_eq_true, Bool.and_eq_false_iff, Bool.or_eq_true, Bool.or_eq_false_iff, Bool.and_true, Int.not_lt, Int.not_le, not_true_eq_false, or_self, true_and, Bool.true_eq_false, Bool.false_eq_true, reduceCtorEq, not_false_eq_true, decide_true, decide_false, Int.toNat_natCast, Nat.zero_add] at hb) <;> (try (first | (exfalso; omega) | exact (Bool.false_ne_true (Eq.trans (Eq.symm hb) (by assumption))).elim | exact (Bool.false_ne_true (Eq.trans (Eq.symm (by assumption)) hb)).elim)))
      | (with_reducible refine Both.mk ?_ ?_)
      | ((with_reducible refine And.intro ?_ ?_); (focus (first | rfl | omega | (split <;> omega) | (refine ⟨?_, ?_, ?_⟩ <;> first | rfl | omega | (split <;> omega)) | assumption | (refine ⟨?_, ?_⟩ <;> omega) | (refine ⟨?_, ?_, ?_⟩ <;> omega) | (refine ⟨?_, ?_, ?_, ?_⟩ <;> omega) | (dsimp only [maxLen]; refine ⟨?_, ?_⟩ <;> omega) | (refine ⟨rfl, ?_⟩ <;> omega) | exact ⟨rfl, rfl⟩ | exact ⟨rfl, rfl, by omega⟩)))
      | ((with_reducible refine Or.inl (And.intro ?_ (And.intro ?_ ?_))); (focus (rfl)); (focus (refine ⟨?_, ?_, ?_, ?_⟩ <;> first | rfl | omega)))
      | ((with_reducible refine Or.inr (Or.inl (And.intro ?_ ?_))); (focus (refine ⟨?_, ?_, ?_⟩ <;> first | rfl | omega)))
      | ((with_reducible refine Or.inr (Or.inr (Or.inl (And.intro ?_ ?_)))); (focus (refine ⟨?_, ?_, ?_, ?_, ?_⟩ <;> first | rfl | omega)))
      | ((with_reducible refine Or.inr (Or.inr (Or.inr (And.intro ?_ ?_)))); (focus (refine ⟨?_, ?_, ?_, ?_, ?_, ?_, ?_⟩ <;> first | rfl | omega)))
      | (with_reducible intro hc; (try simp only [capsP, and_true] at hc); (try (exfalso; omega)))
      | ((fail_if_success (with_reducible first | refine And.intro ?_ ?_ | refine Or.inl ?_ | intro _)); (conv => whnf); (fail_if_success (fail_if_success (with_reducible first | apply LoopK.mk | apply CallK.mk | apply FinK.mk | refine Both.mk ?_ ?_ | refine And.intro ?_ ?_ | refine Or.inl ?_ | intro _))))))
  · refine CallK.mk2 (σ := [.whole 1, .whole 2, .whole 3, .whole 0]) (nl := []) (cexpire1 q l c (l.getD k default) t (h1 _ (getD_mem (by omega))) h2) rfl rfl (by (try simp only [givesF, setF, updF, Fam.zeroth, Fam.rk, Ck.rk, C.rk, E.rk, T.rk, key, List.map_cons, List.map_nil, List.cons_append, List.nil_append, List.length_cons, List.length_nil, Option.map_some, Option.bind_some, Nat.reduceAdd, Nat.zero_add, Nat.add_zero, Nat.add_sub_cancel_left, Int.toNat_natCast, reps, List.all_cons, List.all_nil, C.flat, List.append_eq, Bool.not_true, Bool.and_true, Bool.or_false, Bool.or_self, Bool.not_false, List.append_nil, Bool.and_self]); rfl) (by (repeat' (first | (refine And.intro ?_ ?_) | exact trivial | rfl | exact Nat.le_refl _ | exact (fun _ _ => rfl) | (simp only [Int.toNat_natCast, Nat.zero_add, Nat.add_zero]; done)))) ?_
    rintro v h' ⟨rfl, rfl⟩ hcaps
    refine ret_mk (by (try simp only [givesF, setF, updF, Fam.zeroth, Fam.rk, Ck.rk, C.rk, E.rk, T.rk, key, List.map_cons, List.map_nil, List.cons_append, List.nil_append, List.length_cons, List.length_nil, Option.map_some, Option.bind_some, Nat.reduceAdd, Nat.zero_add, Nat.add_zero, Nat.add_sub_cancel_left, Int.toNat_natCast, reps, List.all_cons, List.all_nil, C.flat, List.append_eq, Bool.not_true, Bool.and_true, Bool.or_false, Bool.or_self, Bool.not_false, List.append_nil, Bool.and_self]); rfl) (by (try simp only [givesF, setF, updF, Fam.zeroth, Fam.rk, Ck.rk, C.rk, E.rk, T.rk, key, List.map_cons, List.map_nil, List.cons_append, List.nil_append, List.length_cons, List.length_nil, Option.map_some, Option.bind_some, Nat.reduceAdd, Nat.zero_add, Nat.add_zero, Nat.add_sub_cancel_left, Int.toNat_natCast, reps, List.all_cons, List.all_nil, C.flat, List.append_eq, Bool.not_true, Bool.and_true, Bool.or_false, Bool.or_self, Bool.not_false, List.append_nil, Bool.and_self]); rfl) ?_
    repeat' (first
      | ((fail_if_success (with_reducible first | apply LoopK.mk | apply CallK.mk | apply FinK.mk)); first
        | ((with_reducible refine And.intro (fun (hb : _ = true) => ?_) (fun (hb : _ = false) => ?_)) <;> (try simp only [decide_eq_true_eq, decide_eq_false_iff_not, Bool.not_eq_true', Bool.not_eq_false', Bool.and_eq_true, Bool.and_eq_false_iff, Bool.or_eq_true, Bool.or_eq_false_iff, Bool.and_true, Int.not_lt, Int.not_le, not_true_eq_false, or_self, true_and, Bool.true_eq_false, Bool.false_eq_true, reduceCtorEq, not_false_eq_true, decide_true, decide_false, Int.toNat_natCast, Nat.zero_add] at hb) <;> (try (first | (exfalso; omega) | exact (Bool.false_ne_true (Eq.trans (Eq.symm hb) (by assumption))).elim | exact (Bool.false_ne_true (Eq.trans (Eq.symm (by assumption)) hb)).elim)))
        | (with_reducible refine Both.mk ?_ ?_)
        | ((with_reducible refine And.intro ?_ ?_); (focus (first | rfl | omega | (split <;> omega) | (refine ⟨?_, ?_, ?_⟩ <;> first | rfl | omega | (split <;> omega)) | assumption | (refine ⟨?_, ?_⟩ <;> omega) | (refine ⟨?_, ?_, ?_⟩ <;> omega) | (refine ⟨?_, ?_, ?_, ?_⟩ <;> omega) | (dsimp only [maxLen]; refine ⟨?_, ?_⟩ <;> omega) | (refine ⟨rfl, ?_⟩ <;> omega) | exact ⟨rfl, rfl⟩ | exact ⟨rfl, rfl, by omega⟩)))
        | ((with_reducible refine Or.inl (And.intro ?_ (And.intro ?_ ?_))); (focus (rfl)); (focus (refine ⟨?_, ?_, ?_, ?_⟩ <;> first | rfl | omega)))
        | ((with_reducible refine Or.inr (Or.inl (And.intro ?_ ?_))); (focus (refine ⟨?_, ?_, ?_⟩ <;> first | rfl | omega)))
        | ((with_reducible refine Or.inr (Or.inr (Or.inl (And.intro ?_ ?_)))); (focus (refine ⟨?_, ?_, ?_, ?_, ?_⟩ <;> first | rfl | omega)))
        | ((with_reducible refine Or.inr (Or.inr (Or.inr (And.intro ?_ ?_)))); (focus (refine ⟨?_, ?_, ?_, ?_, ?_, ?_, ?_⟩ <;> first | rfl | omega)))
        | (with_reducible intro hc; (try simp only [capsP, and_true] at hc); (try (exfalso; omega)))
        | ((fail_if_success (with_reducible first | refine And.intro ?_ ?_ | refine Or.inl ?_ | intro _)); (conv => whnf); (fail_if_success (fail_if_success (with_reducible first | apply LoopK.mk | apply CallK.mk | apply FinK.mk | refine Both.mk ?_ ?_ | refine And.intro ?_ ?_ | refine Or.inl ?_ | intro _))))))
    · rename Nat => c2
      obtain ⟨eg, es⟩ := gone_yes (q := q) (t := t) (show k < l.length by omega) ‹_›
      refine ⟨⟨(k + 1, cs, c2), by simp only; omega⟩, [0, 1, 2, 3, 4, 8], by simp only; omega, ?_⟩
      simp only [eg, es]
      (repeat' (first | (refine And.intro ?_ ?_) | exact trivial | rfl | exact Nat.le_refl _ | exact (fun _ _ => rfl) | (simp only [Int.toNat_natCast, Nat.zero_add, Nat.add_zero]; done)))
      all_goals first
        | (simp only [List.length_append, List.length_singleton]; done)
        | (rw [List.length_append, List.length_singleton]; omega)
        | (intro i hi
           refine app_row _ (l.getD k default) _ ?_ i hi
           rfl)
    · rename Nat => c2
      obtain ⟨es, eg⟩ := gone_no (q := q) (t := t) (show k < l.length by omega) ‹_›
      refine ⟨⟨(k + 1, c2, cg), by simp only; omega⟩, [0, 1, 2, 3, 8, 5], by simp only; omega, ?_⟩
      simp only [eg, es]
      (repeat' (first | (refine And.intro ?_ ?_) | exact trivial | rfl | exact Nat.le_refl _ | exact (fun _ _ => rfl) | (simp only [Int.toNat_natCast, Nat.zero_add, Nat.add_zero]; done)))
      all_goals first
        | (simp only [List.length_append, List.length_singleton]; done)
        | (rw [List.length_append, List.length_singleton]; omega)
        | (intro i hi
           refine app_row _ (l.getD k default) _ ?_ i hi
           rfl)
  · have hkl : k = l.length := by have := hk; simp only at this; omega
    subst hkl
    rw [List.take_length] at *
    refine FinK.mk ⟨[0, 1, 2, 3, 4, 5], _, _, ⟨cs, cg, rfl, rfl⟩, ?_⟩
    (repeat' (first | (refine And.intro ?_ ?_) | exact trivial | rfl | exact Nat.le_refl _ | exact (fun _ _ => rfl) | (simp only [Int.toNat_natCast, Nat.zero_add, Nat.add_zero]; done)))


def expQ (q : Qos) (l : List Smp) (t : Int) (v : T) (h : List Fam) : Prop :=
  ∃ cg cs, v = .c (.sl 3 0 4 0 (gone q l t).length cg) ∧ h = [.one (hist 2 q (stay q l t).length cs), .one .no, .one (smps true (stay q l t) cs), .one (smps true (gone q l t) cg)]
theorem exp_zero {q : Qos} (h : q.life = 0) (l : List Smp) (t : Int) : gone q l t = [] ∧ stay q l t = l := by
  have e : ∀ x, expd q x t = false := fun x => decide_eq_false (by omega)
  constructor
  · exact List.filter_eq_nil_iff.2 (fun x _ => by rw [e]; simp)
  · exact List.filter_eq_self.2 (fun x _ => by rw [e]; rfl)

set_option maxRecDepth 10000 in
theorem iexpire (q : Qos) (l : List Smp) (c : Nat) (t : Int) (hl : l.length ≤ 1000000) (h1 : ∀ x ∈ l, 0 ≤ x.t ∧ x.t ≤ 1099511627776) (h2 : 0 ≤ q.life ∧ q.life ≤ 1099511627776) :
    Ctr Try.prog 14 [.c (.p 0 0 0), .c (.i .i64 t)] [.one (hist 1 q l.length c), .one (smps true l c)] (expQ q l t) := by
  refine Ctr.mk' tbv mixed Try.func14 rfl rfl rfl (fun _ _ => by kernel_rfl) (by kernel_rfl) (by rfl) (by rfl) (by exact trivial) ?_
  repeat' (first
    | ((fail_if_success (with_reducible first | apply LoopK.mk | apply CallK.mk | apply FinK.mk)); first
      | ((with_reducible refine And.intro (fun (hb : _ = true) => ?_) (fun (hb : _ = false) => ?_)) <;> (try simp only [decide_eq_true_eq, decide_eq_false_iff_not, Bool.not_eq_true', Bool.not_eq_false', Bool.and_eq_true, Bool.and_eq_false_iff, Bool.or_eq_true, Bool.or_eq_false_iff, Bool.and_true, Int.not_lt, Int.not_le, not_true_eq_false, or_self, true_and, Bool.true_eq_false, Bool.false_eq_true, reduceCtorEq, not_false_eq_true, decide_true, decide_false, Int.toNat_natCast, Nat.zero_add] at hb) <;> (try (first | (exfalso; omega) | exact (Bool.false_ne_true (Eq.trans (Eq.symm hb) (by assumption))).elim | exact (Bool.false_ne_true (Eq.trans (Eq.symm (by assumption)) hb)).elim)))
      | (with_reducible refine Both.mk ?_ ?_)
      | ((with_reducible refine And.intro ?_ ?_); (focus (first | rfl | omega | (split <;> omega) | (refine ⟨?_, ?_, ?_⟩ <;> first | rfl | omega | (split <;> omega)) | assumption | (refine ⟨?_, ?_⟩ <;> omega) | (refine ⟨?_, ?_, ?_⟩ <;> omega) | (refine ⟨?_, ?_, ?_, ?_⟩ <;> omega) | (dsimp only [maxLen]; refine ⟨?_, ?_⟩ <;> omega) | (refine ⟨rfl, ?_⟩ <;> omega) | exact ⟨rfl, rfl⟩ | exact ⟨rfl, rfl, by omega⟩)))
      | ((with_reducible refine Or.inl (And.intro ?_ (And.intro ?_ ?_))); (focus (rfl)); (focus (refine ⟨?_, ?_, ?_, ?_⟩ <;> first | rfl | omega)))
      | ((with_reducible refine Or.inr (Or.inl (And.intro ?_ ?_))); (focus (refine ⟨?_, ?_, ?_⟩ <;> first | rfl | omega)))
      | ((with_reducible refine Or.inr (Or.inr (Or.inl (And.intro ?_ ?_)))); (focus (refine ⟨?_, ?_, ?_, ?_, ?_⟩ <;> first | rfl | omega)))
      | ((with_reducible refine Or.inr (Or.inr (Or.inr (And.intro ?_ ?_)))); (focus (refine ⟨?_, ?_, ?_, ?_, ?_, ?_, ?_⟩ <;> first | rfl | omega)))
      | (with_reducible intro hc; (try simp only [capsP, and_true] at hc); (try (exfalso; omega)))
      | ((fail_if_success (with_reducible first | refine And.intro ?_ ?_ | refine Or.inl ?_ | intro _)); (conv => whnf); (fail_if_success (fail_if_success (with_reducible first | apply LoopK.mk | apply CallK.mk | apply FinK.mk | refine Both.mk ?_ ?_ | refine And.intro ?_ ?_ | refine Or.inl ?_ | intro _))))))
  · obtain ⟨e1, e2⟩ := exp_zero ‹q.life = 0› l t
    unfold expQ
    rw [e1, e2]
    refine FinK.mk ⟨[0, 1, 1, 9], _, _, ⟨0, c, rfl, rfl⟩, ?_⟩
    (repeat' (first | (refine And.intro ?_ ?_) | exact trivial | rfl | exact Nat.le_refl _ | exact (fun _ _ => rfl) | (simp only [Int.toNat_natCast, Nat.zero_add, Nat.add_zero]; done)))
  refine CallK.mk2 (σ := [.whole 1, .whole 3, .whole 2, .whole 0]) (nl := []) (isplitE q l c t hl h1 (by omega)) rfl rfl (by (try simp only [givesF, setF, updF, Fam.zeroth, Fam.rk, Ck.rk, C.rk, E.rk, T.rk, key, List.map_cons, List.map_nil, List.cons_append, List.nil_append, List.length_cons, List.length_nil, Option.map_some, Option.bind_some, Nat.reduceAdd, Nat.zero_add, Nat.add_zero, Nat.add_sub_cancel_left, Int.toNat_natCast, reps, List.all_cons, List.all_nil, C.flat, List.append_eq, Bool.not_true, Bool.and_true, Bool.or_false, Bool.or_self, Bool.not_false, List.append_nil, Bool.and_self]); rfl) (by (repeat' (first | (refine And.intro ?_ ?_) | exact trivial | rfl | exact Nat.le_refl _ | exact (fun _ _ => rfl) | (simp only [Int.toNat_natCast, Nat.zero_add, Nat.add_zero]; done)))) ?_
  rintro v h' ⟨cs, cg, rfl, rfl⟩ hcaps
  refine ret_mk (by (try simp only [givesF, setF, updF, Fam.zeroth, Fam.rk, Ck.rk, C.rk, E.rk, T.rk, key, List.map_cons, List.map_nil, List.cons_append, List.nil_append, List.length_cons, List.length_nil, Option.map_some, Option.bind_some, Nat.reduceAdd, Nat.zero_add, Nat.add_zero, Nat.add_sub_cancel_left, Int.toNat_natCast, reps, List.all_cons, List.all_nil, C.flat, List.append_eq, Bool.not_true, Bool.and_true, Bool.or_false, Bool.or_self, Bool.not_false, List.append_nil, Bool.and_self]); rfl) (by (try simp only [givesF, setF, updF, Fam.zeroth, Fam.rk, Ck.rk, C.rk, E.rk, T.rk, key, List.map_cons, List.map_nil, List.cons_append, List.nil_append, List.length_cons, List.length_nil, Option.map_some, Option.bind_some, Nat.reduceAdd, Nat.zero_add, Nat.add_zero, Nat.add_sub_cancel_left, Int.toNat_natCast, reps, List.all_cons, List.all_nil, C.flat, List.append_eq, Bool.not_true, Bool.and_true, Bool.or_false, Bool.or_self, Bool.not_false, List.append_nil, Bool.and_self]); rfl) ?_
  repeat' (first
    | ((fail_if_success (with_reducible first | apply LoopK.mk | apply CallK.mk | apply FinK.mk)); first
      | ((with_reducible refine And.intro (fun (hb : _ = true) => ?_) (fun (hb : _ = false) => ?_)) <;> (try simp only [decide_eq_true_eq, decide_eq_false_iff_not, Bool.not_eq_true', Bool.not_eq_false', Bool.and_eq_true, Bool.and_eq_false_iff, Bool.or_eq_true, Bool.or_eq_false_iff, Bool.and_true, Int.not_lt, Int.not_le, not_true_eq_false, or_self, true_and, Bool.true_eq_false, Bool.false_eq_true, reduceCtorEq, not_false_eq_true, decide_true, decide_false, Int.toNat_natCast, Nat.zero_add] at hb) <;> (try (first | (exfalso; omega) | exact (Bool.false_ne_true (Eq.trans (Eq.symm hb) (by assumption))).elim | exact (Bool.false_ne_true (Eq.trans (Eq.symm (by assumption)) hb)).elim)))
      | (with_reducible refine Both.mk ?_ ?_)
      | ((with_reducible refine And.intro ?_ ?_); (focus (first | rfl | omega | (split <;> omega) | (refine ⟨?_, ?_, ?_⟩ <;> first | rfl | omega | (split <;> omega)) | assumption | (refine ⟨?_, ?_⟩ <;> omega) | (refine ⟨?_, ?_, ?_⟩ <;> omega) | (refine ⟨?_, ?_, ?_, ?_⟩ <;> omega) | (dsimp only [maxLen]; refine ⟨?_, ?_⟩ <;> omega) | (refine ⟨rfl, ?_⟩ <;> omega) | exact ⟨rfl, rfl⟩ | exact ⟨rfl, rfl, by omega⟩)))
      | ((with_reducible refine Or.inl (And.intro ?_ (And.intro ?_ ?_))); (focus (rfl)); (focus (refine ⟨?_, ?_, ?_, ?_⟩ <;> first | rfl | omega)))
      | ((with_reducible refine Or.inr (Or.inl (And.intro ?_ ?_))); (focus (refine ⟨?_, ?_, ?_⟩ <;> first | rfl | omega)))
      | ((with_reducible refine Or.inr (Or.inr (Or.inl (And.intro ?_ ?_)))); (focus (refine ⟨?_, ?_, ?_, ?_, ?_⟩ <;> first | rfl | omega)))
      | ((with_reducible refine Or.inr (Or.inr (Or.inr (And.intro ?_ ?_)))); (focus (refine ⟨?_, ?_, ?_, ?_, ?_, ?_, ?_⟩ <;> first | rfl | omega)))
      | (with_reducible intro hc; (try simp only [capsP, and_true] at hc); (try (exfalso; omega)))
      | ((fail_if_success (with_reducible first | refine And.intro ?_ ?_ | refine Or.inl ?_ | intro _)); (conv => whnf); (fail_if_success (fail_if_success (with_reducible first | apply LoopK.mk | apply CallK.mk | apply FinK.mk | refine Both.mk ?_ ?_ | refine And.intro ?_ ?_ | refine Or.inl ?_ | intro _))))))
  unfold expQ
  refine FinK.mk ⟨[0, 1, 4, 5], _, _, ⟨cg, cs, rfl, rfl⟩, ?_⟩
  (repeat' (first | (refine And.intro ?_ ?_) | exact trivial | rfl | exact Nat.le_refl _ | exact (fun _ _ => rfl) | (simp only [Int.toNat_natCast, Nat.zero_add, Nat.add_zero]; done)))
end Go.Proofs.Ytohghplabennjaa

namespace Go.Proofs.Ytohghplabennjaa
open Go.X
set_option linter.unusedSimpArgs false
set_option linter.unusedVariables false

/-- What holds of a history's samples. -/
structure Inv (l : List Smp) : Prop where
  len : l.length ≤ 256
  tm : ∀ x ∈ l, 0 ≤ x.t ∧ x.t ≤ 1099511627776
  ks : l.Pairwise fun a b => ¬ (a.w = b.w ∧ a.q = b.q)

theorem Inv.nil : Inv [] := ⟨by simp, by simp, by simp⟩
theorem Inv.sub {l m : List Smp} (h : Inv l) (hs : m.Sublist l) : Inv m := ⟨Nat.le_trans hs.length_le h.len, fun x hx => h.tm x (hs.subset hx), h.ks.sublist hs⟩

theorem isS_eq (w q : Int) : (fun x : Smp => x.w == w && x.q == q) = isS w q := by
  funext x
  unfold isS
  by_cases h1 : x.w = w <;> by_cases h2 : x.q = q <;> simp [h1, h2]

theorem era_eq (l : List Smp) (w q : Int) : eraS l w q = l.eraseP (isS w q) := by
  unfold eraS
  rw [isS_eq, List.eraseP_eq_eraseIdx]
  cases l.findIdx? (isS w q) <;> rfl

theorem filter_era {l : List Smp} (w q : Int) (h : l.Pairwise fun a b => ¬ (a.w = b.w ∧ a.q = b.q)) : (l.filter fun x => !isS w q x) = eraS l w q := by
  rw [era_eq]
  induction l with
  | nil => rfl
  | cons a l ih =>
    rw [List.pairwise_cons] at h
    rw [List.filter_cons, List.eraseP_cons]
    cases ha : isS w q a with
    | false => simp [ih h.2]
    | true =>
      simp only [Bool.not_true, Bool.false_eq_true, if_false, cond_true]
      refine List.filter_eq_self.2 fun x hx => ?_
      have := h.1 x hx
      unfold isS at ha ⊢
      have ha := of_decide_eq_true ha
      rw [decide_eq_false (fun hh => this ⟨ha.1.trans hh.1.symm, ha.2.trans hh.2.symm⟩)]
      rfl

theorem filter_pos (l : List Smp) (w q : Int) : decide ((0 : Int) < ((l.filter (isS w q)).length : Nat)) = (getS l w q).2 := by
  unfold getS
  rw [isS_eq]
  cases h : l.findIdx? (isS w q) with
  | none =>
    rw [List.findIdx?_eq_none_iff] at h
    rw [List.filter_eq_nil_iff.2 (fun x hx => by rw [h x hx]; simp)]
    rfl
  | some i =>
    obtain ⟨hk, hp, _⟩ := List.findIdx?_eq_some_iff_getElem.1 h
    have : l[i] ∈ l.filter (isS w q) := List.mem_filter.2 ⟨List.getElem_mem hk, hp⟩
    have := List.length_pos_of_mem this
    exact decide_eq_true (by omega)

theorem findI_no {l : List Smp} {w q : Int} (h : findI l w q < 0) : ∀ x ∈ l, ¬ (x.w = w ∧ x.q = q) := by
  unfold findI at h
  cases hf : l.findIdx? (fun x => x.w == w && x.q == q) with
  | none =>
    rw [List.findIdx?_eq_none_iff] at hf
    intro x hx
    simpa using hf x hx
  | some i => rw [hf] at h; simp only at h; omega

theorem add_zero {q : Qos} {l : List Smp} {x : Smp} (h : addE q l x = 0) : ¬ (x.w < 1 ∨ x.q < 1 ∨ x.t < 0 ∨ 1099511627776 < x.t) ∧ ¬ 2000 < x.p.size ∧ findI l x.w x.q < 0 ∧ ¬ (oldI q l x.w < 0 ∧ 256 ≤ l.length) := by
  unfold addE at h
  split at h
  · omega
  · split at h
    · omega
    · split at h
      · omega
      · split at h
        · omega
        · exact ⟨‹_›, ‹_›, by omega, ‹_›⟩

theorem Inv.add {q : Qos} {l : List Smp} (h : Inv l) (x : Smp) : Inv (newS q l x) := by
  unfold newS
  split
  · rename_i h0
    obtain ⟨hx, _, hf, hfull⟩ := add_zero h0
    have hno := findI_no hf
    have key : ∀ m : List Smp, m.Sublist l → m.length < 256 → Inv (m ++ [x]) := by
      intro m hm hl
      have hi := h.sub hm
      refine ⟨by simp; omega, fun y hy => ?_, ?_⟩
      · rcases List.mem_append.1 hy with hy | hy
        · exact hi.tm y hy
        · rw [List.mem_singleton.1 hy]; omega
      · rw [List.pairwise_append]
        refine ⟨hi.ks, by simp, fun a ha b hb => ?_⟩
        rw [List.mem_singleton.1 hb]
        exact hno a (hm.subset ha)
    unfold addL
    have hl := h.len
    have hlt := old_lt q l x.w
    split
    · exact key l (List.Sublist.refl _) (by omega)
    · refine key _ (List.eraseIdx_sublist _ _) ?_
      rw [List.length_eraseIdx_of_lt (by omega)]
      omega
  · exact h

structure OpV where
  (k : Int) (s : Smp) (n : Int)
deriving Inhabited
def encO (o : OpV) : List C := [.i .u8 o.k, .i .i64 o.s.w, .i .i64 o.s.q, .i .i64 o.s.t, .s o.s.p, .i .i64 o.n]
def opL (q : Qos) (l : List Smp) (o : OpV) : List Smp :=
  if o.k.tmod 8 = 1 then stay q l o.s.t else if o.k.tmod 8 = 2 then eraS l o.s.w o.s.q else if o.k.tmod 8 = 3 then l else if o.k.tmod 8 = 4 then l else newS q l o.s
theorem Inv.op {q : Qos} {l : List Smp} (h : Inv l) (o : OpV) : Inv (opL q l o) := by
  unfold opL
  split
  · exact h.sub List.filter_sublist
  · split
    · rw [era_eq]; exact h.sub (List.eraseP_sublist)
    · split
      · exact h
      · split
        · exact h
        · exact h.add _
end Go.Proofs.Ytohghplabennjaa

namespace Go.Proofs.Ytohghplabennjaa
open Go.X
set_option linter.unusedSimpArgs false
set_option linter.unusedVariables false

def mute (m : List Smp) (k : Nat) : List Smp := m.set k { m.getD k default with q := -1 }

theorem rsameT (ca cb : Nat) (wa wb : Bool) (l : List Smp) (hl : l.length ≤ 1000000) :
    Ctr Try.prog 10 [.c (.sl 0 0 4 0 l.length ca), .c (.sl 1 0 4 0 l.length cb)] [.one (smps wa l ca), .one (smps wb l cb)]
      fun v h => v = .c .tt ∧ h = [.one (smps wa l ca), .one (smps wb l cb)] :=
  Ctr.tt (Ctr.mono' (rsame ca cb wa wb l l hl hl) fun v h hh => ⟨_, hh.1, decide_eq_true rfl, hh.2⟩)

theorem okD {q : Qos} (h : okQ q) : q.keep = true ∨ 1 ≤ q.depth := by
  cases hk : q.keep with
  | true => exact .inl rfl
  | false => exact .inr (h.2.2.2.2 hk).1

set_option maxRecDepth 10000 in
set_option maxHeartbeats 4000000 in
theorem cstep (q : Qos) (l : List Smp) (ci cr : Nat) (o : OpV) (hq : okQ q) (hi : Inv l) (hn : In64 o.n) :
    Ctr Try.prog 19 [.c (.p 0 0 0), .c (.p 1 0 0), .a (encO o)] [.one (hist 2 q l.length ci), .one (hist 3 q l.length cr), .one (smps true l ci), .one (smps true l cr)]
      fun v h => v = .c .tt ∧ ∃ ci' cr', h = [.one (hist 4 q (opL q l o).length ci'), .one (hist 5 q (opL q l o).length cr'), .one .no, .one .no, .one (smps true (opL q l o) ci'), .one (smps true (opL q l o) cr')] := by
  have hl : l.length ≤ 1000000 := Nat.le_trans hi.len (by omega)
  have hlife : 0 ≤ q.life ∧ q.life ≤ 1099511627776 := hq.2.1
  have ht1 : ∀ k, k < l.length → 0 ≤ (l.getD k default).t ∧ (l.getD k default).t ≤ 1099511627776 := fun k hk => hi.tm _ (getD_mem hk)
  have hgl : ∀ t, (gone q l t).length ≤ 1000000 := fun t => Nat.le_trans (List.length_filter_le _ _) hl
  refine Ctr.mk' tbv mixed Try.func19 rfl rfl rfl (fun _ _ => by kernel_rfl) (by kernel_rfl) (by rfl) (by rfl) (by exact trivial) ?_
  repeat' (first
    | ((fail_if_success (with_reducible first | apply LoopK.mk | apply CallK.mk | apply FinK.mk)); first
      | ((with_reducible refine And.intro (fun (hb : _ = true) => ?_) (fun (hb : _ = false) => ?_)) <;> (try simp only [decide_eq_true_eq, decide_eq_false_iff_not, Bool.not_eq_true', Bool.not_eq_false', Bool.and_eq_true, Bool.and_eq_false_iff, Bool.or_eq_true, Bool.or_eq_false_iff, Bool.and_true, Int.not_lt, Int.not_le, not_true_eq_false, or_self, true_and, Bool.true_eq_false, Bool.false_eq_true, reduceCtorEq, not_false_eq_true, decide_true, decide_false, Int.toNat_natCast, Nat.zero_add] at hb) <;> (try (first | (exfalso; omega) | exact (Bool.false_ne_true (Eq.trans (Eq.symm hb) (by assumption))).elim | exact (Bool.false_ne_true (Eq.trans (Eq.symm (by assumption)) hb)).elim)))
      | (with_reducible refine Both.mk ?_ ?_)
      | ((with_reducible refine And.intro ?_ ?_); (focus (first | rfl | omega | (split <;> omega) | (refine ⟨?_, ?_, ?_⟩ <;> first | rfl | omega | (split <;> omega)) | assumption | (refine ⟨?_, ?_⟩ <;> omega) | (refine ⟨?_, ?_, ?_⟩ <;> omega) | (refine ⟨?_, ?_, ?_, ?_⟩ <;> omega) | (dsimp only [maxLen]; refine ⟨?_, ?_⟩ <;> omega) | (refine ⟨rfl, ?_⟩ <;> omega) | exact ⟨rfl, rfl⟩ | exact ⟨rfl, rfl, by omega⟩)))
      | ((with_reducible refine Or.inl (And.intro ?_ (And.intro ?_ ?_))); (focus (rfl)); (focus (refine ⟨?_, ?_, ?_, ?_⟩ <;> first | rfl | omega)))
      | ((with_reducible refine Or.inr (Or.inl (And.intro ?_ ?_))); (focus (refine ⟨?_, ?_, ?_⟩ <;> first | rfl | omega)))
      | ((with_reducible refine Or.inr (Or.inr (Or.inl (And.intro ?_ ?_)))); (focus (refine ⟨?_, ?_, ?_, ?_, ?_⟩ <;> first | rfl | omega)))
      | ((with_reducible refine Or.inr (Or.inr (Or.inr (And.intro ?_ ?_)))); (focus (refine ⟨?_, ?_, ?_, ?_, ?_, ?_, ?_⟩ <;> first | rfl | omega)))
      | (with_reducible intro hc; (try simp only [capsP, and_true] at hc); (try (exfalso; omega)))
      | ((fail_if_success (with_reducible first | refine And.intro ?_ ?_ | refine Or.inl ?_ | intro _)); (conv => whnf); (fail_if_success (fail_if_success (with_reducible first | apply LoopK.mk | apply CallK.mk | apply FinK.mk | refine Both.mk ?_ ?_ | refine And.intro ?_ ?_ | refine Or.inl ?_ | intro _))))))
  · have eo : opL q l o = stay q l o.s.t := by unfold opL; rw [if_pos ‹_›]
    rw [eo]
    refine CallK.mk2 (σ := [.whole 0, .whole 2]) (nl := []) (iexpire q l ci o.s.t hl hi.tm hlife) rfl rfl (by (try simp only [givesF, setF, updF, Fam.zeroth, Fam.rk, Ck.rk, C.rk, E.rk, T.rk, key, List.map_cons, List.map_nil, List.cons_append, List.nil_append, List.length_cons, List.length_nil, Option.map_some, Option.bind_some, Nat.reduceAdd, Nat.zero_add, Nat.add_zero, Nat.add_sub_cancel_left, Int.toNat_natCast, reps, List.all_cons, List.all_nil, C.flat, List.append_eq, Bool.not_true, Bool.and_true, Bool.or_false, Bool.or_self, Bool.not_false, List.append_nil, Bool.and_self]); rfl) (by (repeat' (first | (refine And.intro ?_ ?_) | exact trivial | rfl | exact Nat.le_refl _ | exact (fun _ _ => rfl) | (simp only [Int.toNat_natCast, Nat.zero_add, Nat.add_zero]; done)))) ?_
    rintro v h' ⟨cg, cs, rfl, rfl⟩ hcaps
    refine ret_mk (by (try simp only [givesF, setF, updF, Fam.zeroth, Fam.rk, Ck.rk, C.rk, E.rk, T.rk, key, List.map_cons, List.map_nil, List.cons_append, List.nil_append, List.length_cons, List.length_nil, Option.map_some, Option.bind_some, Nat.reduceAdd, Nat.zero_add, Nat.add_zero, Nat.add_sub_cancel_left, Int.toNat_natCast, reps, List.all_cons, List.all_nil, C.flat, List.append_eq, Bool.not_true, Bool.and_true, Bool.or_false, Bool.or_self, Bool.not_false, List.append_nil, Bool.and_self]); rfl) (by (try simp only [givesF, setF, updF, Fam.zeroth, Fam.rk, Ck.rk, C.rk, E.rk, T.rk, key, List.map_cons, List.map_nil, List.cons_append, List.nil_append, List.length_cons, List.length_nil, Option.map_some, Option.bind_some, Nat.reduceAdd, Nat.zero_add, Nat.add_zero, Nat.add_sub_cancel_left, Int.toNat_natCast, reps, List.all_cons, List.all_nil, C.flat, List.append_eq, Bool.not_true, Bool.and_true, Bool.or_false, Bool.or_self, Bool.not_false, List.append_nil, Bool.and_self]); rfl) ?_
    repeat' (first
      | ((fail_if_success (with_reducible first | apply LoopK.mk | apply CallK.mk | apply FinK.mk)); first
        | ((with_reducible refine And.intro (fun (hb : _ = true) => ?_) (fun (hb : _ = false) => ?_)) <;> (try simp only [decide_eq_true_eq, decide_eq_false_iff_not, Bool.not_eq_true', Bool.not_eq_false', Bool.and_eq_true, Bool.and_eq_false_iff, Bool.or_eq_true, Bool.or_eq_false_iff, Bool.and_true, Int.not_lt, Int.not_le, not_true_eq_false, or_self, true_and, Bool.true_eq_false, Bool.false_eq_true, reduceCtorEq, not_false_eq_true, decide_true, decide_false, Int.toNat_natCast, Nat.zero_add] at hb) <;> (try (first | (exfalso; omega) | exact (Bool.false_ne_true (Eq.trans (Eq.symm hb) (by assumption))).elim | exact (Bool.false_ne_true (Eq.trans (Eq.symm (by assumption)) hb)).elim)))
        | (with_reducible refine Both.mk ?_ ?_)
        | ((with_reducible refine And.intro ?_ ?_); (focus (first | rfl | omega | (split <;> omega) | (refine ⟨?_, ?_, ?_⟩ <;> first | rfl | omega | (split <;> omega)) | assumption | (refine ⟨?_, ?_⟩ <;> omega) | (refine ⟨?_, ?_, ?_⟩ <;> omega) | (refine ⟨?_, ?_, ?_, ?_⟩ <;> omega) | (dsimp only [maxLen]; refine ⟨?_, ?_⟩ <;> omega) | (refine ⟨rfl, ?_⟩ <;> omega) | exact ⟨rfl, rfl⟩ | exact ⟨rfl, rfl, by omega⟩)))
        | ((with_reducible refine Or.inl (And.intro ?_ (And.intro ?_ ?_))); (focus (rfl)); (focus (refine ⟨?_, ?_, ?_, ?_⟩ <;> first | rfl | omega)))
        | ((with_reducible refine Or.inr (Or.inl (And.intro ?_ ?_))); (focus (refine ⟨?_, ?_, ?_⟩ <;> first | rfl | omega)))
        | ((with_reducible refine Or.inr (Or.inr (Or.inl (And.intro ?_ ?_)))); (focus (refine ⟨?_, ?_, ?_, ?_, ?_⟩ <;> first | rfl | omega)))
        | ((with_reducible refine Or.inr (Or.inr (Or.inr (And.intro ?_ ?_)))); (focus (refine ⟨?_, ?_, ?_, ?_, ?_, ?_, ?_⟩ <;> first | rfl | omega)))
        | (with_reducible intro hc; (try simp only [capsP, and_true] at hc); (try (exfalso; omega)))
        | ((fail_if_success (with_reducible first | refine And.intro ?_ ?_ | refine Or.inl ?_ | intro _)); (conv => whnf); (fail_if_success (fail_if_success (with_reducible first | apply LoopK.mk | apply CallK.mk | apply FinK.mk | refine Both.mk ?_ ?_ | refine And.intro ?_ ?_ | refine Or.inl ?_ | intro _))))))
    refine CallK.mk2 (σ := [.whole 1, .whole 3]) (nl := []) (rexpire q l cr o.s.t hl ht1 hlife.2) rfl rfl (by (try simp only [givesF, setF, updF, Fam.zeroth, Fam.rk, Ck.rk, C.rk, E.rk, T.rk, key, List.map_cons, List.map_nil, List.cons_append, List.nil_append, List.length_cons, List.length_nil, Option.map_some, Option.bind_some, Nat.reduceAdd, Nat.zero_add, Nat.add_zero, Nat.add_sub_cancel_left, Int.toNat_natCast, reps, List.all_cons, List.all_nil, C.flat, List.append_eq, Bool.not_true, Bool.and_true, Bool.or_false, Bool.or_self, Bool.not_false, List.append_nil, Bool.and_self]); rfl) (by (repeat' (first | (refine And.intro ?_ ?_) | exact trivial | rfl | exact Nat.le_refl _ | exact (fun _ _ => rfl) | (simp only [Int.toNat_natCast, Nat.zero_add, Nat.add_zero]; done)))) ?_
    rintro v h' ⟨cg2, cs2, rfl, rfl⟩ hcaps
    refine ret_mk (by (try simp only [givesF, setF, updF, Fam.zeroth, Fam.rk, Ck.rk, C.rk, E.rk, T.rk, key, List.map_cons, List.map_nil, List.cons_append, List.nil_append, List.length_cons, List.length_nil, Option.map_some, Option.bind_some, Nat.reduceAdd, Nat.zero_add, Nat.add_zero, Nat.add_sub_cancel_left, Int.toNat_natCast, reps, List.all_cons, List.all_nil, C.flat, List.append_eq, Bool.not_true, Bool.and_true, Bool.or_false, Bool.or_self, Bool.not_false, List.append_nil, Bool.and_self]); rfl) (by (try simp only [givesF, setF, updF, Fam.zeroth, Fam.rk, Ck.rk, C.rk, E.rk, T.rk, key, List.map_cons, List.map_nil, List.cons_append, List.nil_append, List.length_cons, List.length_nil, Option.map_some, Option.bind_some, Nat.reduceAdd, Nat.zero_add, Nat.add_zero, Nat.add_sub_cancel_left, Int.toNat_natCast, reps, List.all_cons, List.all_nil, C.flat, List.append_eq, Bool.not_true, Bool.and_true, Bool.or_false, Bool.or_self, Bool.not_false, List.append_nil, Bool.and_self]); rfl) ?_
    repeat' (first
      | ((fail_if_success (with_reducible first | apply LoopK.mk | apply CallK.mk | apply FinK.mk)); first
        | ((with_reducible refine And.intro (fun (hb : _ = true) => ?_) (fun (hb : _ = false) => ?_)) <;> (try simp only [decide_eq_true_eq, decide_eq_false_iff_not, Bool.not_eq_true', Bool.not_eq_false', Bool.and_eq_true, Bool.and_eq_false_iff, Bool.or_eq_true, Bool.or_eq_false_iff, Bool.and_true, Int.not_lt, Int.not_le, not_true_eq_false, or_self, true_and, Bool.true_eq_false, Bool.false_eq_true, reduceCtorEq, not_false_eq_true, decide_true, decide_false, Int.toNat_natCast, Nat.zero_add] at hb) <;> (try (first | (exfalso; omega) | exact (Bool.false_ne_true (Eq.trans (Eq.symm hb) (by assumption))).elim | exact (Bool.false_ne_true (Eq.trans (Eq.symm (by assumption)) hb)).elim)))
        | (with_reducible refine Both.mk ?_ ?_)
        | ((with_reducible refine And.intro ?_ ?_); (focus (first | rfl | omega | (split <;> omega) | (refine ⟨?_, ?_, ?_⟩ <;> first | rfl | omega | (split <;> omega)) | assumption | (refine ⟨?_, ?_⟩ <;> omega) | (refine ⟨?_, ?_, ?_⟩ <;> omega) | (refine ⟨?_, ?_, ?_, ?_⟩ <;> omega) | (dsimp only [maxLen]; refine ⟨?_, ?_⟩ <;> omega) | (refine ⟨rfl, ?_⟩ <;> omega) | exact ⟨rfl, rfl⟩ | exact ⟨rfl, rfl, by omega⟩)))
        | ((with_reducible refine Or.inl (And.intro ?_ (And.intro ?_ ?_))); (focus (rfl)); (focus (refine ⟨?_, ?_, ?_, ?_⟩ <;> first | rfl | omega)))
        | ((with_reducible refine Or.inr (Or.inl (And.intro ?_ ?_))); (focus (refine ⟨?_, ?_, ?_⟩ <;> first | rfl | omega)))
        | ((with_reducible refine Or.inr (Or.inr (Or.inl (And.intro ?_ ?_)))); (focus (refine ⟨?_, ?_, ?_, ?_, ?_⟩ <;> first | rfl | omega)))
        | ((with_reducible refine Or.inr (Or.inr (Or.inr (And.intro ?_ ?_)))); (focus (refine ⟨?_, ?_, ?_, ?_, ?_, ?_, ?_⟩ <;> first | rfl | omega)))
        | (with_reducible intro hc; (try simp only [capsP, and_true] at hc); (try (exfalso; omega)))
        | ((fail_if_success (with_reducible first | refine And.intro ?_ ?_ | refine Or.inl ?_ | intro _)); (conv => whnf); (fail_if_success (fail_if_success (with_reducible first | apply LoopK.mk | apply CallK.mk | apply FinK.mk | refine Both.mk ?_ ?_ | refine And.intro ?_ ?_ | refine Or.inl ?_ | intro _))))))
    refine CallK.mk2 (σ := [.whole 6, .whole 8]) (nl := []) (rsameT cg cg2 true true (gone q l o.s.t) (hgl _)) rfl rfl (by (try simp only [givesF, setF, updF, Fam.zeroth, Fam.rk, Ck.rk, C.rk, E.rk, T.rk, key, List.map_cons, List.map_nil, List.cons_append, List.nil_append, List.length_cons, List.length_nil, Option.map_some, Option.bind_some, Nat.reduceAdd, Nat.zero_add, Nat.add_zero, Nat.add_sub_cancel_left, Int.toNat_natCast, reps, List.all_cons, List.all_nil, C.flat, List.append_eq, Bool.not_true, Bool.and_true, Bool.or_false, Bool.or_self, Bool.not_false, List.append_nil, Bool.and_self]); rfl) (by (repeat' (first | (refine And.intro ?_ ?_) | exact trivial | rfl | exact Nat.le_refl _ | exact (fun _ _ => rfl) | (simp only [Int.toNat_natCast, Nat.zero_add, Nat.add_zero]; done)))) ?_
    rintro v h' ⟨rfl, rfl⟩ hcaps
    refine ret_mk (by (try simp only [givesF, setF, updF, Fam.zeroth, Fam.rk, Ck.rk, C.rk, E.rk, T.rk, key, List.map_cons, List.map_nil, List.cons_append, List.nil_append, List.length_cons, List.length_nil, Option.map_some, Option.bind_some, Nat.reduceAdd, Nat.zero_add, Nat.add_zero, Nat.add_sub_cancel_left, Int.toNat_natCast, reps, List.all_cons, List.all_nil, C.flat, List.append_eq, Bool.not_true, Bool.and_true, Bool.or_false, Bool.or_self, Bool.not_false, List.append_nil, Bool.and_self]); rfl) (by (try simp only [givesF, setF, updF, Fam.zeroth, Fam.rk, Ck.rk, C.rk, E.rk, T.rk, key, List.map_cons, List.map_nil, List.cons_append, List.nil_append, List.length_cons, List.length_nil, Option.map_some, Option.bind_some, Nat.reduceAdd, Nat.zero_add, Nat.add_zero, Nat.add_sub_cancel_left, Int.toNat_natCast, reps, List.all_cons, List.all_nil, C.flat, List.append_eq, Bool.not_true, Bool.and_true, Bool.or_false, Bool.or_self, Bool.not_false, List.append_nil, Bool.and_self]); rfl) ?_
    repeat' (first
      | ((fail_if_success (with_reducible first | apply LoopK.mk | apply CallK.mk | apply FinK.mk)); first
        | ((with_reducible refine And.intro (fun (hb : _ = true) => ?_) (fun (hb : _ = false) => ?_)) <;> (try simp only [decide_eq_true_eq, decide_eq_false_iff_not, Bool.not_eq_true', Bool.not_eq_false', Bool.and_eq_true, Bool.and_eq_false_iff, Bool.or_eq_true, Bool.or_eq_false_iff, Bool.and_true, Int.not_lt, Int.not_le, not_true_eq_false, or_self, true_and, Bool.true_eq_false, Bool.false_eq_true, reduceCtorEq, not_false_eq_true, decide_true, decide_false, Int.toNat_natCast, Nat.zero_add] at hb) <;> (try (first | (exfalso; omega) | exact (Bool.false_ne_true (Eq.trans (Eq.symm hb) (by assumption))).elim | exact (Bool.false_ne_true (Eq.trans (Eq.symm (by assumption)) hb)).elim)))
        | (with_reducible refine Both.mk ?_ ?_)
        | ((with_reducible refine And.intro ?_ ?_); (focus (first | rfl | omega | (split <;> omega) | (refine ⟨?_, ?_, ?_⟩ <;> first | rfl | omega | (split <;> omega)) | assumption | (refine ⟨?_, ?_⟩ <;> omega) | (refine ⟨?_, ?_, ?_⟩ <;> omega) | (refine ⟨?_, ?_, ?_, ?_⟩ <;> omega) | (dsimp only [maxLen]; refine ⟨?_, ?_⟩ <;> omega) | (refine ⟨rfl, ?_⟩ <;> omega) | exact ⟨rfl, rfl⟩ | exact ⟨rfl, rfl, by omega⟩)))
        | ((with_reducible refine Or.inl (And.intro ?_ (And.intro ?_ ?_))); (focus (rfl)); (focus (refine ⟨?_, ?_, ?_, ?_⟩ <;> first | rfl | omega)))
        | ((with_reducible refine Or.inr (Or.inl (And.intro ?_ ?_))); (focus (refine ⟨?_, ?_, ?_⟩ <;> first | rfl | omega)))
        | ((with_reducible refine Or.inr (Or.inr (Or.inl (And.intro ?_ ?_)))); (focus (refine ⟨?_, ?_, ?_, ?_, ?_⟩ <;> first | rfl | omega)))
        | ((with_reducible refine Or.inr (Or.inr (Or.inr (And.intro ?_ ?_)))); (focus (refine ⟨?_, ?_, ?_, ?_, ?_, ?_, ?_⟩ <;> first | rfl | omega)))
        | (with_reducible intro hc; (try simp only [capsP, and_true] at hc); (try (exfalso; omega)))
        | ((fail_if_success (with_reducible first | refine And.intro ?_ ?_ | refine Or.inl ?_ | intro _)); (conv => whnf); (fail_if_success (fail_if_success (with_reducible first | apply LoopK.mk | apply CallK.mk | apply FinK.mk | refine Both.mk ?_ ?_ | refine And.intro ?_ ?_ | refine Or.inl ?_ | intro _))))))
    refine FinK.mk ⟨[0, 1, 2, 3, 5, 7], _, _, ⟨rfl, cs, cs2, rfl⟩, ?_⟩
    (repeat' (first | (refine And.intro ?_ ?_) | exact trivial | rfl | exact Nat.le_refl _ | exact (fun _ _ => rfl) | (simp only [Int.toNat_natCast, Nat.zero_add, Nat.add_zero]; done)))
  · have eo : opL q l o = eraS l o.s.w o.s.q := by unfold opL; rw [if_neg ‹¬ o.k.tmod 8 = 1›, if_pos ‹_›]
    rw [eo]
    refine CallK.mk2 (σ := [.whole 0, .whole 2]) (nl := []) (iremove q l ci o.s.w o.s.q hl) rfl rfl (by (try simp only [givesF, setF, updF, Fam.zeroth, Fam.rk, Ck.rk, C.rk, E.rk, T.rk, key, List.map_cons, List.map_nil, List.cons_append, List.nil_append, List.length_cons, List.length_nil, Option.map_some, Option.bind_some, Nat.reduceAdd, Nat.zero_add, Nat.add_zero, Nat.add_sub_cancel_left, Int.toNat_natCast, reps, List.all_cons, List.all_nil, C.flat, List.append_eq, Bool.not_true, Bool.and_true, Bool.or_false, Bool.or_self, Bool.not_false, List.append_nil, Bool.and_self]); rfl) (by (repeat' (first | (refine And.intro ?_ ?_) | exact trivial | rfl | exact Nat.le_refl _ | exact (fun _ _ => rfl) | (simp only [Int.toNat_natCast, Nat.zero_add, Nat.add_zero]; done)))) ?_
    rintro v h' ⟨cs, rfl, rfl⟩ hcaps
    rw [filter_era _ _ hi.ks, filter_pos]
    refine ret_mk (by (try simp only [givesF, setF, updF, Fam.zeroth, Fam.rk, Ck.rk, C.rk, E.rk, T.rk, key, List.map_cons, List.map_nil, List.cons_append, List.nil_append, List.length_cons, List.length_nil, Option.map_some, Option.bind_some, Nat.reduceAdd, Nat.zero_add, Nat.add_zero, Nat.add_sub_cancel_left, Int.toNat_natCast, reps, List.all_cons, List.all_nil, C.flat, List.append_eq, Bool.not_true, Bool.and_true, Bool.or_false, Bool.or_self, Bool.not_false, List.append_nil, Bool.and_self]); rfl) (by (try simp only [givesF, setF, updF, Fam.zeroth, Fam.rk, Ck.rk, C.rk, E.rk, T.rk, key, List.map_cons, List.map_nil, List.cons_append, List.nil_append, List.length_cons, List.length_nil, Option.map_some, Option.bind_some, Nat.reduceAdd, Nat.zero_add, Nat.add_zero, Nat.add_sub_cancel_left, Int.toNat_natCast, reps, List.all_cons, List.all_nil, C.flat, List.append_eq, Bool.not_true, Bool.and_true, Bool.or_false, Bool.or_self, Bool.not_false, List.append_nil, Bool.and_self]); rfl) ?_
    repeat' (first
      | ((fail_if_success (with_reducible first | apply LoopK.mk | apply CallK.mk | apply FinK.mk)); first
        | ((with_reducible refine And.intro (fun (hb : _ = true) => ?_) (fun (hb : _ = false) => ?_)) <;> (try simp only [decide_eq_true_eq, decide_eq_false_iff_not, Bool.not_eq_true', Bool.not_eq_false', Bool.and_eq_true, Bool.and_eq_false_iff, Bool.or_eq_true, Bool.or_eq_false_iff, Bool.and_true, Int.not_lt, Int.not_le, not_true_eq_false, or_self, true_and, Bool.true_eq_false, Bool.false_eq_true, reduceCtorEq, not_false_eq_true, decide_true, decide_false, Int.toNat_natCast, Nat.zero_add] at hb) <;> (try (first | (exfalso; omega) | exact (Bool.false_ne_true (Eq.trans (Eq.symm hb) (by assumption))).elim | exact (Bool.false_ne_true (Eq.trans (Eq.symm (by assumption)) hb)).elim)))
        | (with_reducible refine Both.mk ?_ ?_)
        | ((with_reducible refine And.intro ?_ ?_); (focus (first | rfl | omega | (split <;> omega) | (refine ⟨?_, ?_, ?_⟩ <;> first | rfl | omega | (split <;> omega)) | assumption | (refine ⟨?_, ?_⟩ <;> omega) | (refine ⟨?_, ?_, ?_⟩ <;> omega) | (refine ⟨?_, ?_, ?_, ?_⟩ <;> omega) | (dsimp only [maxLen]; refine ⟨?_, ?_⟩ <;> omega) | (refine ⟨rfl, ?_⟩ <;> omega) | exact ⟨rfl, rfl⟩ | exact ⟨rfl, rfl, by omega⟩)))
        | ((with_reducible refine Or.inl (And.intro ?_ (And.intro ?_ ?_))); (focus (rfl)); (focus (refine ⟨?_, ?_, ?_, ?_⟩ <;> first | rfl | omega)))
        | ((with_reducible refine Or.inr (Or.inl (And.intro ?_ ?_))); (focus (refine ⟨?_, ?_, ?_⟩ <;> first | rfl | omega)))
        | ((with_reducible refine Or.inr (Or.inr (Or.inl (And.intro ?_ ?_)))); (focus (refine ⟨?_, ?_, ?_, ?_, ?_⟩ <;> first | rfl | omega)))
        | ((with_reducible refine Or.inr (Or.inr (Or.inr (And.intro ?_ ?_)))); (focus (refine ⟨?_, ?_, ?_, ?_, ?_, ?_, ?_⟩ <;> first | rfl | omega)))
        | (with_reducible intro hc; (try simp only [capsP, and_true] at hc); (try (exfalso; omega)))
        | ((fail_if_success (with_reducible first | refine And.intro ?_ ?_ | refine Or.inl ?_ | intro _)); (conv => whnf); (fail_if_success (fail_if_success (with_reducible first | apply LoopK.mk | apply CallK.mk | apply FinK.mk | refine Both.mk ?_ ?_ | refine And.intro ?_ ?_ | refine Or.inl ?_ | intro _))))))
    refine CallK.mk2 (σ := [.whole 1, .whole 3]) (nl := []) (rremove q l cr o.s.w o.s.q hl) rfl rfl (by (try simp only [givesF, setF, updF, Fam.zeroth, Fam.rk, Ck.rk, C.rk, E.rk, T.rk, key, List.map_cons, List.map_nil, List.cons_append, List.nil_append, List.length_cons, List.length_nil, Option.map_some, Option.bind_some, Nat.reduceAdd, Nat.zero_add, Nat.add_zero, Nat.add_sub_cancel_left, Int.toNat_natCast, reps, List.all_cons, List.all_nil, C.flat, List.append_eq, Bool.not_true, Bool.and_true, Bool.or_false, Bool.or_self, Bool.not_false, List.append_nil, Bool.and_self]); rfl) (by (repeat' (first | (refine And.intro ?_ ?_) | exact trivial | rfl | exact Nat.le_refl _ | exact (fun _ _ => rfl) | (simp only [Int.toNat_natCast, Nat.zero_add, Nat.add_zero]; done)))) ?_
    rintro v h' ⟨cs2, rfl, rfl⟩ hcaps
    refine ret_mk (by (try simp only [givesF, setF, updF, Fam.zeroth, Fam.rk, Ck.rk, C.rk, E.rk, T.rk, key, List.map_cons, List.map_nil, List.cons_append, List.nil_append, List.length_cons, List.length_nil, Option.map_some, Option.bind_some, Nat.reduceAdd, Nat.zero_add, Nat.add_zero, Nat.add_sub_cancel_left, Int.toNat_natCast, reps, List.all_cons, List.all_nil, C.flat, List.append_eq, Bool.not_true, Bool.and_true, Bool.or_false, Bool.or_self, Bool.not_false, List.append_nil, Bool.and_self]); rfl) (by (try simp only [givesF, setF, updF, Fam.zeroth, Fam.rk, Ck.rk, C.rk, E.rk, T.rk, key, List.map_cons, List.map_nil, List.cons_append, List.nil_append, List.length_cons, List.length_nil, Option.map_some, Option.bind_some, Nat.reduceAdd, Nat.zero_add, Nat.add_zero, Nat.add_sub_cancel_left, Int.toNat_natCast, reps, List.all_cons, List.all_nil, C.flat, List.append_eq, Bool.not_true, Bool.and_true, Bool.or_false, Bool.or_self, Bool.not_false, List.append_nil, Bool.and_self]); rfl) ?_
    repeat' (first
      | ((fail_if_success (with_reducible first | apply LoopK.mk | apply CallK.mk | apply FinK.mk)); first
        | ((with_reducible refine And.intro (fun (hb : _ = true) => ?_) (fun (hb : _ = false) => ?_)) <;> (try simp only [decide_eq_true_eq, decide_eq_false_iff_not, Bool.not_eq_true', Bool.not_eq_false', Bool.and_eq_true, Bool.and_eq_false_iff, Bool.or_eq_true, Bool.or_eq_false_iff, Bool.and_true, Int.not_lt, Int.not_le, not_true_eq_false, or_self, true_and, Bool.true_eq_false, Bool.false_eq_true, reduceCtorEq, not_false_eq_true, decide_true, decide_false, Int.toNat_natCast, Nat.zero_add] at hb) <;> (try (first | (exfalso; omega) | exact (Bool.false_ne_true (Eq.trans (Eq.symm hb) (by assumption))).elim | exact (Bool.false_ne_true (Eq.trans (Eq.symm (by assumption)) hb)).elim)))
        | (with_reducible refine Both.mk ?_ ?_)
        | ((with_reducible refine And.intro ?_ ?_); (focus (first | rfl | omega | (split <;> omega) | (refine ⟨?_, ?_, ?_⟩ <;> first | rfl | omega | (split <;> omega)) | assumption | (refine ⟨?_, ?_⟩ <;> omega) | (refine ⟨?_, ?_, ?_⟩ <;> omega) | (refine ⟨?_, ?_, ?_, ?_⟩ <;> omega) | (dsimp only [maxLen]; refine ⟨?_, ?_⟩ <;> omega) | (refine ⟨rfl, ?_⟩ <;> omega) | exact ⟨rfl, rfl⟩ | exact ⟨rfl, rfl, by omega⟩)))
        | ((with_reducible refine Or.inl (And.intro ?_ (And.intro ?_ ?_))); (focus (rfl)); (focus (refine ⟨?_, ?_, ?_, ?_⟩ <;> first | rfl | omega)))
        | ((with_reducible refine Or.inr (Or.inl (And.intro ?_ ?_))); (focus (refine ⟨?_, ?_, ?_⟩ <;> first | rfl | omega)))
        | ((with_reducible refine Or.inr (Or.inr (Or.inl (And.intro ?_ ?_)))); (focus (refine ⟨?_, ?_, ?_, ?_, ?_⟩ <;> first | rfl | omega)))
        | ((with_reducible refine Or.inr (Or.inr (Or.inr (And.intro ?_ ?_)))); (focus (refine ⟨?_, ?_, ?_, ?_, ?_, ?_, ?_⟩ <;> first | rfl | omega)))
        | (with_reducible intro hc; (try simp only [capsP, and_true] at hc); (try (exfalso; omega)))
        | ((fail_if_success (with_reducible first | refine And.intro ?_ ?_ | refine Or.inl ?_ | intro _)); (conv => whnf); (fail_if_success (fail_if_success (with_reducible first | apply LoopK.mk | apply CallK.mk | apply FinK.mk | refine Both.mk ?_ ?_ | refine And.intro ?_ ?_ | refine Or.inl ?_ | intro _))))))
    refine FinK.mk ⟨[0, 1, 2, 3, 5, 6], _, _, ⟨rfl, cs, cs2, rfl⟩, ?_⟩
    (repeat' (first | (refine And.intro ?_ ?_) | exact trivial | rfl | exact Nat.le_refl _ | exact (fun _ _ => rfl) | (simp only [Int.toNat_natCast, Nat.zero_add, Nat.add_zero]; done)))
    exact beq_self_eq_true _
  · have eo : opL q l o = l := by unfold opL; rw [if_neg ‹¬ o.k.tmod 8 = 1›, if_neg ‹¬ o.k.tmod 8 = 2›, if_pos ‹_›]
    rw [eo]
    refine CallK.mk2 (σ := [.whole 0, .whole 2]) (nl := []) (iget q l ci o.s.w o.s.q hl) rfl rfl (by (try simp only [givesF, setF, updF, Fam.zeroth, Fam.rk, Ck.rk, C.rk, E.rk, T.rk, key, List.map_cons, List.map_nil, List.cons_append, List.nil_append, List.length_cons, List.length_nil, Option.map_some, Option.bind_some, Nat.reduceAdd, Nat.zero_add, Nat.add_zero, Nat.add_sub_cancel_left, Int.toNat_natCast, reps, List.all_cons, List.all_nil, C.flat, List.append_eq, Bool.not_true, Bool.and_true, Bool.or_false, Bool.or_self, Bool.not_false, List.append_nil, Bool.and_self]); rfl) (by (repeat' (first | (refine And.intro ?_ ?_) | exact trivial | rfl | exact Nat.le_refl _ | exact (fun _ _ => rfl) | (simp only [Int.toNat_natCast, Nat.zero_add, Nat.add_zero]; done)))) ?_
    rintro v h' ⟨rfl, rfl⟩ hcaps
    refine ret_mk (by (try simp only [givesF, setF, updF, Fam.zeroth, Fam.rk, Ck.rk, C.rk, E.rk, T.rk, key, List.map_cons, List.map_nil, List.cons_append, List.nil_append, List.length_cons, List.length_nil, Option.map_some, Option.bind_some, Nat.reduceAdd, Nat.zero_add, Nat.add_zero, Nat.add_sub_cancel_left, Int.toNat_natCast, reps, List.all_cons, List.all_nil, C.flat, List.append_eq, Bool.not_true, Bool.and_true, Bool.or_false, Bool.or_self, Bool.not_false, List.append_nil, Bool.and_self, encS]); rfl) (by (try simp only [givesF, setF, updF, Fam.zeroth, Fam.rk, Ck.rk, C.rk, E.rk, T.rk, key, List.map_cons, List.map_nil, List.cons_append, List.nil_append, List.length_cons, List.length_nil, Option.map_some, Option.bind_some, Nat.reduceAdd, Nat.zero_add, Nat.add_zero, Nat.add_sub_cancel_left, Int.toNat_natCast, reps, List.all_cons, List.all_nil, C.flat, List.append_eq, Bool.not_true, Bool.and_true, Bool.or_false, Bool.or_self, Bool.not_false, List.append_nil, Bool.and_self, encS]); rfl) ?_
    repeat' (first
      | ((fail_if_success (with_reducible first | apply LoopK.mk | apply CallK.mk | apply FinK.mk)); first
        | ((with_reducible refine And.intro (fun (hb : _ = true) => ?_) (fun (hb : _ = false) => ?_)) <;> (try simp only [decide_eq_true_eq, decide_eq_false_iff_not, Bool.not_eq_true', Bool.not_eq_false', Bool.and_eq_true, Bool.and_eq_false_iff, Bool.or_eq_true, Bool.or_eq_false_iff, Bool.and_true, Int.not_lt, Int.not_le, not_true_eq_false, or_self, true_and, Bool.true_eq_false, Bool.false_eq_true, reduceCtorEq, not_false_eq_true, decide_true, decide_false, Int.toNat_natCast, Nat.zero_add] at hb) <;> (try (first | (exfalso; omega) | exact (Bool.false_ne_true (Eq.trans (Eq.symm hb) (by assumption))).elim | exact (Bool.false_ne_true (Eq.trans (Eq.symm (by assumption)) hb)).elim)))
        | (with_reducible refine Both.mk ?_ ?_)
        | ((with_reducible refine And.intro ?_ ?_); (focus (first | rfl | omega | (split <;> omega) | (refine ⟨?_, ?_, ?_⟩ <;> first | rfl | omega | (split <;> omega)) | assumption | (refine ⟨?_, ?_⟩ <;> omega) | (refine ⟨?_, ?_, ?_⟩ <;> omega) | (refine ⟨?_, ?_, ?_, ?_⟩ <;> omega) | (dsimp only [maxLen]; refine ⟨?_, ?_⟩ <;> omega) | (refine ⟨rfl, ?_⟩ <;> omega) | exact ⟨rfl, rfl⟩ | exact ⟨rfl, rfl, by omega⟩)))
        | ((with_reducible refine Or.inl (And.intro ?_ (And.intro ?_ ?_))); (focus (rfl)); (focus (refine ⟨?_, ?_, ?_, ?_⟩ <;> first | rfl | omega)))
        | ((with_reducible refine Or.inr (Or.inl (And.intro ?_ ?_))); (focus (refine ⟨?_, ?_, ?_⟩ <;> first | rfl | omega)))
        | ((with_reducible refine Or.inr (Or.inr (Or.inl (And.intro ?_ ?_)))); (focus (refine ⟨?_, ?_, ?_, ?_, ?_⟩ <;> first | rfl | omega)))
        | ((with_reducible refine Or.inr (Or.inr (Or.inr (And.intro ?_ ?_)))); (focus (refine ⟨?_, ?_, ?_, ?_, ?_, ?_, ?_⟩ <;> first | rfl | omega)))
        | (with_reducible intro hc; (try simp only [capsP, and_true] at hc); (try (exfalso; omega)))
        | ((fail_if_success (with_reducible first | refine And.intro ?_ ?_ | refine Or.inl ?_ | intro _)); (conv => whnf); (fail_if_success (fail_if_success (with_reducible first | apply LoopK.mk | apply CallK.mk | apply FinK.mk | refine Both.mk ?_ ?_ | refine And.intro ?_ ?_ | refine Or.inl ?_ | intro _))))))
    refine CallK.mk2 (σ := [.whole 1, .whole 3]) (nl := []) (rget q l cr o.s.w o.s.q hl) rfl rfl (by (try simp only [givesF, setF, updF, Fam.zeroth, Fam.rk, Ck.rk, C.rk, E.rk, T.rk, key, List.map_cons, List.map_nil, List.cons_append, List.nil_append, List.length_cons, List.length_nil, Option.map_some, Option.bind_some, Nat.reduceAdd, Nat.zero_add, Nat.add_zero, Nat.add_sub_cancel_left, Int.toNat_natCast, reps, List.all_cons, List.all_nil, C.flat, List.append_eq, Bool.not_true, Bool.and_true, Bool.or_false, Bool.or_self, Bool.not_false, List.append_nil, Bool.and_self]); rfl) (by (repeat' (first | (refine And.intro ?_ ?_) | exact trivial | rfl | exact Nat.le_refl _ | exact (fun _ _ => rfl) | (simp only [Int.toNat_natCast, Nat.zero_add, Nat.add_zero]; done)))) ?_
    rintro v h' ⟨rfl, rfl⟩ hcaps
    refine ret_mk (by (try simp only [givesF, setF, updF, Fam.zeroth, Fam.rk, Ck.rk, C.rk, E.rk, T.rk, key, List.map_cons, List.map_nil, List.cons_append, List.nil_append, List.length_cons, List.length_nil, Option.map_some, Option.bind_some, Nat.reduceAdd, Nat.zero_add, Nat.add_zero, Nat.add_sub_cancel_left, Int.toNat_natCast, reps, List.all_cons, List.all_nil, C.flat, List.append_eq, Bool.not_true, Bool.and_true, Bool.or_false, Bool.or_self, Bool.not_false, List.append_nil, Bool.and_self, encS]); rfl) (by (try simp only [givesF, setF, updF, Fam.zeroth, Fam.rk, Ck.rk, C.rk, E.rk, T.rk, key, List.map_cons, List.map_nil, List.cons_append, List.nil_append, List.length_cons, List.length_nil, Option.map_some, Option.bind_some, Nat.reduceAdd, Nat.zero_add, Nat.add_zero, Nat.add_sub_cancel_left, Int.toNat_natCast, reps, List.all_cons, List.all_nil, C.flat, List.append_eq, Bool.not_true, Bool.and_true, Bool.or_false, Bool.or_self, Bool.not_false, List.append_nil, Bool.and_self, encS]); rfl) ?_
    repeat' (first
      | ((fail_if_success (with_reducible first | apply LoopK.mk | apply CallK.mk | apply FinK.mk)); first
        | ((with_reducible refine And.intro (fun (hb : _ = true) => ?_) (fun (hb : _ = false) => ?_)) <;> (try simp only [decide_eq_true_eq, decide_eq_false_iff_not, Bool.not_eq_true', Bool.not_eq_false', Bool.and_eq_true, Bool.and_eq_false_iff, Bool.or_eq_true, Bool.or_eq_false_iff, Bool.and_true, Int.not_lt, Int.not_le, not_true_eq_false, or_self, true_and, Bool.true_eq_false, Bool.false_eq_true, reduceCtorEq, not_false_eq_true, decide_true, decide_false, Int.toNat_natCast, Nat.zero_add] at hb) <;> (try (first | (exfalso; omega) | exact (Bool.false_ne_true (Eq.trans (Eq.symm hb) (by assumption))).elim | exact (Bool.false_ne_true (Eq.trans (Eq.symm (by assumption)) hb)).elim)))
        | (with_reducible refine Both.mk ?_ ?_)
        | ((with_reducible refine And.intro ?_ ?_); (focus (first | rfl | omega | (split <;> omega) | (refine ⟨?_, ?_, ?_⟩ <;> first | rfl | omega | (split <;> omega)) | assumption | (refine ⟨?_, ?_⟩ <;> omega) | (refine ⟨?_, ?_, ?_⟩ <;> omega) | (refine ⟨?_, ?_, ?_, ?_⟩ <;> omega) | (dsimp only [maxLen]; refine ⟨?_, ?_⟩ <;> omega) | (refine ⟨rfl, ?_⟩ <;> omega) | exact ⟨rfl, rfl⟩ | exact ⟨rfl, rfl, by omega⟩)))
        | ((with_reducible refine Or.inl (And.intro ?_ (And.intro ?_ ?_))); (focus (rfl)); (focus (refine ⟨?_, ?_, ?_, ?_⟩ <;> first | rfl | omega)))
        | ((with_reducible refine Or.inr (Or.inl (And.intro ?_ ?_))); (focus (refine ⟨?_, ?_, ?_⟩ <;> first | rfl | omega)))
        | ((with_reducible refine Or.inr (Or.inr (Or.inl (And.intro ?_ ?_)))); (focus (refine ⟨?_, ?_, ?_, ?_, ?_⟩ <;> first | rfl | omega)))
        | ((with_reducible refine Or.inr (Or.inr (Or.inr (And.intro ?_ ?_)))); (focus (refine ⟨?_, ?_, ?_, ?_, ?_, ?_, ?_⟩ <;> first | rfl | omega)))
        | (with_reducible intro hc; (try simp only [capsP, and_true] at hc); (try (exfalso; omega)))
        | ((fail_if_success (with_reducible first | refine And.intro ?_ ?_ | refine Or.inl ?_ | intro _)); (conv => whnf); (fail_if_success (fail_if_success (with_reducible first | apply LoopK.mk | apply CallK.mk | apply FinK.mk | refine Both.mk ?_ ?_ | refine And.intro ?_ ?_ | refine Or.inl ?_ | intro _))))))
    all_goals try (exfalso; simp at hb; done)
    all_goals try (
      refine FinK.mk ⟨[0, 1, 2, 3, 2, 3], _, _, ⟨rfl, ci, cr, rfl⟩, ?_⟩
      (repeat' (first | (refine And.intro ?_ ?_) | exact trivial | rfl | exact Nat.le_refl _ | exact (fun _ _ => rfl) | (simp only [Int.toNat_natCast, Nat.zero_add, Nat.add_zero]; done))))
    all_goals exact beq_self_eq_true _
  · have eo : opL q l o = l := by unfold opL; rw [if_neg ‹¬ o.k.tmod 8 = 1›, if_neg ‹¬ o.k.tmod 8 = 2›, if_neg ‹¬ o.k.tmod 8 = 3›, if_pos ‹_›]
    rw [eo]
    have hll : (lastS l o.n).length ≤ 1000000 := by
      unfold lastS
      split
      · simp
      · rw [List.length_drop]; omega
    refine CallK.mk2 (σ := [.whole 0, .whole 2]) (nl := []) (ilast q l ci o.n hl hn) rfl rfl (by (try simp only [givesF, setF, updF, Fam.zeroth, Fam.rk, Ck.rk, C.rk, E.rk, T.rk, key, List.map_cons, List.map_nil, List.cons_append, List.nil_append, List.length_cons, List.length_nil, Option.map_some, Option.bind_some, Nat.reduceAdd, Nat.zero_add, Nat.add_zero, Nat.add_sub_cancel_left, Int.toNat_natCast, reps, List.all_cons, List.all_nil, C.flat, List.append_eq, Bool.not_true, Bool.and_true, Bool.or_false, Bool.or_self, Bool.not_false, List.append_nil, Bool.and_self]); rfl) (by (repeat' (first | (refine And.intro ?_ ?_) | exact trivial | rfl | exact Nat.le_refl _ | exact (fun _ _ => rfl) | (simp only [Int.toNat_natCast, Nat.zero_add, Nat.add_zero]; done)))) ?_
    rintro v h' ⟨c1, rfl, rfl⟩ hcaps
    refine ret_mk (by (try simp only [givesF, setF, updF, Fam.zeroth, Fam.rk, Ck.rk, C.rk, E.rk, T.rk, key, List.map_cons, List.map_nil, List.cons_append, List.nil_append, List.length_cons, List.length_nil, Option.map_some, Option.bind_some, Nat.reduceAdd, Nat.zero_add, Nat.add_zero, Nat.add_sub_cancel_left, Int.toNat_natCast, reps, List.all_cons, List.all_nil, C.flat, List.append_eq, Bool.not_true, Bool.and_true, Bool.or_false, Bool.or_self, Bool.not_false, List.append_nil, Bool.and_self]); rfl) (by (try simp only [givesF, setF, updF, Fam.zeroth, Fam.rk, Ck.rk, C.rk, E.rk, T.rk, key, List.map_cons, List.map_nil, List.cons_append, List.nil_append, List.length_cons, List.length_nil, Option.map_some, Option.bind_some, Nat.reduceAdd, Nat.zero_add, Nat.add_zero, Nat.add_sub_cancel_left, Int.toNat_natCast, reps, List.all_cons, List.all_nil, C.flat, List.append_eq, Bool.not_true, Bool.and_true, Bool.or_false, Bool.or_self, Bool.not_false, List.append_nil, Bool.and_self]); rfl) ?_
    repeat' (first
      | ((fail_if_success (with_reducible first | apply LoopK.mk | apply CallK.mk | apply FinK.mk)); first
        | ((with_reducible refine And.intro (fun (hb : _ = true) => ?_) (fun (hb : _ = false) => ?_)) <;> (try simp only [decide_eq_true_eq, decide_eq_false_iff_not, Bool.not_eq_true', Bool.not_eq_false', Bool.and_eq_true, Bool.and_eq_false_iff, Bool.or_eq_true, Bool.or_eq_false_iff, Bool.and_true, Int.not_lt, Int.not_le, not_true_eq_false, or_self, true_and, Bool.true_eq_false, Bool.false_eq_true, reduceCtorEq, not_false_eq_true, decide_true, decide_false, Int.toNat_natCast, Nat.zero_add] at hb) <;> (try (first | (exfalso; omega) | exact (Bool.false_ne_true (Eq.trans (Eq.symm hb) (by assumption))).elim | exact (Bool.false_ne_true (Eq.trans (Eq.symm (by assumption)) hb)).elim)))
        | (with_reducible refine Both.mk ?_ ?_)
        | ((with_reducible refine And.intro ?_ ?_); (focus (first | rfl | omega | (split <;> omega) | (refine ⟨?_, ?_, ?_⟩ <;> first | rfl | omega | (split <;> omega)) | assumption | (refine ⟨?_, ?_⟩ <;> omega) | (refine ⟨?_, ?_, ?_⟩ <;> omega) | (refine ⟨?_, ?_, ?_, ?_⟩ <;> omega) | (dsimp only [maxLen]; refine ⟨?_, ?_⟩ <;> omega) | (refine ⟨rfl, ?_⟩ <;> omega) | exact ⟨rfl, rfl⟩ | exact ⟨rfl, rfl, by omega⟩)))
        | ((with_reducible refine Or.inl (And.intro ?_ (And.intro ?_ ?_))); (focus (rfl)); (focus (refine ⟨?_, ?_, ?_, ?_⟩ <;> first | rfl | omega)))
        | ((with_reducible refine Or.inr (Or.inl (And.intro ?_ ?_))); (focus (refine ⟨?_, ?_, ?_⟩ <;> first | rfl | omega)))
        | ((with_reducible refine Or.inr (Or.inr (Or.inl (And.intro ?_ ?_)))); (focus (refine ⟨?_, ?_, ?_, ?_, ?_⟩ <;> first | rfl | omega)))
        | ((with_reducible refine Or.inr (Or.inr (Or.inr (And.intro ?_ ?_)))); (focus (refine ⟨?_, ?_, ?_, ?_, ?_, ?_, ?_⟩ <;> first | rfl | omega)))
        | (with_reducible intro hc; (try simp only [capsP, and_true] at hc); (try (exfalso; omega)))
        | ((fail_if_success (with_reducible first | refine And.intro ?_ ?_ | refine Or.inl ?_ | intro _)); (conv => whnf); (fail_if_success (fail_if_success (with_reducible first | apply LoopK.mk | apply CallK.mk | apply FinK.mk | refine Both.mk ?_ ?_ | refine And.intro ?_ ?_ | refine Or.inl ?_ | intro _))))))
    refine CallK.mk2 (σ := [.whole 1, .whole 3]) (nl := []) (rlast q l cr o.n hl hn) rfl rfl (by (try simp only [givesF, setF, updF, Fam.zeroth, Fam.rk, Ck.rk, C.rk, E.rk, T.rk, key, List.map_cons, List.map_nil, List.cons_append, List.nil_append, List.length_cons, List.length_nil, Option.map_some, Option.bind_some, Nat.reduceAdd, Nat.zero_add, Nat.add_zero, Nat.add_sub_cancel_left, Int.toNat_natCast, reps, List.all_cons, List.all_nil, C.flat, List.append_eq, Bool.not_true, Bool.and_true, Bool.or_false, Bool.or_self, Bool.not_false, List.append_nil, Bool.and_self]); rfl) (by (repeat' (first | (refine And.intro ?_ ?_) | exact trivial | rfl | exact Nat.le_refl _ | exact (fun _ _ => rfl) | (simp only [Int.toNat_natCast, Nat.zero_add, Nat.add_zero]; done)))) ?_
    rintro v h' ⟨c2, rfl, rfl⟩ hcaps
    refine ret_mk (by (try simp only [givesF, setF, updF, Fam.zeroth, Fam.rk, Ck.rk, C.rk, E.rk, T.rk, key, List.map_cons, List.map_nil, List.cons_append, List.nil_append, List.length_cons, List.length_nil, Option.map_some, Option.bind_some, Nat.reduceAdd, Nat.zero_add, Nat.add_zero, Nat.add_sub_cancel_left, Int.toNat_natCast, reps, List.all_cons, List.all_nil, C.flat, List.append_eq, Bool.not_true, Bool.and_true, Bool.or_false, Bool.or_self, Bool.not_false, List.append_nil, Bool.and_self]); rfl) (by (try simp only [givesF, setF, updF, Fam.zeroth, Fam.rk, Ck.rk, C.rk, E.rk, T.rk, key, List.map_cons, List.map_nil, List.cons_append, List.nil_append, List.length_cons, List.length_nil, Option.map_some, Option.bind_some, Nat.reduceAdd, Nat.zero_add, Nat.add_zero, Nat.add_sub_cancel_left, Int.toNat_natCast, reps, List.all_cons, List.all_nil, C.flat, List.append_eq, Bool.not_true, Bool.and_true, Bool.or_false, Bool.or_self, Bool.not_false, List.append_nil, Bool.and_self]); rfl) ?_
    repeat' (first
      | ((fail_if_success (with_reducible first | apply LoopK.mk | apply CallK.mk | apply FinK.mk)); first
        | ((with_reducible refine And.intro (fun (hb : _ = true) => ?_) (fun (hb : _ = false) => ?_)) <;> (try simp only [decide_eq_true_eq, decide_eq_false_iff_not, Bool.not_eq_true', Bool.not_eq_false', Bool.and_eq_true, Bool.and_eq_false_iff, Bool.or_eq_true, Bool.or_eq_false_iff, Bool.and_true, Int.not_lt, Int.not_le, not_true_eq_false, or_self, true_and, Bool.true_eq_false, Bool.false_eq_true, reduceCtorEq, not_false_eq_true, decide_true, decide_false, Int.toNat_natCast, Nat.zero_add] at hb) <;> (try (first | (exfalso; omega) | exact (Bool.false_ne_true (Eq.trans (Eq.symm hb) (by assumption))).elim | exact (Bool.false_ne_true (Eq.trans (Eq.symm (by assumption)) hb)).elim)))
        | (with_reducible refine Both.mk ?_ ?_)
        | ((with_reducible refine And.intro ?_ ?_); (focus (first | rfl | omega | (split <;> omega) | (refine ⟨?_, ?_, ?_⟩ <;> first | rfl | omega | (split <;> omega)) | assumption | (refine ⟨?_, ?_⟩ <;> omega) | (refine ⟨?_, ?_, ?_⟩ <;> omega) | (refine ⟨?_, ?_, ?_, ?_⟩ <;> omega) | (dsimp only [maxLen]; refine ⟨?_, ?_⟩ <;> omega) | (refine ⟨rfl, ?_⟩ <;> omega) | exact ⟨rfl, rfl⟩ | exact ⟨rfl, rfl, by omega⟩)))
        | ((with_reducible refine Or.inl (And.intro ?_ (And.intro ?_ ?_))); (focus (rfl)); (focus (refine ⟨?_, ?_, ?_, ?_⟩ <;> first | rfl | omega)))
        | ((with_reducible refine Or.inr (Or.inl (And.intro ?_ ?_))); (focus (refine ⟨?_, ?_, ?_⟩ <;> first | rfl | omega)))
        | ((with_reducible refine Or.inr (Or.inr (Or.inl (And.intro ?_ ?_)))); (focus (refine ⟨?_, ?_, ?_, ?_, ?_⟩ <;> first | rfl | omega)))
        | ((with_reducible refine Or.inr (Or.inr (Or.inr (And.intro ?_ ?_)))); (focus (refine ⟨?_, ?_, ?_, ?_, ?_, ?_, ?_⟩ <;> first | rfl | omega)))
        | (with_reducible intro hc; (try simp only [capsP, and_true] at hc); (try (exfalso; omega)))
        | ((fail_if_success (with_reducible first | refine And.intro ?_ ?_ | refine Or.inl ?_ | intro _)); (conv => whnf); (fail_if_success (fail_if_success (with_reducible first | apply LoopK.mk | apply CallK.mk | apply FinK.mk | refine Both.mk ?_ ?_ | refine And.intro ?_ ?_ | refine Or.inl ?_ | intro _))))))
    refine CallK.mk2 (σ := [.whole 5, .whole 6]) (nl := []) (rsameT c1 c2 true true (lastS l o.n) hll) rfl rfl (by (try simp only [givesF, setF, updF, Fam.zeroth, Fam.rk, Ck.rk, C.rk, E.rk, T.rk, key, List.map_cons, List.map_nil, List.cons_append, List.nil_append, List.length_cons, List.length_nil, Option.map_some, Option.bind_some, Nat.reduceAdd, Nat.zero_add, Nat.add_zero, Nat.add_sub_cancel_left, Int.toNat_natCast, reps, List.all_cons, List.all_nil, C.flat, List.append_eq, Bool.not_true, Bool.and_true, Bool.or_false, Bool.or_self, Bool.not_false, List.append_nil, Bool.and_self]); rfl) (by (repeat' (first | (refine And.intro ?_ ?_) | exact trivial | rfl | exact Nat.le_refl _ | exact (fun _ _ => rfl) | (simp only [Int.toNat_natCast, Nat.zero_add, Nat.add_zero]; done)))) ?_
    rintro v h' ⟨rfl, rfl⟩ hcaps
    refine ret_mk (by (try simp only [givesF, setF, updF, Fam.zeroth, Fam.rk, Ck.rk, C.rk, E.rk, T.rk, key, List.map_cons, List.map_nil, List.cons_append, List.nil_append, List.length_cons, List.length_nil, Option.map_some, Option.bind_some, Nat.reduceAdd, Nat.zero_add, Nat.add_zero, Nat.add_sub_cancel_left, Int.toNat_natCast, reps, List.all_cons, List.all_nil, C.flat, List.append_eq, Bool.not_true, Bool.and_true, Bool.or_false, Bool.or_self, Bool.not_false, List.append_nil, Bool.and_self]); rfl) (by (try simp only [givesF, setF, updF, Fam.zeroth, Fam.rk, Ck.rk, C.rk, E.rk, T.rk, key, List.map_cons, List.map_nil, List.cons_append, List.nil_append, List.length_cons, List.length_nil, Option.map_some, Option.bind_some, Nat.reduceAdd, Nat.zero_add, Nat.add_zero, Nat.add_sub_cancel_left, Int.toNat_natCast, reps, List.all_cons, List.all_nil, C.flat, List.append_eq, Bool.not_true, Bool.and_true, Bool.or_false, Bool.or_self, Bool.not_false, List.append_nil, Bool.and_self]); rfl) ?_
    repeat' (first
      | ((fail_if_success (with_reducible first | apply LoopK.mk | apply CallK.mk | apply FinK.mk)); first
        | ((with_reducible refine And.intro (fun (hb : _ = true) => ?_) (fun (hb : _ = false) => ?_)) <;> (try simp only [decide_eq_true_eq, decide_eq_false_iff_not, Bool.not_eq_true', Bool.not_eq_false', Bool.and_eq_true, Bool.and_eq_false_iff, Bool.or_eq_true, Bool.or_eq_false_iff, Bool.and_true, Int.not_lt, Int.not_le, not_true_eq_false, or_self, true_and, Bool.true_eq_false, Bool.false_eq_true, reduceCtorEq, not_false_eq_true, decide_true, decide_false, Int.toNat_natCast, Nat.zero_add] at hb) <;> (try (first | (exfalso; omega) | exact (Bool.false_ne_true (Eq.trans (Eq.symm hb) (by assumption))).elim | exact (Bool.false_ne_true (Eq.trans (Eq.symm (by assumption)) hb)).elim)))
        | (with_reducible refine Both.mk ?_ ?_)
        | ((with_reducible refine And.intro ?_ ?_); (focus (first | rfl | omega | (split <;> omega) | (refine ⟨?_, ?_, ?_⟩ <;> first | rfl | omega | (split <;> omega)) | assumption | (refine ⟨?_, ?_⟩ <;> omega) | (refine ⟨?_, ?_, ?_⟩ <;> omega) | (refine ⟨?_, ?_, ?_, ?_⟩ <;> omega) | (dsimp only [maxLen]; refine ⟨?_, ?_⟩ <;> omega) | (refine ⟨rfl, ?_⟩ <;> omega) | exact ⟨rfl, rfl⟩ | exact ⟨rfl, rfl, by omega⟩)))
        | ((with_reducible refine Or.inl (And.intro ?_ (And.intro ?_ ?_))); (focus (rfl)); (focus (refine ⟨?_, ?_, ?_, ?_⟩ <;> first | rfl | omega)))
        | ((with_reducible refine Or.inr (Or.inl (And.intro ?_ ?_))); (focus (refine ⟨?_, ?_, ?_⟩ <;> first | rfl | omega)))
        | ((with_reducible refine Or.inr (Or.inr (Or.inl (And.intro ?_ ?_)))); (focus (refine ⟨?_, ?_, ?_, ?_, ?_⟩ <;> first | rfl | omega)))
        | ((with_reducible refine Or.inr (Or.inr (Or.inr (And.intro ?_ ?_)))); (focus (refine ⟨?_, ?_, ?_, ?_, ?_, ?_, ?_⟩ <;> first | rfl | omega)))
        | (with_reducible intro hc; (try simp only [capsP, and_true] at hc); (try (exfalso; omega)))
        | ((fail_if_success (with_reducible first | refine And.intro ?_ ?_ | refine Or.inl ?_ | intro _)); (conv => whnf); (fail_if_success (fail_if_success (with_reducible first | apply LoopK.mk | apply CallK.mk | apply FinK.mk | refine Both.mk ?_ ?_ | refine And.intro ?_ ?_ | refine Or.inl ?_ | intro _))))))
    refine LoopK.mk' {k : Nat × List Smp // k.1 ≤ (lastS l o.n).length ∧ k.2.length = (lastS l o.n).length}
      (fun ⟨(k, m), _⟩ => ⟨[(11, .c (.sl 4 0 4 0 (lastS l o.n).length c1)), (12, .c (.i .i64 k))], [.one (hist 2 q l.length ci), .one (hist 3 q l.length cr), .one (smps true l ci), .one (smps true l cr), .one (smps true m c1)]⟩) (fun k => (lastS l o.n).length - k.1.1)
      ⟨⟨(0, lastS l o.n), Nat.zero_le _, rfl⟩, [0, 1, 2, 3, 5], ?_⟩ ?_
    · (repeat' (first | (refine And.intro ?_ ?_) | exact trivial | rfl | exact Nat.le_refl _ | exact (fun _ _ => rfl) | (simp only [Int.toNat_natCast, Nat.zero_add, Nat.add_zero]; done)))
    rintro ⟨⟨k, m⟩, hk, hm⟩
    simp only at hk hm
    repeat' (first
      | ((fail_if_success (with_reducible first | apply LoopK.mk | apply CallK.mk | apply FinK.mk)); first
        | ((with_reducible refine And.intro (fun (hb : _ = true) => ?_) (fun (hb : _ = false) => ?_)) <;> (try simp only [decide_eq_true_eq, decide_eq_false_iff_not, Bool.not_eq_true', Bool.not_eq_false', Bool.and_eq_true, Bool.and_eq_false_iff, Bool.or_eq_true, Bool.or_eq_false_iff, Bool.and_true, Int.not_lt, Int.not_le, not_true_eq_false, or_self, true_and, Bool.true_eq_false, Bool.false_eq_true, reduceCtorEq, not_false_eq_true, decide_true, decide_false, Int.toNat_natCast, Nat.zero_add] at hb) <;> (try (first | (exfalso; omega) | exact (Bool.false_ne_true (Eq.trans (Eq.symm hb) (by assumption))).elim | exact (Bool.false_ne_true (Eq.trans (Eq.symm (by assumption)) hb)).elim)))
        | (with_reducible refine Both.mk ?_ ?_)
        | ((with_reducible refine And.intro ?_ ?_); (focus (first | rfl | omega | (split <;> omega) | (refine ⟨?_, ?_, ?_⟩ <;> first | rfl | omega | (split <;> omega)) | assumption | (refine ⟨?_, ?_⟩ <;> omega) | (refine ⟨?_, ?_, ?_⟩ <;> omega) | (refine ⟨?_, ?_, ?_, ?_⟩ <;> omega) | (dsimp only [maxLen]; refine ⟨?_, ?_⟩ <;> omega) | (refine ⟨rfl, ?_⟩ <;> omega) | exact ⟨rfl, rfl⟩ | exact ⟨rfl, rfl, by omega⟩)))
        | ((with_reducible refine Or.inl (And.intro ?_ (And.intro ?_ ?_))); (focus (rfl)); (focus (refine ⟨?_, ?_, ?_, ?_⟩ <;> first | rfl | omega)))
        | ((with_reducible refine Or.inr (Or.inl (And.intro ?_ ?_))); (focus (refine ⟨?_, ?_, ?_⟩ <;> first | rfl | omega)))
        | ((with_reducible refine Or.inr (Or.inr (Or.inl (And.intro ?_ ?_)))); (focus (refine ⟨?_, ?_, ?_, ?_, ?_⟩ <;> first | rfl | omega)))
        | ((with_reducible refine Or.inr (Or.inr (Or.inr (And.intro ?_ ?_)))); (focus (refine ⟨?_, ?_, ?_, ?_, ?_, ?_, ?_⟩ <;> first | rfl | omega)))
        | (with_reducible intro hc; (try simp only [capsP, and_true] at hc); (try (exfalso; omega)))
        | ((fail_if_success (with_reducible first | refine And.intro ?_ ?_ | refine Or.inl ?_ | intro _)); (conv => whnf); (fail_if_success (fail_if_success (with_reducible first | apply LoopK.mk | apply CallK.mk | apply FinK.mk | refine Both.mk ?_ ?_ | refine And.intro ?_ ?_ | refine Or.inl ?_ | intro _))))))
    · have hk' : k < m.length := by omega
      refine ⟨⟨(k + 1, mute m k), by simp only; omega, by simp [mute, hm]⟩, [0, 1, 2, 3, 4], by simp only; omega, ?_⟩
      (repeat' (first | (refine And.intro ?_ ?_) | exact trivial | rfl | exact Nat.le_refl _ | exact (fun _ _ => rfl) | (simp only [Int.toNat_natCast, Nat.zero_add, Nat.add_zero]; done)))
      all_goals first
        | (simp [mute]; done)
        | (intro i hi
           simp only [mute, rowOf]
           by_cases hik : i = k
           · subst hik
             rw [if_pos (by omega)]
             simp [List.getD, List.getElem?_set, hk']
             rfl
           · rw [if_neg (by omega)]
             simp [List.getD, List.getElem?_set, Ne.symm hik])
    · refine FinK.mk ⟨[0, 1, 2, 3, 2, 3], _, _, ⟨rfl, ci, cr, rfl⟩, ?_⟩
      (repeat' (first | (refine And.intro ?_ ?_) | exact trivial | rfl | exact Nat.le_refl _ | exact (fun _ _ => rfl) | (simp only [Int.toNat_natCast, Nat.zero_add, Nat.add_zero]; done)))
  · have eo : opL q l o = newS q l o.s := by unfold opL; rw [if_neg ‹¬ o.k.tmod 8 = 1›, if_neg ‹¬ o.k.tmod 8 = 2›, if_neg ‹¬ o.k.tmod 8 = 3›, if_neg ‹_›]
    rw [eo]
    have hol : (outS q l o.s).length ≤ 1000000 := by
      unfold outS addO
      split
      · split <;> simp
      · simp
    refine CallK.mk2 (σ := [.whole 0, .whole 2]) (nl := []) (iadd q l ci o.s hl) rfl rfl (by (try simp only [givesF, setF, updF, Fam.zeroth, Fam.rk, Ck.rk, C.rk, E.rk, T.rk, key, List.map_cons, List.map_nil, List.cons_append, List.nil_append, List.length_cons, List.length_nil, Option.map_some, Option.bind_some, Nat.reduceAdd, Nat.zero_add, Nat.add_zero, Nat.add_sub_cancel_left, Int.toNat_natCast, reps, List.all_cons, List.all_nil, C.flat, List.append_eq, Bool.not_true, Bool.and_true, Bool.or_false, Bool.or_self, Bool.not_false, List.append_nil, Bool.and_self]); rfl) (by (repeat' (first | (refine And.intro ?_ ?_) | exact trivial | rfl | exact Nat.le_refl _ | exact (fun _ _ => rfl) | (simp only [Int.toNat_natCast, Nat.zero_add, Nat.add_zero]; done)))) ?_
    rintro v h' ⟨co, c1, rfl, rfl⟩ hcaps
    refine ret_mk (by (try simp only [givesF, setF, updF, Fam.zeroth, Fam.rk, Ck.rk, C.rk, E.rk, T.rk, key, List.map_cons, List.map_nil, List.cons_append, List.nil_append, List.length_cons, List.length_nil, Option.map_some, Option.bind_some, Nat.reduceAdd, Nat.zero_add, Nat.add_zero, Nat.add_sub_cancel_left, Int.toNat_natCast, reps, List.all_cons, List.all_nil, C.flat, List.append_eq, Bool.not_true, Bool.and_true, Bool.or_false, Bool.or_self, Bool.not_false, List.append_nil, Bool.and_self]); rfl) (by (try simp only [givesF, setF, updF, Fam.zeroth, Fam.rk, Ck.rk, C.rk, E.rk, T.rk, key, List.map_cons, List.map_nil, List.cons_append, List.nil_append, List.length_cons, List.length_nil, Option.map_some, Option.bind_some, Nat.reduceAdd, Nat.zero_add, Nat.add_zero, Nat.add_sub_cancel_left, Int.toNat_natCast, reps, List.all_cons, List.all_nil, C.flat, List.append_eq, Bool.not_true, Bool.and_true, Bool.or_false, Bool.or_self, Bool.not_false, List.append_nil, Bool.and_self]); rfl) ?_
    repeat' (first
      | ((fail_if_success (with_reducible first | apply LoopK.mk | apply CallK.mk | apply FinK.mk)); first
        | ((with_reducible refine And.intro (fun (hb : _ = true) => ?_) (fun (hb : _ = false) => ?_)) <;> (try simp only [decide_eq_true_eq, decide_eq_false_iff_not, Bool.not_eq_true', Bool.not_eq_false', Bool.and_eq_true, Bool.and_eq_false_iff, Bool.or_eq_true, Bool.or_eq_false_iff, Bool.and_true, Int.not_lt, Int.not_le, not_true_eq_false, or_self, true_and, Bool.true_eq_false, Bool.false_eq_true, reduceCtorEq, not_false_eq_true, decide_true, decide_false, Int.toNat_natCast, Nat.zero_add] at hb) <;> (try (first | (exfalso; omega) | exact (Bool.false_ne_true (Eq.trans (Eq.symm hb) (by assumption))).elim | exact (Bool.false_ne_true (Eq.trans (Eq.symm (by assumption)) hb)).elim)))
        | (with_reducible refine Both.mk ?_ ?_)
        | ((with_reducible refine And.intro ?_ ?_); (focus (first | rfl | omega | (split <;> omega) | (refine ⟨?_, ?_, ?_⟩ <;> first | rfl | omega | (split <;> omega)) | assumption | (refine ⟨?_, ?_⟩ <;> omega) | (refine ⟨?_, ?_, ?_⟩ <;> omega) | (refine ⟨?_, ?_, ?_, ?_⟩ <;> omega) | (dsimp only [maxLen]; refine ⟨?_, ?_⟩ <;> omega) | (refine ⟨rfl, ?_⟩ <;> omega) | exact ⟨rfl, rfl⟩ | exact ⟨rfl, rfl, by omega⟩)))
        | ((with_reducible refine Or.inl (And.intro ?_ (And.intro ?_ ?_))); (focus (rfl)); (focus (refine ⟨?_, ?_, ?_, ?_⟩ <;> first | rfl | omega)))
        | ((with_reducible refine Or.inr (Or.inl (And.intro ?_ ?_))); (focus (refine ⟨?_, ?_, ?_⟩ <;> first | rfl | omega)))
        | ((with_reducible refine Or.inr (Or.inr (Or.inl (And.intro ?_ ?_)))); (focus (refine ⟨?_, ?_, ?_, ?_, ?_⟩ <;> first | rfl | omega)))
        | ((with_reducible refine Or.inr (Or.inr (Or.inr (And.intro ?_ ?_)))); (focus (refine ⟨?_, ?_, ?_, ?_, ?_, ?_, ?_⟩ <;> first | rfl | omega)))
        | (with_reducible intro hc; (try simp only [capsP, and_true] at hc); (try (exfalso; omega)))
        | ((fail_if_success (with_reducible first | refine And.intro ?_ ?_ | refine Or.inl ?_ | intro _)); (conv => whnf); (fail_if_success (fail_if_success (with_reducible first | apply LoopK.mk | apply CallK.mk | apply FinK.mk | refine Both.mk ?_ ?_ | refine And.intro ?_ ?_ | refine Or.inl ?_ | intro _))))))
    refine CallK.mk2 (σ := [.whole 1, .whole 3]) (nl := []) (radd q l cr o.s hl (okD hq)) rfl rfl (by (try simp only [givesF, setF, updF, Fam.zeroth, Fam.rk, Ck.rk, C.rk, E.rk, T.rk, key, List.map_cons, List.map_nil, List.cons_append, List.nil_append, List.length_cons, List.length_nil, Option.map_some, Option.bind_some, Nat.reduceAdd, Nat.zero_add, Nat.add_zero, Nat.add_sub_cancel_left, Int.toNat_natCast, reps, List.all_cons, List.all_nil, C.flat, List.append_eq, Bool.not_true, Bool.and_true, Bool.or_false, Bool.or_self, Bool.not_false, List.append_nil, Bool.and_self]); rfl) (by (repeat' (first | (refine And.intro ?_ ?_) | exact trivial | rfl | exact Nat.le_refl _ | exact (fun _ _ => rfl) | (simp only [Int.toNat_natCast, Nat.zero_add, Nat.add_zero]; done)))) ?_
    rintro v h' ⟨co2, c2, rfl, rfl⟩ hcaps
    refine ret_mk (by (try simp only [givesF, setF, updF, Fam.zeroth, Fam.rk, Ck.rk, C.rk, E.rk, T.rk, key, List.map_cons, List.map_nil, List.cons_append, List.nil_append, List.length_cons, List.length_nil, Option.map_some, Option.bind_some, Nat.reduceAdd, Nat.zero_add, Nat.add_zero, Nat.add_sub_cancel_left, Int.toNat_natCast, reps, List.all_cons, List.all_nil, C.flat, List.append_eq, Bool.not_true, Bool.and_true, Bool.or_false, Bool.or_self, Bool.not_false, List.append_nil, Bool.and_self]); rfl) (by (try simp only [givesF, setF, updF, Fam.zeroth, Fam.rk, Ck.rk, C.rk, E.rk, T.rk, key, List.map_cons, List.map_nil, List.cons_append, List.nil_append, List.length_cons, List.length_nil, Option.map_some, Option.bind_some, Nat.reduceAdd, Nat.zero_add, Nat.add_zero, Nat.add_sub_cancel_left, Int.toNat_natCast, reps, List.all_cons, List.all_nil, C.flat, List.append_eq, Bool.not_true, Bool.and_true, Bool.or_false, Bool.or_self, Bool.not_false, List.append_nil, Bool.and_self]); rfl) ?_
    repeat' (first
      | ((fail_if_success (with_reducible first | apply LoopK.mk | apply CallK.mk | apply FinK.mk)); first
        | ((with_reducible refine And.intro (fun (hb : _ = true) => ?_) (fun (hb : _ = false) => ?_)) <;> (try simp only [decide_eq_true_eq, decide_eq_false_iff_not, Bool.not_eq_true', Bool.not_eq_false', Bool.and_eq_true, Bool.and_eq_false_iff, Bool.or_eq_true, Bool.or_eq_false_iff, Bool.and_true, Int.not_lt, Int.not_le, not_true_eq_false, or_self, true_and, Bool.true_eq_false, Bool.false_eq_true, reduceCtorEq, not_false_eq_true, decide_true, decide_false, Int.toNat_natCast, Nat.zero_add] at hb) <;> (try (first | (exfalso; omega) | exact (Bool.false_ne_true (Eq.trans (Eq.symm hb) (by assumption))).elim | exact (Bool.false_ne_true (Eq.trans (Eq.symm (by assumption)) hb)).elim)))
        | (with_reducible refine Both.mk ?_ ?_)
        | ((with_reducible refine And.intro ?_ ?_); (focus (first | rfl | omega | (split <;> omega) | (refine ⟨?_, ?_, ?_⟩ <;> first | rfl | omega | (split <;> omega)) | assumption | (refine ⟨?_, ?_⟩ <;> omega) | (refine ⟨?_, ?_, ?_⟩ <;> omega) | (refine ⟨?_, ?_, ?_, ?_⟩ <;> omega) | (dsimp only [maxLen]; refine ⟨?_, ?_⟩ <;> omega) | (refine ⟨rfl, ?_⟩ <;> omega) | exact ⟨rfl, rfl⟩ | exact ⟨rfl, rfl, by omega⟩)))
        | ((with_reducible refine Or.inl (And.intro ?_ (And.intro ?_ ?_))); (focus (rfl)); (focus (refine ⟨?_, ?_, ?_, ?_⟩ <;> first | rfl | omega)))
        | ((with_reducible refine Or.inr (Or.inl (And.intro ?_ ?_))); (focus (refine ⟨?_, ?_, ?_⟩ <;> first | rfl | omega)))
        | ((with_reducible refine Or.inr (Or.inr (Or.inl (And.intro ?_ ?_)))); (focus (refine ⟨?_, ?_, ?_, ?_, ?_⟩ <;> first | rfl | omega)))
        | ((with_reducible refine Or.inr (Or.inr (Or.inr (And.intro ?_ ?_)))); (focus (refine ⟨?_, ?_, ?_, ?_, ?_, ?_, ?_⟩ <;> first | rfl | omega)))
        | (with_reducible intro hc; (try simp only [capsP, and_true] at hc); (try (exfalso; omega)))
        | ((fail_if_success (with_reducible first | refine And.intro ?_ ?_ | refine Or.inl ?_ | intro _)); (conv => whnf); (fail_if_success (fail_if_success (with_reducible first | apply LoopK.mk | apply CallK.mk | apply FinK.mk | refine Both.mk ?_ ?_ | refine And.intro ?_ ?_ | refine Or.inl ?_ | intro _))))))
    refine CallK.mk2 (σ := [.whole 6, .whole 8]) (nl := []) (rsameT co co2 true true (outS q l o.s) hol) rfl rfl (by (try simp only [givesF, setF, updF, Fam.zeroth, Fam.rk, Ck.rk, C.rk, E.rk, T.rk, key, List.map_cons, List.map_nil, List.cons_append, List.nil_append, List.length_cons, List.length_nil, Option.map_some, Option.bind_some, Nat.reduceAdd, Nat.zero_add, Nat.add_zero, Nat.add_sub_cancel_left, Int.toNat_natCast, reps, List.all_cons, List.all_nil, C.flat, List.append_eq, Bool.not_true, Bool.and_true, Bool.or_false, Bool.or_self, Bool.not_false, List.append_nil, Bool.and_self]); rfl) (by (repeat' (first | (refine And.intro ?_ ?_) | exact trivial | rfl | exact Nat.le_refl _ | exact (fun _ _ => rfl) | (simp only [Int.toNat_natCast, Nat.zero_add, Nat.add_zero]; done)))) ?_
    rintro v h' ⟨rfl, rfl⟩ hcaps
    refine ret_mk (by (try simp only [givesF, setF, updF, Fam.zeroth, Fam.rk, Ck.rk, C.rk, E.rk, T.rk, key, List.map_cons, List.map_nil, List.cons_append, List.nil_append, List.length_cons, List.length_nil, Option.map_some, Option.bind_some, Nat.reduceAdd, Nat.zero_add, Nat.add_zero, Nat.add_sub_cancel_left, Int.toNat_natCast, reps, List.all_cons, List.all_nil, C.flat, List.append_eq, Bool.not_true, Bool.and_true, Bool.or_false, Bool.or_self, Bool.not_false, List.append_nil, Bool.and_self]); rfl) (by (try simp only [givesF, setF, updF, Fam.zeroth, Fam.rk, Ck.rk, C.rk, E.rk, T.rk, key, List.map_cons, List.map_nil, List.cons_append, List.nil_append, List.length_cons, List.length_nil, Option.map_some, Option.bind_some, Nat.reduceAdd, Nat.zero_add, Nat.add_zero, Nat.add_sub_cancel_left, Int.toNat_natCast, reps, List.all_cons, List.all_nil, C.flat, List.append_eq, Bool.not_true, Bool.and_true, Bool.or_false, Bool.or_self, Bool.not_false, List.append_nil, Bool.and_self]); rfl) ?_
    repeat' (first
      | ((fail_if_success (with_reducible first | apply LoopK.mk | apply CallK.mk | apply FinK.mk)); first
        | ((with_reducible refine And.intro (fun (hb : _ = true) => ?_) (fun (hb : _ = false) => ?_)) <;> (try simp only [decide_eq_true_eq, decide_eq_false_iff_not, Bool.not_eq_true', Bool.not_eq_false', Bool.and_eq_true, Bool.and_eq_false_iff, Bool.or_eq_true, Bool.or_eq_false_iff, Bool.and_true, Int.not_lt, Int.not_le, not_true_eq_false, or_self, true_and, Bool.true_eq_false, Bool.false_eq_true, reduceCtorEq, not_false_eq_true, decide_true, decide_false, Int.toNat_natCast, Nat.zero_add] at hb) <;> (try (first | (exfalso; omega) | exact (Bool.false_ne_true (Eq.trans (Eq.symm hb) (by assumption))).elim | exact (Bool.false_ne_true (Eq.trans (Eq.symm (by assumption)) hb)).elim)))
        | (with_reducible refine Both.mk ?_ ?_)
        | ((with_reducible refine And.intro ?_ ?_); (focus (first | rfl | omega | (split <;> omega) | (refine ⟨?_, ?_, ?_⟩ <;> first | rfl | omega | (split <;> omega)) | assumption | (refine ⟨?_, ?_⟩ <;> omega) | (refine ⟨?_, ?_, ?_⟩ <;> omega) | (refine ⟨?_, ?_, ?_, ?_⟩ <;> omega) | (dsimp only [maxLen]; refine ⟨?_, ?_⟩ <;> omega) | (refine ⟨rfl, ?_⟩ <;> omega) | exact ⟨rfl, rfl⟩ | exact ⟨rfl, rfl, by omega⟩)))
        | ((with_reducible refine Or.inl (And.intro ?_ (And.intro ?_ ?_))); (focus (rfl)); (focus (refine ⟨?_, ?_, ?_, ?_⟩ <;> first | rfl | omega)))
        | ((with_reducible refine Or.inr (Or.inl (And.intro ?_ ?_))); (focus (refine ⟨?_, ?_, ?_⟩ <;> first | rfl | omega)))
        | ((with_reducible refine Or.inr (Or.inr (Or.inl (And.intro ?_ ?_)))); (focus (refine ⟨?_, ?_, ?_, ?_, ?_⟩ <;> first | rfl | omega)))
        | ((with_reducible refine Or.inr (Or.inr (Or.inr (And.intro ?_ ?_)))); (focus (refine ⟨?_, ?_, ?_, ?_, ?_, ?_, ?_⟩ <;> first | rfl | omega)))
        | (with_reducible intro hc; (try simp only [capsP, and_true] at hc); (try (exfalso; omega)))
        | ((fail_if_success (with_reducible first | refine And.intro ?_ ?_ | refine Or.inl ?_ | intro _)); (conv => whnf); (fail_if_success (fail_if_success (with_reducible first | apply LoopK.mk | apply CallK.mk | apply FinK.mk | refine Both.mk ?_ ?_ | refine And.intro ?_ ?_ | refine Or.inl ?_ | intro _))))))
    all_goals try (
      refine FinK.mk ⟨[0, 1, 2, 3, 5, 7], _, _, ⟨rfl, c1, c2, rfl⟩, ?_⟩
      (repeat' (first | (refine And.intro ?_ ?_) | exact trivial | rfl | exact Nat.le_refl _ | exact (fun _ _ => rfl) | (simp only [Int.toNat_natCast, Nat.zero_add, Nat.add_zero]; done))))
    all_goals exact decide_eq_true rfl
end Go.Proofs.Ytohghplabennjaa
