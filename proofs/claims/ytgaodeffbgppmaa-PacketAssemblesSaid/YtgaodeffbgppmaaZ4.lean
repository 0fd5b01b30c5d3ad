/- Part 4 of the texts that a walk of this program rests on: an abstract machine, its soundness, contracts of functions. No statement of the seat is proved in this file. -/
import Derived.Test.YtgaodeffbgppmaaZ3
namespace Go.Proofs.Ytgaodeffbgppmaa
open Go.X
set_option linter.unusedSimpArgs false
set_option linter.unusedVariables false
structure Pk where
  (k fr to w r q f la at' : Int) (m : List Int) (p : List UInt8)
deriving Inhabited, DecidableEq
def encP (mm : C) (x : Pk) : List C := [.i .i64 x.k, .i .i64 x.fr, .i .i64 x.to, .i .i64 x.w, .i .i64 x.r, .i .i64 x.q, .i .i64 x.f, .i .i64 x.la, .i .i64 x.at', mm, .s (mkS x.p)]
abbrev ints (w : Bool) (l : List Int) (c : Nat) : Ck := .row w false 3 1 l.length c (rowOf encI l)
/-- The numbers that a kind uses are in range. -/
def rngP (x : Pk) : Prop := (1 ≤ x.k ∧ x.k ≤ 5) ∧ (0 ≤ x.fr ∧ x.fr ≤ 7) ∧ (0 ≤ x.to ∧ x.to ≤ 7) ∧ ((x.k = 5 ∧ 0 ≤ x.w ∨ 1 ≤ x.w) ∧ x.w ≤ 1073741824) ∧ ((x.k = 5 ∧ 0 ≤ x.r ∨ 1 ≤ x.r) ∧ x.r ≤ 1073741824) ∧
  ((x.k = 2 ∨ x.k = 3) ∨ (x.k = 1 ∧ 1 ≤ x.q ∧ x.q ≤ 1099511627776) ∨ (x.k = 5 ∧ 0 ≤ x.q ∧ x.q ≤ 1099511627776) ∨ (x.k = 4 ∧ 0 ≤ x.q ∧ x.q ≤ 1)) ∧
  ((x.k = 1 ∨ x.k = 5) ∨ (1 ≤ x.f ∧ x.f ≤ 1099511627776) ∧ (0 ≤ x.la ∧ x.la ≤ 1099511627776)) ∧ (0 ≤ x.at' ∧ x.at' ≤ 1099511627776)
instance (x : Pk) : Decidable (rngP x) := by unfold rngP; infer_instance

set_option maxRecDepth 10000 in
theorem cwithin (n lo hi : Int) :
    Ctr Try.prog 34 [.c (.i .i64 n), .c (.i .i64 lo), .c (.i .i64 hi)] [] fun v h => v = .c (.b (decide (lo ≤ n ∧ n ≤ hi))) ∧ h = [] := by
  refine Ctr.mk' tbv mixed Try.func34 rfl rfl rfl (fun _ _ => by kernel_rfl) (by kernel_rfl) (by rfl) (by rfl) (by (repeat' first | refine And.intro ?_ ?_ | exact xeC | fail)) ?_
  repeat' (first | (fail_if_success (with_reducible refine xstp ?_)); first | ((with_reducible refine And.intro (fun (hb : _ = true) => ?_) (fun (hb : _ = false) => ?_)) <;> replace hb := xnC hb <;> (try first | exact xfC | exact bff hb (by assumption) | exact bff (by assumption) hb)) | (with_reducible refine Both.mk ?_ ?_) | ((with_reducible refine And.intro ?_ ?_); focus exact xoC) | ((with_reducible refine Or.inl ⟨?_, ?_, ?_⟩); (focus rfl); focus exact xaC) | ((with_reducible refine xwB ?_ ?_); focus exact xaC) | ((with_reducible refine xwC ?_ ?_); focus exact xaC) | ((with_reducible refine xwD ?_ ?_); focus exact xaC) | ((with_reducible refine xwE ?_ ?_); focus exact xaC) | (with_reducible intro hc; (try simp only [capsP, and_true] at hc); (try exact xfC)) | ((fail_if_success (with_reducible first | refine xgon ?_ | intro _)); (conv => whnf); (fail_if_success (fail_if_success (with_reducible first | refine xstp ?_ | refine Both.mk ?_ ?_ | refine xgon ?_ | intro _)))))
  · refine FinK.mk ⟨[], _, _, ⟨rfl, rfl⟩, ?_⟩; (repeat' first | refine And.intro ?_ ?_ | exact xeC | fail)
    (first | exact decide_eq_true (by omega) | exact decide_eq_false (by omega) | exact (decide_eq_true (by omega)).symm | exact (decide_eq_false (by omega)).symm | exact decide_eq_decide.2 (by omega))
  · refine FinK.mk ⟨[], _, _, ⟨rfl, rfl⟩, ?_⟩; (repeat' first | refine And.intro ?_ ?_ | exact xeC | fail)
    (first | exact decide_eq_true (by omega) | exact decide_eq_false (by omega) | exact (decide_eq_true (by omega)).symm | exact (decide_eq_false (by omega)).symm | exact decide_eq_decide.2 (by omega))

/-- Which fields a kind uses: ends, seq, first, missing, payload. -/
def usesL (k : Int) : List C := [.b (decide (1 ≤ k ∧ k ≤ 5)), .b (decide (k = 1 ∨ k = 4 ∨ k = 5)), .b (decide (k = 2 ∨ k = 3 ∨ k = 4)), .b (decide (k = 3)), .b (decide (k = 1 ∨ k = 5))]
set_option maxRecDepth 10000 in
theorem cuses (k : Int) :
    Ctr Try.prog 42 [.c (.i .i64 k)] [] fun v h => v = .t [.a (usesL k), .c (.b (decide (1 ≤ k ∧ k ≤ 5)))] ∧ h = [] := by
  refine Ctr.mk' tbv mixed Try.func42 rfl rfl rfl (fun _ _ => by kernel_rfl) (by kernel_rfl) (by rfl) (by rfl) (by (repeat' first | refine And.intro ?_ ?_ | exact xeC | fail)) ?_
  repeat' (first | (fail_if_success (with_reducible refine xstp ?_)); first | ((with_reducible refine And.intro (fun (hb : _ = true) => ?_) (fun (hb : _ = false) => ?_)) <;> replace hb := xnC hb <;> (try first | exact xfC | exact bff hb (by assumption) | exact bff (by assumption) hb)) | (with_reducible refine Both.mk ?_ ?_) | ((with_reducible refine And.intro ?_ ?_); focus exact xoC) | ((with_reducible refine Or.inl ⟨?_, ?_, ?_⟩); (focus rfl); focus exact xaC) | ((with_reducible refine xwB ?_ ?_); focus exact xaC) | ((with_reducible refine xwC ?_ ?_); focus exact xaC) | ((with_reducible refine xwD ?_ ?_); focus exact xaC) | ((with_reducible refine xwE ?_ ?_); focus exact xaC) | (with_reducible intro hc; (try simp only [capsP, and_true] at hc); (try exact xfC)) | ((fail_if_success (with_reducible first | refine xgon ?_ | intro _)); (conv => whnf); (fail_if_success (fail_if_success (with_reducible first | refine xstp ?_ | refine Both.mk ?_ ?_ | refine xgon ?_ | intro _)))))
  all_goals (
    refine FinK.mk ⟨[], _, _, ⟨rfl, rfl⟩, ?_⟩; (repeat' first | refine And.intro ?_ ?_ | exact xeC | fail)
    all_goals (first | exact decide_eq_true (by omega) | exact decide_eq_false (by omega) | exact (decide_eq_true (by omega)).symm | exact (decide_eq_false (by omega)).symm | exact decide_eq_decide.2 (by omega)))

theorem rH15pA0 {σ : List Sg} {H h' : List Fam} {v : T} {K : T → List Fam → Prop} {H' : List Fam} {v' : T} {N : Nat} (hk : K v' H') (hN : H.length = N := by (try simp only [↓List.length_cons, ↓List.length_nil, Nat.reduceAdd]) <;> rfl) (h : givesF σ N H σ h' = some H' := by (try simp (maxSteps := 1000000) only [givesF, setF, updF, Fam.zeroth, Fam.rk, Ck.rk, C.rk, E.rk, T.rk, key, List.map_cons, List.map_nil, List.cons_append, List.nil_append, List.length_cons, List.length_nil, Option.map_some, Option.bind_some, Nat.reduceAdd, Nat.zero_add, Nat.add_zero, Nat.add_sub_cancel_left, Int.toNat_natCast, reps, List.all_cons, List.all_nil, C.flat, List.append_eq, Bool.not_true, Bool.and_true, Bool.or_false, Bool.or_self, Bool.not_false, List.append_nil, Bool.and_self, encP, usesL]) <;> rfl) (hv : v.rk σ N = v' := by (try simp only [givesF, setF, updF, Fam.zeroth, Fam.rk, Ck.rk, C.rk, E.rk, T.rk, key, List.map_cons, List.map_nil, List.cons_append, List.nil_append, List.length_cons, List.length_nil, Option.map_some, Option.bind_some, Nat.reduceAdd, Nat.zero_add, Nat.add_zero, Nat.add_sub_cancel_left, Int.toNat_natCast, reps, List.all_cons, List.all_nil, C.flat, List.append_eq, Bool.not_true, Bool.and_true, Bool.or_false, Bool.or_self, Bool.not_false, List.append_nil, Bool.and_self, encP, usesL]) <;> rfl) : RetG σ H h' v K := ret_mk3 hN h hv hk
set_option maxRecDepth 10000 in
theorem cinRange (x : Pk) (n c : Nat) (hk : 1 ≤ x.k ∧ x.k ≤ 5) :
    Ctr Try.prog 59 [.a (encP (.sl 0 0 1 0 n c) x), .a (usesL x.k)] [.one .no] fun v h => v = .c (.b (decide (rngP x))) ∧ h = [.one .no] := by
  refine Ctr.mk' tbv mixed Try.func59 rfl rfl rfl (fun _ _ => by kernel_rfl) (by kernel_rfl) (by rfl) (by rfl) (by (repeat' first | refine And.intro ?_ ?_ | exact xeC | fail)) ?_
  repeat' (first | (fail_if_success (with_reducible refine xstp ?_)); first | ((with_reducible refine And.intro (fun (hb : _ = true) => ?_) (fun (hb : _ = false) => ?_)) <;> replace hb := xnC hb <;> (try first | exact xfC | exact bff hb (by assumption) | exact bff (by assumption) hb)) | (with_reducible refine Both.mk ?_ ?_) | ((with_reducible refine And.intro ?_ ?_); focus exact xoC) | ((with_reducible refine Or.inl ⟨?_, ?_, ?_⟩); (focus rfl); focus exact xaC) | ((with_reducible refine xwB ?_ ?_); focus exact xaC) | ((with_reducible refine xwC ?_ ?_); focus exact xaC) | ((with_reducible refine xwD ?_ ?_); focus exact xaC) | ((with_reducible refine xwE ?_ ?_); focus exact xaC) | (with_reducible intro hc; (try simp only [capsP, and_true] at hc); (try exact xfC)) | ((fail_if_success (with_reducible first | refine xgon ?_ | intro _)); (conv => whnf); (fail_if_success (fail_if_success (with_reducible first | refine xstp ?_ | refine Both.mk ?_ ?_ | refine xgon ?_ | intro _)))))
  · skip
    refine xcal (σ := []) (nl := []) (cwithin (x.fr) (0) (7)) ?_
    rintro v h' ⟨rfl, rfl⟩ hcaps
    refine rH15pA0 ?_
    repeat' (first | (fail_if_success (with_reducible refine xstp ?_)); first | ((with_reducible refine And.intro (fun (hb : _ = true) => ?_) (fun (hb : _ = false) => ?_)) <;> replace hb := xnC hb <;> (try first | exact xfC | exact bff hb (by assumption) | exact bff (by assumption) hb)) | (with_reducible refine Both.mk ?_ ?_) | ((with_reducible refine And.intro ?_ ?_); focus exact xoC) | ((with_reducible refine Or.inl ⟨?_, ?_, ?_⟩); (focus rfl); focus exact xaC) | ((with_reducible refine xwB ?_ ?_); focus exact xaC) | ((with_reducible refine xwC ?_ ?_); focus exact xaC) | ((with_reducible refine xwD ?_ ?_); focus exact xaC) | ((with_reducible refine xwE ?_ ?_); focus exact xaC) | (with_reducible intro hc; (try simp only [capsP, and_true] at hc); (try exact xfC)) | ((fail_if_success (with_reducible first | refine xgon ?_ | intro _)); (conv => whnf); (fail_if_success (fail_if_success (with_reducible first | refine xstp ?_ | refine Both.mk ?_ ?_ | refine xgon ?_ | intro _)))))
    · refine FinK.mk ⟨[0], _, _, ⟨rfl, rfl⟩, ?_⟩; (repeat' first | refine And.intro ?_ ?_ | exact xeC | fail)
      all_goals (first | exact decide_eq_true (by unfold rngP; omega) | exact decide_eq_false (by unfold rngP; omega) | exact (decide_eq_true (by unfold rngP; omega)).symm | exact (decide_eq_false (by unfold rngP; omega)).symm | exact decide_eq_decide.2 (by unfold rngP; omega))
    refine xcal (σ := []) (nl := []) (cwithin (x.to) (0) (7)) ?_
    rintro v h' ⟨rfl, rfl⟩ hcaps
    refine rH15pA0 ?_
    repeat' (first | (fail_if_success (with_reducible refine xstp ?_)); first | ((with_reducible refine And.intro (fun (hb : _ = true) => ?_) (fun (hb : _ = false) => ?_)) <;> replace hb := xnC hb <;> (try first | exact xfC | exact bff hb (by assumption) | exact bff (by assumption) hb)) | (with_reducible refine Both.mk ?_ ?_) | ((with_reducible refine And.intro ?_ ?_); focus exact xoC) | ((with_reducible refine Or.inl ⟨?_, ?_, ?_⟩); (focus rfl); focus exact xaC) | ((with_reducible refine xwB ?_ ?_); focus exact xaC) | ((with_reducible refine xwC ?_ ?_); focus exact xaC) | ((with_reducible refine xwD ?_ ?_); focus exact xaC) | ((with_reducible refine xwE ?_ ?_); focus exact xaC) | (with_reducible intro hc; (try simp only [capsP, and_true] at hc); (try exact xfC)) | ((fail_if_success (with_reducible first | refine xgon ?_ | intro _)); (conv => whnf); (fail_if_success (fail_if_success (with_reducible first | refine xstp ?_ | refine Both.mk ?_ ?_ | refine xgon ?_ | intro _)))))
    · refine FinK.mk ⟨[0], _, _, ⟨rfl, rfl⟩, ?_⟩; (repeat' first | refine And.intro ?_ ?_ | exact xeC | fail)
      all_goals (first | exact decide_eq_true (by unfold rngP; omega) | exact decide_eq_false (by unfold rngP; omega) | exact (decide_eq_true (by unfold rngP; omega)).symm | exact (decide_eq_false (by unfold rngP; omega)).symm | exact decide_eq_decide.2 (by unfold rngP; omega))
    refine xcal (σ := []) (nl := []) (cwithin (x.w) (0) (1073741824)) ?_
    rintro v h' ⟨rfl, rfl⟩ hcaps
    refine rH15pA0 ?_
    repeat' (first | (fail_if_success (with_reducible refine xstp ?_)); first | ((with_reducible refine And.intro (fun (hb : _ = true) => ?_) (fun (hb : _ = false) => ?_)) <;> replace hb := xnC hb <;> (try first | exact xfC | exact bff hb (by assumption) | exact bff (by assumption) hb)) | (with_reducible refine Both.mk ?_ ?_) | ((with_reducible refine And.intro ?_ ?_); focus exact xoC) | ((with_reducible refine Or.inl ⟨?_, ?_, ?_⟩); (focus rfl); focus exact xaC) | ((with_reducible refine xwB ?_ ?_); focus exact xaC) | ((with_reducible refine xwC ?_ ?_); focus exact xaC) | ((with_reducible refine xwD ?_ ?_); focus exact xaC) | ((with_reducible refine xwE ?_ ?_); focus exact xaC) | (with_reducible intro hc; (try simp only [capsP, and_true] at hc); (try exact xfC)) | ((fail_if_success (with_reducible first | refine xgon ?_ | intro _)); (conv => whnf); (fail_if_success (fail_if_success (with_reducible first | refine xstp ?_ | refine Both.mk ?_ ?_ | refine xgon ?_ | intro _)))))
    · refine FinK.mk ⟨[0], _, _, ⟨rfl, rfl⟩, ?_⟩; (repeat' first | refine And.intro ?_ ?_ | exact xeC | fail)
      all_goals (first | exact decide_eq_true (by unfold rngP; omega) | exact decide_eq_false (by unfold rngP; omega) | exact (decide_eq_true (by unfold rngP; omega)).symm | exact (decide_eq_false (by unfold rngP; omega)).symm | exact decide_eq_decide.2 (by unfold rngP; omega))
    refine xcal (σ := []) (nl := []) (cwithin (x.r) (0) (1073741824)) ?_
    rintro v h' ⟨rfl, rfl⟩ hcaps
    refine rH15pA0 ?_
    repeat' (first | (fail_if_success (with_reducible refine xstp ?_)); first | ((with_reducible refine And.intro (fun (hb : _ = true) => ?_) (fun (hb : _ = false) => ?_)) <;> replace hb := xnC hb <;> (try first | exact xfC | exact bff hb (by assumption) | exact bff (by assumption) hb)) | (with_reducible refine Both.mk ?_ ?_) | ((with_reducible refine And.intro ?_ ?_); focus exact xoC) | ((with_reducible refine Or.inl ⟨?_, ?_, ?_⟩); (focus rfl); focus exact xaC) | ((with_reducible refine xwB ?_ ?_); focus exact xaC) | ((with_reducible refine xwC ?_ ?_); focus exact xaC) | ((with_reducible refine xwD ?_ ?_); focus exact xaC) | ((with_reducible refine xwE ?_ ?_); focus exact xaC) | (with_reducible intro hc; (try simp only [capsP, and_true] at hc); (try exact xfC)) | ((fail_if_success (with_reducible first | refine xgon ?_ | intro _)); (conv => whnf); (fail_if_success (fail_if_success (with_reducible first | refine xstp ?_ | refine Both.mk ?_ ?_ | refine xgon ?_ | intro _)))))
    · refine FinK.mk ⟨[0], _, _, ⟨rfl, rfl⟩, ?_⟩; (repeat' first | refine And.intro ?_ ?_ | exact xeC | fail)
      all_goals (first | exact decide_eq_true (by unfold rngP; omega) | exact decide_eq_false (by unfold rngP; omega) | exact (decide_eq_true (by unfold rngP; omega)).symm | exact (decide_eq_false (by unfold rngP; omega)).symm | exact decide_eq_decide.2 (by unfold rngP; omega))
    refine xcal (σ := []) (nl := []) (cwithin (x.q) (0) (1099511627776)) ?_
    rintro v h' ⟨rfl, rfl⟩ hcaps
    refine rH15pA0 ?_
    repeat' (first | (fail_if_success (with_reducible refine xstp ?_)); first | ((with_reducible refine And.intro (fun (hb : _ = true) => ?_) (fun (hb : _ = false) => ?_)) <;> replace hb := xnC hb <;> (try first | exact xfC | exact bff hb (by assumption) | exact bff (by assumption) hb)) | (with_reducible refine Both.mk ?_ ?_) | ((with_reducible refine And.intro ?_ ?_); focus exact xoC) | ((with_reducible refine Or.inl ⟨?_, ?_, ?_⟩); (focus rfl); focus exact xaC) | ((with_reducible refine xwB ?_ ?_); focus exact xaC) | ((with_reducible refine xwC ?_ ?_); focus exact xaC) | ((with_reducible refine xwD ?_ ?_); focus exact xaC) | ((with_reducible refine xwE ?_ ?_); focus exact xaC) | (with_reducible intro hc; (try simp only [capsP, and_true] at hc); (try exact xfC)) | ((fail_if_success (with_reducible first | refine xgon ?_ | intro _)); (conv => whnf); (fail_if_success (fail_if_success (with_reducible first | refine xstp ?_ | refine Both.mk ?_ ?_ | refine xgon ?_ | intro _)))))
    · refine FinK.mk ⟨[0], _, _, ⟨rfl, rfl⟩, ?_⟩; (repeat' first | refine And.intro ?_ ?_ | exact xeC | fail)
      all_goals (first | exact decide_eq_true (by unfold rngP; omega) | exact decide_eq_false (by unfold rngP; omega) | exact (decide_eq_true (by unfold rngP; omega)).symm | exact (decide_eq_false (by unfold rngP; omega)).symm | exact decide_eq_decide.2 (by unfold rngP; omega))
    refine xcal (σ := []) (nl := []) (cwithin (x.at') (0) (1099511627776)) ?_
    rintro v h' ⟨rfl, rfl⟩ hcaps
    refine rH15pA0 ?_
    repeat' (first | (fail_if_success (with_reducible refine xstp ?_)); first | ((with_reducible refine And.intro (fun (hb : _ = true) => ?_) (fun (hb : _ = false) => ?_)) <;> replace hb := xnC hb <;> (try first | exact xfC | exact bff hb (by assumption) | exact bff (by assumption) hb)) | (with_reducible refine Both.mk ?_ ?_) | ((with_reducible refine And.intro ?_ ?_); focus exact xoC) | ((with_reducible refine Or.inl ⟨?_, ?_, ?_⟩); (focus rfl); focus exact xaC) | ((with_reducible refine xwB ?_ ?_); focus exact xaC) | ((with_reducible refine xwC ?_ ?_); focus exact xaC) | ((with_reducible refine xwD ?_ ?_); focus exact xaC) | ((with_reducible refine xwE ?_ ?_); focus exact xaC) | (with_reducible intro hc; (try simp only [capsP, and_true] at hc); (try exact xfC)) | ((fail_if_success (with_reducible first | refine xgon ?_ | intro _)); (conv => whnf); (fail_if_success (fail_if_success (with_reducible first | refine xstp ?_ | refine Both.mk ?_ ?_ | refine xgon ?_ | intro _)))))
    refine FinK.mk ⟨[0], _, _, ⟨rfl, rfl⟩, ?_⟩; (repeat' first | refine And.intro ?_ ?_ | exact xeC | fail)
    all_goals (first | exact decide_eq_true (by unfold rngP; omega) | exact decide_eq_false (by unfold rngP; omega) | exact (decide_eq_true (by unfold rngP; omega)).symm | exact (decide_eq_false (by unfold rngP; omega)).symm | exact decide_eq_decide.2 (by unfold rngP; omega))
  · skip
    refine xcal (σ := []) (nl := []) (cwithin (x.fr) (0) (7)) ?_
    rintro v h' ⟨rfl, rfl⟩ hcaps
    refine rH15pA0 ?_
    repeat' (first | (fail_if_success (with_reducible refine xstp ?_)); first | ((with_reducible refine And.intro (fun (hb : _ = true) => ?_) (fun (hb : _ = false) => ?_)) <;> replace hb := xnC hb <;> (try first | exact xfC | exact bff hb (by assumption) | exact bff (by assumption) hb)) | (with_reducible refine Both.mk ?_ ?_) | ((with_reducible refine And.intro ?_ ?_); focus exact xoC) | ((with_reducible refine Or.inl ⟨?_, ?_, ?_⟩); (focus rfl); focus exact xaC) | ((with_reducible refine xwB ?_ ?_); focus exact xaC) | ((with_reducible refine xwC ?_ ?_); focus exact xaC) | ((with_reducible refine xwD ?_ ?_); focus exact xaC) | ((with_reducible refine xwE ?_ ?_); focus exact xaC) | (with_reducible intro hc; (try simp only [capsP, and_true] at hc); (try exact xfC)) | ((fail_if_success (with_reducible first | refine xgon ?_ | intro _)); (conv => whnf); (fail_if_success (fail_if_success (with_reducible first | refine xstp ?_ | refine Both.mk ?_ ?_ | refine xgon ?_ | intro _)))))
    · refine FinK.mk ⟨[0], _, _, ⟨rfl, rfl⟩, ?_⟩; (repeat' first | refine And.intro ?_ ?_ | exact xeC | fail)
      all_goals (first | exact decide_eq_true (by unfold rngP; omega) | exact decide_eq_false (by unfold rngP; omega) | exact (decide_eq_true (by unfold rngP; omega)).symm | exact (decide_eq_false (by unfold rngP; omega)).symm | exact decide_eq_decide.2 (by unfold rngP; omega))
    refine xcal (σ := []) (nl := []) (cwithin (x.to) (0) (7)) ?_
    rintro v h' ⟨rfl, rfl⟩ hcaps
    refine rH15pA0 ?_
    repeat' (first | (fail_if_success (with_reducible refine xstp ?_)); first | ((with_reducible refine And.intro (fun (hb : _ = true) => ?_) (fun (hb : _ = false) => ?_)) <;> replace hb := xnC hb <;> (try first | exact xfC | exact bff hb (by assumption) | exact bff (by assumption) hb)) | (with_reducible refine Both.mk ?_ ?_) | ((with_reducible refine And.intro ?_ ?_); focus exact xoC) | ((with_reducible refine Or.inl ⟨?_, ?_, ?_⟩); (focus rfl); focus exact xaC) | ((with_reducible refine xwB ?_ ?_); focus exact xaC) | ((with_reducible refine xwC ?_ ?_); focus exact xaC) | ((with_reducible refine xwD ?_ ?_); focus exact xaC) | ((with_reducible refine xwE ?_ ?_); focus exact xaC) | (with_reducible intro hc; (try simp only [capsP, and_true] at hc); (try exact xfC)) | ((fail_if_success (with_reducible first | refine xgon ?_ | intro _)); (conv => whnf); (fail_if_success (fail_if_success (with_reducible first | refine xstp ?_ | refine Both.mk ?_ ?_ | refine xgon ?_ | intro _)))))
    · refine FinK.mk ⟨[0], _, _, ⟨rfl, rfl⟩, ?_⟩; (repeat' first | refine And.intro ?_ ?_ | exact xeC | fail)
      all_goals (first | exact decide_eq_true (by unfold rngP; omega) | exact decide_eq_false (by unfold rngP; omega) | exact (decide_eq_true (by unfold rngP; omega)).symm | exact (decide_eq_false (by unfold rngP; omega)).symm | exact decide_eq_decide.2 (by unfold rngP; omega))
    refine xcal (σ := []) (nl := []) (cwithin (x.w) (1) (1073741824)) ?_
    rintro v h' ⟨rfl, rfl⟩ hcaps
    refine rH15pA0 ?_
    repeat' (first | (fail_if_success (with_reducible refine xstp ?_)); first | ((with_reducible refine And.intro (fun (hb : _ = true) => ?_) (fun (hb : _ = false) => ?_)) <;> replace hb := xnC hb <;> (try first | exact xfC | exact bff hb (by assumption) | exact bff (by assumption) hb)) | (with_reducible refine Both.mk ?_ ?_) | ((with_reducible refine And.intro ?_ ?_); focus exact xoC) | ((with_reducible refine Or.inl ⟨?_, ?_, ?_⟩); (focus rfl); focus exact xaC) | ((with_reducible refine xwB ?_ ?_); focus exact xaC) | ((with_reducible refine xwC ?_ ?_); focus exact xaC) | ((with_reducible refine xwD ?_ ?_); focus exact xaC) | ((with_reducible refine xwE ?_ ?_); focus exact xaC) | (with_reducible intro hc; (try simp only [capsP, and_true] at hc); (try exact xfC)) | ((fail_if_success (with_reducible first | refine xgon ?_ | intro _)); (conv => whnf); (fail_if_success (fail_if_success (with_reducible first | refine xstp ?_ | refine Both.mk ?_ ?_ | refine xgon ?_ | intro _)))))
    · refine FinK.mk ⟨[0], _, _, ⟨rfl, rfl⟩, ?_⟩; (repeat' first | refine And.intro ?_ ?_ | exact xeC | fail)
      all_goals (first | exact decide_eq_true (by unfold rngP; omega) | exact decide_eq_false (by unfold rngP; omega) | exact (decide_eq_true (by unfold rngP; omega)).symm | exact (decide_eq_false (by unfold rngP; omega)).symm | exact decide_eq_decide.2 (by unfold rngP; omega))
    refine xcal (σ := []) (nl := []) (cwithin (x.r) (1) (1073741824)) ?_
    rintro v h' ⟨rfl, rfl⟩ hcaps
    refine rH15pA0 ?_
    repeat' (first | (fail_if_success (with_reducible refine xstp ?_)); first | ((with_reducible refine And.intro (fun (hb : _ = true) => ?_) (fun (hb : _ = false) => ?_)) <;> replace hb := xnC hb <;> (try first | exact xfC | exact bff hb (by assumption) | exact bff (by assumption) hb)) | (with_reducible refine Both.mk ?_ ?_) | ((with_reducible refine And.intro ?_ ?_); focus exact xoC) | ((with_reducible refine Or.inl ⟨?_, ?_, ?_⟩); (focus rfl); focus exact xaC) | ((with_reducible refine xwB ?_ ?_); focus exact xaC) | ((with_reducible refine xwC ?_ ?_); focus exact xaC) | ((with_reducible refine xwD ?_ ?_); focus exact xaC) | ((with_reducible refine xwE ?_ ?_); focus exact xaC) | (with_reducible intro hc; (try simp only [capsP, and_true] at hc); (try exact xfC)) | ((fail_if_success (with_reducible first | refine xgon ?_ | intro _)); (conv => whnf); (fail_if_success (fail_if_success (with_reducible first | refine xstp ?_ | refine Both.mk ?_ ?_ | refine xgon ?_ | intro _)))))
    · refine FinK.mk ⟨[0], _, _, ⟨rfl, rfl⟩, ?_⟩; (repeat' first | refine And.intro ?_ ?_ | exact xeC | fail)
      all_goals (first | exact decide_eq_true (by unfold rngP; omega) | exact decide_eq_false (by unfold rngP; omega) | exact (decide_eq_true (by unfold rngP; omega)).symm | exact (decide_eq_false (by unfold rngP; omega)).symm | exact decide_eq_decide.2 (by unfold rngP; omega))
    refine xcal (σ := []) (nl := []) (cwithin (x.q) (0) (1)) ?_
    rintro v h' ⟨rfl, rfl⟩ hcaps
    refine rH15pA0 ?_
    repeat' (first | (fail_if_success (with_reducible refine xstp ?_)); first | ((with_reducible refine And.intro (fun (hb : _ = true) => ?_) (fun (hb : _ = false) => ?_)) <;> replace hb := xnC hb <;> (try first | exact xfC | exact bff hb (by assumption) | exact bff (by assumption) hb)) | (with_reducible refine Both.mk ?_ ?_) | ((with_reducible refine And.intro ?_ ?_); focus exact xoC) | ((with_reducible refine Or.inl ⟨?_, ?_, ?_⟩); (focus rfl); focus exact xaC) | ((with_reducible refine xwB ?_ ?_); focus exact xaC) | ((with_reducible refine xwC ?_ ?_); focus exact xaC) | ((with_reducible refine xwD ?_ ?_); focus exact xaC) | ((with_reducible refine xwE ?_ ?_); focus exact xaC) | (with_reducible intro hc; (try simp only [capsP, and_true] at hc); (try exact xfC)) | ((fail_if_success (with_reducible first | refine xgon ?_ | intro _)); (conv => whnf); (fail_if_success (fail_if_success (with_reducible first | refine xstp ?_ | refine Both.mk ?_ ?_ | refine xgon ?_ | intro _)))))
    · refine FinK.mk ⟨[0], _, _, ⟨rfl, rfl⟩, ?_⟩; (repeat' first | refine And.intro ?_ ?_ | exact xeC | fail)
      all_goals (first | exact decide_eq_true (by unfold rngP; omega) | exact decide_eq_false (by unfold rngP; omega) | exact (decide_eq_true (by unfold rngP; omega)).symm | exact (decide_eq_false (by unfold rngP; omega)).symm | exact decide_eq_decide.2 (by unfold rngP; omega))
    refine xcal (σ := []) (nl := []) (cwithin (x.f) (1) (1099511627776)) ?_
    rintro v h' ⟨rfl, rfl⟩ hcaps
    refine rH15pA0 ?_
    repeat' (first | (fail_if_success (with_reducible refine xstp ?_)); first | ((with_reducible refine And.intro (fun (hb : _ = true) => ?_) (fun (hb : _ = false) => ?_)) <;> replace hb := xnC hb <;> (try first | exact xfC | exact bff hb (by assumption) | exact bff (by assumption) hb)) | (with_reducible refine Both.mk ?_ ?_) | ((with_reducible refine And.intro ?_ ?_); focus exact xoC) | ((with_reducible refine Or.inl ⟨?_, ?_, ?_⟩); (focus rfl); focus exact xaC) | ((with_reducible refine xwB ?_ ?_); focus exact xaC) | ((with_reducible refine xwC ?_ ?_); focus exact xaC) | ((with_reducible refine xwD ?_ ?_); focus exact xaC) | ((with_reducible refine xwE ?_ ?_); focus exact xaC) | (with_reducible intro hc; (try simp only [capsP, and_true] at hc); (try exact xfC)) | ((fail_if_success (with_reducible first | refine xgon ?_ | intro _)); (conv => whnf); (fail_if_success (fail_if_success (with_reducible first | refine xstp ?_ | refine Both.mk ?_ ?_ | refine xgon ?_ | intro _)))))
    · refine FinK.mk ⟨[0], _, _, ⟨rfl, rfl⟩, ?_⟩; (repeat' first | refine And.intro ?_ ?_ | exact xeC | fail)
      all_goals (first | exact decide_eq_true (by unfold rngP; omega) | exact decide_eq_false (by unfold rngP; omega) | exact (decide_eq_true (by unfold rngP; omega)).symm | exact (decide_eq_false (by unfold rngP; omega)).symm | exact decide_eq_decide.2 (by unfold rngP; omega))
    refine xcal (σ := []) (nl := []) (cwithin (x.la) (0) (1099511627776)) ?_
    rintro v h' ⟨rfl, rfl⟩ hcaps
    refine rH15pA0 ?_
    repeat' (first | (fail_if_success (with_reducible refine xstp ?_)); first | ((with_reducible refine And.intro (fun (hb : _ = true) => ?_) (fun (hb : _ = false) => ?_)) <;> replace hb := xnC hb <;> (try first | exact xfC | exact bff hb (by assumption) | exact bff (by assumption) hb)) | (with_reducible refine Both.mk ?_ ?_) | ((with_reducible refine And.intro ?_ ?_); focus exact xoC) | ((with_reducible refine Or.inl ⟨?_, ?_, ?_⟩); (focus rfl); focus exact xaC) | ((with_reducible refine xwB ?_ ?_); focus exact xaC) | ((with_reducible refine xwC ?_ ?_); focus exact xaC) | ((with_reducible refine xwD ?_ ?_); focus exact xaC) | ((with_reducible refine xwE ?_ ?_); focus exact xaC) | (with_reducible intro hc; (try simp only [capsP, and_true] at hc); (try exact xfC)) | ((fail_if_success (with_reducible first | refine xgon ?_ | intro _)); (conv => whnf); (fail_if_success (fail_if_success (with_reducible first | refine xstp ?_ | refine Both.mk ?_ ?_ | refine xgon ?_ | intro _)))))
    · refine FinK.mk ⟨[0], _, _, ⟨rfl, rfl⟩, ?_⟩; (repeat' first | refine And.intro ?_ ?_ | exact xeC | fail)
      all_goals (first | exact decide_eq_true (by unfold rngP; omega) | exact decide_eq_false (by unfold rngP; omega) | exact (decide_eq_true (by unfold rngP; omega)).symm | exact (decide_eq_false (by unfold rngP; omega)).symm | exact decide_eq_decide.2 (by unfold rngP; omega))
    refine xcal (σ := []) (nl := []) (cwithin (x.at') (0) (1099511627776)) ?_
    rintro v h' ⟨rfl, rfl⟩ hcaps
    refine rH15pA0 ?_
    repeat' (first | (fail_if_success (with_reducible refine xstp ?_)); first | ((with_reducible refine And.intro (fun (hb : _ = true) => ?_) (fun (hb : _ = false) => ?_)) <;> replace hb := xnC hb <;> (try first | exact xfC | exact bff hb (by assumption) | exact bff (by assumption) hb)) | (with_reducible refine Both.mk ?_ ?_) | ((with_reducible refine And.intro ?_ ?_); focus exact xoC) | ((with_reducible refine Or.inl ⟨?_, ?_, ?_⟩); (focus rfl); focus exact xaC) | ((with_reducible refine xwB ?_ ?_); focus exact xaC) | ((with_reducible refine xwC ?_ ?_); focus exact xaC) | ((with_reducible refine xwD ?_ ?_); focus exact xaC) | ((with_reducible refine xwE ?_ ?_); focus exact xaC) | (with_reducible intro hc; (try simp only [capsP, and_true] at hc); (try exact xfC)) | ((fail_if_success (with_reducible first | refine xgon ?_ | intro _)); (conv => whnf); (fail_if_success (fail_if_success (with_reducible first | refine xstp ?_ | refine Both.mk ?_ ?_ | refine xgon ?_ | intro _)))))
    refine FinK.mk ⟨[0], _, _, ⟨rfl, rfl⟩, ?_⟩; (repeat' first | refine And.intro ?_ ?_ | exact xeC | fail)
    all_goals (first | exact decide_eq_true (by unfold rngP; omega) | exact decide_eq_false (by unfold rngP; omega) | exact (decide_eq_true (by unfold rngP; omega)).symm | exact (decide_eq_false (by unfold rngP; omega)).symm | exact decide_eq_decide.2 (by unfold rngP; omega))
  · skip
    refine xcal (σ := []) (nl := []) (cwithin (x.fr) (0) (7)) ?_
    rintro v h' ⟨rfl, rfl⟩ hcaps
    refine rH15pA0 ?_
    repeat' (first | (fail_if_success (with_reducible refine xstp ?_)); first | ((with_reducible refine And.intro (fun (hb : _ = true) => ?_) (fun (hb : _ = false) => ?_)) <;> replace hb := xnC hb <;> (try first | exact xfC | exact bff hb (by assumption) | exact bff (by assumption) hb)) | (with_reducible refine Both.mk ?_ ?_) | ((with_reducible refine And.intro ?_ ?_); focus exact xoC) | ((with_reducible refine Or.inl ⟨?_, ?_, ?_⟩); (focus rfl); focus exact xaC) | ((with_reducible refine xwB ?_ ?_); focus exact xaC) | ((with_reducible refine xwC ?_ ?_); focus exact xaC) | ((with_reducible refine xwD ?_ ?_); focus exact xaC) | ((with_reducible refine xwE ?_ ?_); focus exact xaC) | (with_reducible intro hc; (try simp only [capsP, and_true] at hc); (try exact xfC)) | ((fail_if_success (with_reducible first | refine xgon ?_ | intro _)); (conv => whnf); (fail_if_success (fail_if_success (with_reducible first | refine xstp ?_ | refine Both.mk ?_ ?_ | refine xgon ?_ | intro _)))))
    · refine FinK.mk ⟨[0], _, _, ⟨rfl, rfl⟩, ?_⟩; (repeat' first | refine And.intro ?_ ?_ | exact xeC | fail)
      all_goals (first | exact decide_eq_true (by unfold rngP; omega) | exact decide_eq_false (by unfold rngP; omega) | exact (decide_eq_true (by unfold rngP; omega)).symm | exact (decide_eq_false (by unfold rngP; omega)).symm | exact decide_eq_decide.2 (by unfold rngP; omega))
    refine xcal (σ := []) (nl := []) (cwithin (x.to) (0) (7)) ?_
    rintro v h' ⟨rfl, rfl⟩ hcaps
    refine rH15pA0 ?_
    repeat' (first | (fail_if_success (with_reducible refine xstp ?_)); first | ((with_reducible refine And.intro (fun (hb : _ = true) => ?_) (fun (hb : _ = false) => ?_)) <;> replace hb := xnC hb <;> (try first | exact xfC | exact bff hb (by assumption) | exact bff (by assumption) hb)) | (with_reducible refine Both.mk ?_ ?_) | ((with_reducible refine And.intro ?_ ?_); focus exact xoC) | ((with_reducible refine Or.inl ⟨?_, ?_, ?_⟩); (focus rfl); focus exact xaC) | ((with_reducible refine xwB ?_ ?_); focus exact xaC) | ((with_reducible refine xwC ?_ ?_); focus exact xaC) | ((with_reducible refine xwD ?_ ?_); focus exact xaC) | ((with_reducible refine xwE ?_ ?_); focus exact xaC) | (with_reducible intro hc; (try simp only [capsP, and_true] at hc); (try exact xfC)) | ((fail_if_success (with_reducible first | refine xgon ?_ | intro _)); (conv => whnf); (fail_if_success (fail_if_success (with_reducible first | refine xstp ?_ | refine Both.mk ?_ ?_ | refine xgon ?_ | intro _)))))
    · refine FinK.mk ⟨[0], _, _, ⟨rfl, rfl⟩, ?_⟩; (repeat' first | refine And.intro ?_ ?_ | exact xeC | fail)
      all_goals (first | exact decide_eq_true (by unfold rngP; omega) | exact decide_eq_false (by unfold rngP; omega) | exact (decide_eq_true (by unfold rngP; omega)).symm | exact (decide_eq_false (by unfold rngP; omega)).symm | exact decide_eq_decide.2 (by unfold rngP; omega))
    refine xcal (σ := []) (nl := []) (cwithin (x.w) (1) (1073741824)) ?_
    rintro v h' ⟨rfl, rfl⟩ hcaps
    refine rH15pA0 ?_
    repeat' (first | (fail_if_success (with_reducible refine xstp ?_)); first | ((with_reducible refine And.intro (fun (hb : _ = true) => ?_) (fun (hb : _ = false) => ?_)) <;> replace hb := xnC hb <;> (try first | exact xfC | exact bff hb (by assumption) | exact bff (by assumption) hb)) | (with_reducible refine Both.mk ?_ ?_) | ((with_reducible refine And.intro ?_ ?_); focus exact xoC) | ((with_reducible refine Or.inl ⟨?_, ?_, ?_⟩); (focus rfl); focus exact xaC) | ((with_reducible refine xwB ?_ ?_); focus exact xaC) | ((with_reducible refine xwC ?_ ?_); focus exact xaC) | ((with_reducible refine xwD ?_ ?_); focus exact xaC) | ((with_reducible refine xwE ?_ ?_); focus exact xaC) | (with_reducible intro hc; (try simp only [capsP, and_true] at hc); (try exact xfC)) | ((fail_if_success (with_reducible first | refine xgon ?_ | intro _)); (conv => whnf); (fail_if_success (fail_if_success (with_reducible first | refine xstp ?_ | refine Both.mk ?_ ?_ | refine xgon ?_ | intro _)))))
    · refine FinK.mk ⟨[0], _, _, ⟨rfl, rfl⟩, ?_⟩; (repeat' first | refine And.intro ?_ ?_ | exact xeC | fail)
      all_goals (first | exact decide_eq_true (by unfold rngP; omega) | exact decide_eq_false (by unfold rngP; omega) | exact (decide_eq_true (by unfold rngP; omega)).symm | exact (decide_eq_false (by unfold rngP; omega)).symm | exact decide_eq_decide.2 (by unfold rngP; omega))
    refine xcal (σ := []) (nl := []) (cwithin (x.r) (1) (1073741824)) ?_
    rintro v h' ⟨rfl, rfl⟩ hcaps
    refine rH15pA0 ?_
    repeat' (first | (fail_if_success (with_reducible refine xstp ?_)); first | ((with_reducible refine And.intro (fun (hb : _ = true) => ?_) (fun (hb : _ = false) => ?_)) <;> replace hb := xnC hb <;> (try first | exact xfC | exact bff hb (by assumption) | exact bff (by assumption) hb)) | (with_reducible refine Both.mk ?_ ?_) | ((with_reducible refine And.intro ?_ ?_); focus exact xoC) | ((with_reducible refine Or.inl ⟨?_, ?_, ?_⟩); (focus rfl); focus exact xaC) | ((with_reducible refine xwB ?_ ?_); focus exact xaC) | ((with_reducible refine xwC ?_ ?_); focus exact xaC) | ((with_reducible refine xwD ?_ ?_); focus exact xaC) | ((with_reducible refine xwE ?_ ?_); focus exact xaC) | (with_reducible intro hc; (try simp only [capsP, and_true] at hc); (try exact xfC)) | ((fail_if_success (with_reducible first | refine xgon ?_ | intro _)); (conv => whnf); (fail_if_success (fail_if_success (with_reducible first | refine xstp ?_ | refine Both.mk ?_ ?_ | refine xgon ?_ | intro _)))))
    · refine FinK.mk ⟨[0], _, _, ⟨rfl, rfl⟩, ?_⟩; (repeat' first | refine And.intro ?_ ?_ | exact xeC | fail)
      all_goals (first | exact decide_eq_true (by unfold rngP; omega) | exact decide_eq_false (by unfold rngP; omega) | exact (decide_eq_true (by unfold rngP; omega)).symm | exact (decide_eq_false (by unfold rngP; omega)).symm | exact decide_eq_decide.2 (by unfold rngP; omega))
    · skip
      refine xcal (σ := []) (nl := []) (cwithin (x.q) (1) (1099511627776)) ?_
      rintro v h' ⟨rfl, rfl⟩ hcaps
      refine rH15pA0 ?_
      repeat' (first | (fail_if_success (with_reducible refine xstp ?_)); first | ((with_reducible refine And.intro (fun (hb : _ = true) => ?_) (fun (hb : _ = false) => ?_)) <;> replace hb := xnC hb <;> (try first | exact xfC | exact bff hb (by assumption) | exact bff (by assumption) hb)) | (with_reducible refine Both.mk ?_ ?_) | ((with_reducible refine And.intro ?_ ?_); focus exact xoC) | ((with_reducible refine Or.inl ⟨?_, ?_, ?_⟩); (focus rfl); focus exact xaC) | ((with_reducible refine xwB ?_ ?_); focus exact xaC) | ((with_reducible refine xwC ?_ ?_); focus exact xaC) | ((with_reducible refine xwD ?_ ?_); focus exact xaC) | ((with_reducible refine xwE ?_ ?_); focus exact xaC) | (with_reducible intro hc; (try simp only [capsP, and_true] at hc); (try exact xfC)) | ((fail_if_success (with_reducible first | refine xgon ?_ | intro _)); (conv => whnf); (fail_if_success (fail_if_success (with_reducible first | refine xstp ?_ | refine Both.mk ?_ ?_ | refine xgon ?_ | intro _)))))
      · refine FinK.mk ⟨[0], _, _, ⟨rfl, rfl⟩, ?_⟩; (repeat' first | refine And.intro ?_ ?_ | exact xeC | fail)
        all_goals (first | exact decide_eq_true (by unfold rngP; omega) | exact decide_eq_false (by unfold rngP; omega) | exact (decide_eq_true (by unfold rngP; omega)).symm | exact (decide_eq_false (by unfold rngP; omega)).symm | exact decide_eq_decide.2 (by unfold rngP; omega))
      refine xcal (σ := []) (nl := []) (cwithin (x.at') (0) (1099511627776)) ?_
      rintro v h' ⟨rfl, rfl⟩ hcaps
      refine rH15pA0 ?_
      repeat' (first | (fail_if_success (with_reducible refine xstp ?_)); first | ((with_reducible refine And.intro (fun (hb : _ = true) => ?_) (fun (hb : _ = false) => ?_)) <;> replace hb := xnC hb <;> (try first | exact xfC | exact bff hb (by assumption) | exact bff (by assumption) hb)) | (with_reducible refine Both.mk ?_ ?_) | ((with_reducible refine And.intro ?_ ?_); focus exact xoC) | ((with_reducible refine Or.inl ⟨?_, ?_, ?_⟩); (focus rfl); focus exact xaC) | ((with_reducible refine xwB ?_ ?_); focus exact xaC) | ((with_reducible refine xwC ?_ ?_); focus exact xaC) | ((with_reducible refine xwD ?_ ?_); focus exact xaC) | ((with_reducible refine xwE ?_ ?_); focus exact xaC) | (with_reducible intro hc; (try simp only [capsP, and_true] at hc); (try exact xfC)) | ((fail_if_success (with_reducible first | refine xgon ?_ | intro _)); (conv => whnf); (fail_if_success (fail_if_success (with_reducible first | refine xstp ?_ | refine Both.mk ?_ ?_ | refine xgon ?_ | intro _)))))
      refine FinK.mk ⟨[0], _, _, ⟨rfl, rfl⟩, ?_⟩; (repeat' first | refine And.intro ?_ ?_ | exact xeC | fail)
      all_goals (first | exact decide_eq_true (by unfold rngP; omega) | exact decide_eq_false (by unfold rngP; omega) | exact (decide_eq_true (by unfold rngP; omega)).symm | exact (decide_eq_false (by unfold rngP; omega)).symm | exact decide_eq_decide.2 (by unfold rngP; omega))
    · skip
      refine xcal (σ := []) (nl := []) (cwithin (x.f) (1) (1099511627776)) ?_
      rintro v h' ⟨rfl, rfl⟩ hcaps
      refine rH15pA0 ?_
      repeat' (first | (fail_if_success (with_reducible refine xstp ?_)); first | ((with_reducible refine And.intro (fun (hb : _ = true) => ?_) (fun (hb : _ = false) => ?_)) <;> replace hb := xnC hb <;> (try first | exact xfC | exact bff hb (by assumption) | exact bff (by assumption) hb)) | (with_reducible refine Both.mk ?_ ?_) | ((with_reducible refine And.intro ?_ ?_); focus exact xoC) | ((with_reducible refine Or.inl ⟨?_, ?_, ?_⟩); (focus rfl); focus exact xaC) | ((with_reducible refine xwB ?_ ?_); focus exact xaC) | ((with_reducible refine xwC ?_ ?_); focus exact xaC) | ((with_reducible refine xwD ?_ ?_); focus exact xaC) | ((with_reducible refine xwE ?_ ?_); focus exact xaC) | (with_reducible intro hc; (try simp only [capsP, and_true] at hc); (try exact xfC)) | ((fail_if_success (with_reducible first | refine xgon ?_ | intro _)); (conv => whnf); (fail_if_success (fail_if_success (with_reducible first | refine xstp ?_ | refine Both.mk ?_ ?_ | refine xgon ?_ | intro _)))))
      · refine FinK.mk ⟨[0], _, _, ⟨rfl, rfl⟩, ?_⟩; (repeat' first | refine And.intro ?_ ?_ | exact xeC | fail)
        all_goals (first | exact decide_eq_true (by unfold rngP; omega) | exact decide_eq_false (by unfold rngP; omega) | exact (decide_eq_true (by unfold rngP; omega)).symm | exact (decide_eq_false (by unfold rngP; omega)).symm | exact decide_eq_decide.2 (by unfold rngP; omega))
      refine xcal (σ := []) (nl := []) (cwithin (x.la) (0) (1099511627776)) ?_
      rintro v h' ⟨rfl, rfl⟩ hcaps
      refine rH15pA0 ?_
      repeat' (first | (fail_if_success (with_reducible refine xstp ?_)); first | ((with_reducible refine And.intro (fun (hb : _ = true) => ?_) (fun (hb : _ = false) => ?_)) <;> replace hb := xnC hb <;> (try first | exact xfC | exact bff hb (by assumption) | exact bff (by assumption) hb)) | (with_reducible refine Both.mk ?_ ?_) | ((with_reducible refine And.intro ?_ ?_); focus exact xoC) | ((with_reducible refine Or.inl ⟨?_, ?_, ?_⟩); (focus rfl); focus exact xaC) | ((with_reducible refine xwB ?_ ?_); focus exact xaC) | ((with_reducible refine xwC ?_ ?_); focus exact xaC) | ((with_reducible refine xwD ?_ ?_); focus exact xaC) | ((with_reducible refine xwE ?_ ?_); focus exact xaC) | (with_reducible intro hc; (try simp only [capsP, and_true] at hc); (try exact xfC)) | ((fail_if_success (with_reducible first | refine xgon ?_ | intro _)); (conv => whnf); (fail_if_success (fail_if_success (with_reducible first | refine xstp ?_ | refine Both.mk ?_ ?_ | refine xgon ?_ | intro _)))))
      · refine FinK.mk ⟨[0], _, _, ⟨rfl, rfl⟩, ?_⟩; (repeat' first | refine And.intro ?_ ?_ | exact xeC | fail)
        all_goals (first | exact decide_eq_true (by unfold rngP; omega) | exact decide_eq_false (by unfold rngP; omega) | exact (decide_eq_true (by unfold rngP; omega)).symm | exact (decide_eq_false (by unfold rngP; omega)).symm | exact decide_eq_decide.2 (by unfold rngP; omega))
      refine xcal (σ := []) (nl := []) (cwithin (x.at') (0) (1099511627776)) ?_
      rintro v h' ⟨rfl, rfl⟩ hcaps
      refine rH15pA0 ?_
      repeat' (first | (fail_if_success (with_reducible refine xstp ?_)); first | ((with_reducible refine And.intro (fun (hb : _ = true) => ?_) (fun (hb : _ = false) => ?_)) <;> replace hb := xnC hb <;> (try first | exact xfC | exact bff hb (by assumption) | exact bff (by assumption) hb)) | (with_reducible refine Both.mk ?_ ?_) | ((with_reducible refine And.intro ?_ ?_); focus exact xoC) | ((with_reducible refine Or.inl ⟨?_, ?_, ?_⟩); (focus rfl); focus exact xaC) | ((with_reducible refine xwB ?_ ?_); focus exact xaC) | ((with_reducible refine xwC ?_ ?_); focus exact xaC) | ((with_reducible refine xwD ?_ ?_); focus exact xaC) | ((with_reducible refine xwE ?_ ?_); focus exact xaC) | (with_reducible intro hc; (try simp only [capsP, and_true] at hc); (try exact xfC)) | ((fail_if_success (with_reducible first | refine xgon ?_ | intro _)); (conv => whnf); (fail_if_success (fail_if_success (with_reducible first | refine xstp ?_ | refine Both.mk ?_ ?_ | refine xgon ?_ | intro _)))))
      refine FinK.mk ⟨[0], _, _, ⟨rfl, rfl⟩, ?_⟩; (repeat' first | refine And.intro ?_ ?_ | exact xeC | fail)
      all_goals (first | exact decide_eq_true (by unfold rngP; omega) | exact decide_eq_false (by unfold rngP; omega) | exact (decide_eq_true (by unfold rngP; omega)).symm | exact (decide_eq_false (by unfold rngP; omega)).symm | exact decide_eq_decide.2 (by unfold rngP; omega))

/-- What a kind does not use is not zero. -/
def unuP (x : Pk) : Prop := ((x.k = 2 ∨ x.k = 3) ∧ x.q ≠ 0) ∨ ((x.k = 1 ∨ x.k = 5) ∧ (x.f ≠ 0 ∨ x.la ≠ 0)) ∨ (x.k ≠ 3 ∧ 0 < x.m.length) ∨ ((x.k = 2 ∨ x.k = 3 ∨ x.k = 4) ∧ x.p ≠ [])
instance (x : Pk) : Decidable (unuP x) := by unfold unuP; infer_instance
/-- A missing number is out of range, or not above the one before. -/
def badA (x : Pk) (i : Nat) : Prop := x.m.getD i default < x.f ∨ x.la < x.m.getD i default ∨ (0 < i ∧ x.m.getD i default ≤ x.m.getD (i - 1) default)
instance (x : Pk) (i : Nat) : Decidable (badA x i) := by unfold badA; infer_instance
def badP (x : Pk) : Prop := ∃ i, i < x.m.length ∧ badA x i
instance (x : Pk) : Decidable (badP x) := by unfold badP; infer_instance
def chk (x : Pk) : Nat := if ¬ rngP x then 4 else if 2000 < x.p.length ∨ 32 < x.m.length then 3 else if unuP x then 2 else if badP x then 2 else 0

set_option maxRecDepth 10000 in
theorem cCheck (x : Pk) (wa : Bool) (c : Nat) (hp : x.p.length ≤ 1000000) (hm : x.m.length ≤ 1000000) :
    Ctr Try.prog 22 [.a (encP (.sl 0 0 1 0 x.m.length c) x)] [.one (ints wa x.m c)] fun v h => v = .c (.i .i64 (chk x : Nat)) ∧ h = [.one (ints wa x.m c)] := by
  refine Ctr.mk' tbv mixed Try.func22 rfl rfl rfl (fun _ _ => by kernel_rfl) (by kernel_rfl) (by rfl) (by rfl) (by (repeat' first | refine And.intro ?_ ?_ | exact xeC | fail)) ?_
  repeat' (first | (fail_if_success (with_reducible refine xstp ?_)); first | ((with_reducible refine And.intro (fun (hb : _ = true) => ?_) (fun (hb : _ = false) => ?_)) <;> replace hb := xnC hb <;> (try first | exact xfC | exact bff hb (by assumption) | exact bff (by assumption) hb)) | (with_reducible refine Both.mk ?_ ?_) | ((with_reducible refine And.intro ?_ ?_); focus exact xoC) | ((with_reducible refine Or.inl ⟨?_, ?_, ?_⟩); (focus rfl); focus exact xaC) | ((with_reducible refine xwB ?_ ?_); focus exact xaC) | ((with_reducible refine xwC ?_ ?_); focus exact xaC) | ((with_reducible refine xwD ?_ ?_); focus exact xaC) | ((with_reducible refine xwE ?_ ?_); focus exact xaC) | (with_reducible intro hc; (try simp only [capsP, and_true] at hc); (try exact xfC)) | ((fail_if_success (with_reducible first | refine xgon ?_ | intro _)); (conv => whnf); (fail_if_success (fail_if_success (with_reducible first | refine xstp ?_ | refine Both.mk ?_ ?_ | refine xgon ?_ | intro _)))))
  refine xcal (σ := []) (nl := []) (cuses x.k) ?_
  rintro v h' ⟨rfl, rfl⟩ hcaps
  refine rH15pA0 ?_
  repeat' (first | (fail_if_success (with_reducible refine xstp ?_)); first | ((with_reducible refine And.intro (fun (hb : _ = true) => ?_) (fun (hb : _ = false) => ?_)) <;> replace hb := xnC hb <;> (try first | exact xfC | exact bff hb (by assumption) | exact bff (by assumption) hb)) | (with_reducible refine Both.mk ?_ ?_) | ((with_reducible refine And.intro ?_ ?_); focus exact xoC) | ((with_reducible refine Or.inl ⟨?_, ?_, ?_⟩); (focus rfl); focus exact xaC) | ((with_reducible refine xwB ?_ ?_); focus exact xaC) | ((with_reducible refine xwC ?_ ?_); focus exact xaC) | ((with_reducible refine xwD ?_ ?_); focus exact xaC) | ((with_reducible refine xwE ?_ ?_); focus exact xaC) | (with_reducible intro hc; (try simp only [capsP, and_true] at hc); (try exact xfC)) | ((fail_if_success (with_reducible first | refine xgon ?_ | intro _)); (conv => whnf); (fail_if_success (fail_if_success (with_reducible first | refine xstp ?_ | refine Both.mk ?_ ?_ | refine xgon ?_ | intro _)))))
  · have hr : ¬ rngP x := fun h => hb h.1
    rw [show chk x = 4 from if_pos hr]
    refine FinK.mk ⟨[0], _, _, ⟨rfl, rfl⟩, ?_⟩; (repeat' first | refine And.intro ?_ ?_ | exact xeC | fail)
  have hz : (mkS x.p).size = x.p.length := rfl
  refine xcal (σ := [.name 0]) (nl := []) (cinRange x x.m.length c hb) ?_
  rintro v h' ⟨rfl, rfl⟩ hcaps
  refine rH15pA0 ?_
  repeat' (first | (fail_if_success (with_reducible refine xstp ?_)); first | ((with_reducible refine And.intro (fun (hb : _ = true) => ?_) (fun (hb : _ = false) => ?_)) <;> replace hb := xnC hb <;> (try first | exact xfC | exact bff hb (by assumption) | exact bff (by assumption) hb)) | (with_reducible refine Both.mk ?_ ?_) | ((with_reducible refine And.intro ?_ ?_); focus exact xoC) | ((with_reducible refine Or.inl ⟨?_, ?_, ?_⟩); (focus rfl); focus exact xaC) | ((with_reducible refine xwB ?_ ?_); focus exact xaC) | ((with_reducible refine xwC ?_ ?_); focus exact xaC) | ((with_reducible refine xwD ?_ ?_); focus exact xaC) | ((with_reducible refine xwE ?_ ?_); focus exact xaC) | (with_reducible intro hc; (try simp only [capsP, and_true] at hc); (try exact xfC)) | ((fail_if_success (with_reducible first | refine xgon ?_ | intro _)); (conv => whnf); (fail_if_success (fail_if_success (with_reducible first | refine xstp ?_ | refine Both.mk ?_ ?_ | refine xgon ?_ | intro _)))))
  · rw [show chk x = 4 from if_pos hb]
    refine FinK.mk ⟨[0], _, _, ⟨rfl, rfl⟩, ?_⟩; (repeat' first | refine And.intro ?_ ?_ | exact xeC | fail)
  · have hr : rngP x := by assumption
    rw [show chk x = 3 by unfold chk; rw [if_neg (by simpa using hr), if_pos (by omega)]]
    refine FinK.mk ⟨[0], _, _, ⟨rfl, rfl⟩, ?_⟩; (repeat' first | refine And.intro ?_ ?_ | exact xeC | fail)
  · have hr : rngP x := by assumption
    rw [show chk x = 3 by unfold chk; rw [if_neg (by simpa using hr), if_pos (by omega)]]
    refine FinK.mk ⟨[0], _, _, ⟨rfl, rfl⟩, ?_⟩; (repeat' first | refine And.intro ?_ ?_ | exact xeC | fail)
  all_goals try (
    have hr : rngP x := by assumption
    have hun : unuP x := by
      unfold unuP
      first
        | omega
        | (have hpn : x.p ≠ [] := fun h => by simp_all [mkS]
           simp only [hpn, ne_eq, not_false_eq_true, and_true]
           omega)
    rw [show chk x = 2 by unfold chk; rw [if_neg (by simpa using hr), if_neg (by omega), if_pos hun]]
    refine FinK.mk ⟨[0], _, _, ⟨rfl, rfl⟩, ?_⟩; (repeat' first | refine And.intro ?_ ?_ | exact xeC | fail))
  · skip
    have hr : rngP x := by assumption
    have hp0 : x.p = [] ∨ (x.k = 1 ∨ x.k = 5) := by
      first
        | (right; assumption)
        | (left; exact mkS_inj.1 (by assumption))
    have hun : ¬ unuP x := by
      unfold unuP
      rcases hp0 with h | h
      · simp only [h, ne_eq, not_true_eq_false, and_false, or_false]
        omega
      · omega
    refine LoopK.mk' {i : Nat // i ≤ x.m.length ∧ ∀ j, j < i → ¬ badA x j}
      (fun ⟨i, _⟩ => ⟨[(1, .c (.p 1 0 0)), (73, .c (.sl 0 0 1 0 x.m.length c)), (74, .c (.i .i64 x.m.length)), (75, .c (.i .i64 (i : Nat)))], [.one (ints wa x.m c), .one (.cells true (encP (.sl 0 0 1 0 x.m.length c) x))]⟩) (fun k => x.m.length - k.1)
      ⟨⟨0, Nat.zero_le _, by intro j h; omega⟩, [0, 1], ?_⟩ ?_
    · (repeat' first | refine And.intro ?_ ?_ | exact xeC | fail)
    rintro ⟨i, hi, hno⟩
    repeat' (first | (fail_if_success (with_reducible refine xstp ?_)); first | ((with_reducible refine And.intro (fun (hb : _ = true) => ?_) (fun (hb : _ = false) => ?_)) <;> replace hb := xnC hb <;> (try first | exact xfC | exact bff hb (by assumption) | exact bff (by assumption) hb)) | (with_reducible refine Both.mk ?_ ?_) | ((with_reducible refine And.intro ?_ ?_); focus exact xoC) | ((with_reducible refine Or.inl ⟨?_, ?_, ?_⟩); (focus rfl); focus exact xaC) | ((with_reducible refine xwB ?_ ?_); focus exact xaC) | ((with_reducible refine xwC ?_ ?_); focus exact xaC) | ((with_reducible refine xwD ?_ ?_); focus exact xaC) | ((with_reducible refine xwE ?_ ?_); focus exact xaC) | (with_reducible intro hc; (try simp only [capsP, and_true] at hc); (try exact xfC)) | ((fail_if_success (with_reducible first | refine xgon ?_ | intro _)); (conv => whnf); (fail_if_success (fail_if_success (with_reducible first | refine xstp ?_ | refine Both.mk ?_ ?_ | refine xgon ?_ | intro _)))))
    all_goals try simp only [show ((i : Int) - 1).toNat = i - 1 by omega] at *
    all_goals first
      | (have hbad : badA x i := by unfold badA; omega
         have hil : i < x.m.length := by omega
         rw [show chk x = 2 by unfold chk; rw [if_neg (by simpa using hr), if_neg (by omega), if_neg hun, if_pos ⟨i, hil, hbad⟩]]
         refine FinK.mk ⟨[0], _, _, ⟨rfl, rfl⟩, ?_⟩; (repeat' first | refine And.intro ?_ ?_ | exact xeC | fail)
         done)
      | (have hil : i < x.m.length := by omega
         have hbad : ¬ badA x i := by unfold badA; omega
         refine ⟨⟨i + 1, by omega, fun j hj => by
           rcases (by omega : j < i ∨ j = i) with h | rfl
           · exact hno j h
           · exact hbad⟩, [0, 1], by simp only; omega, ?_⟩
         (repeat' first | refine And.intro ?_ ?_ | exact xeC | fail)
         done)
      | (have hil : i = x.m.length := by omega
         rw [show chk x = 0 by unfold chk; rw [if_neg (by simpa using hr), if_neg (by omega), if_neg hun, if_neg (fun ⟨j, h1, h2⟩ => hno j (by omega) h2)]]
         refine FinK.mk ⟨[0], _, _, ⟨rfl, rfl⟩, ?_⟩; (repeat' first | refine And.intro ?_ ?_ | exact xeC | fail)
         done)
  · skip
    have hr : rngP x := by assumption
    have hp0 : x.p = [] ∨ (x.k = 1 ∨ x.k = 5) := by
      first
        | (right; assumption)
        | (left; exact mkS_inj.1 (by assumption))
    have hun : ¬ unuP x := by
      unfold unuP
      rcases hp0 with h | h
      · simp only [h, ne_eq, not_true_eq_false, and_false, or_false]
        omega
      · omega
    refine LoopK.mk' {i : Nat // i ≤ x.m.length ∧ ∀ j, j < i → ¬ badA x j}
      (fun ⟨i, _⟩ => ⟨[(1, .c (.p 1 0 0)), (73, .c (.sl 0 0 1 0 x.m.length c)), (74, .c (.i .i64 x.m.length)), (75, .c (.i .i64 (i : Nat)))], [.one (ints wa x.m c), .one (.cells true (encP (.sl 0 0 1 0 x.m.length c) x))]⟩) (fun k => x.m.length - k.1)
      ⟨⟨0, Nat.zero_le _, by intro j h; omega⟩, [0, 1], ?_⟩ ?_
    · (repeat' first | refine And.intro ?_ ?_ | exact xeC | fail)
    rintro ⟨i, hi, hno⟩
    repeat' (first | (fail_if_success (with_reducible refine xstp ?_)); first | ((with_reducible refine And.intro (fun (hb : _ = true) => ?_) (fun (hb : _ = false) => ?_)) <;> replace hb := xnC hb <;> (try first | exact xfC | exact bff hb (by assumption) | exact bff (by assumption) hb)) | (with_reducible refine Both.mk ?_ ?_) | ((with_reducible refine And.intro ?_ ?_); focus exact xoC) | ((with_reducible refine Or.inl ⟨?_, ?_, ?_⟩); (focus rfl); focus exact xaC) | ((with_reducible refine xwB ?_ ?_); focus exact xaC) | ((with_reducible refine xwC ?_ ?_); focus exact xaC) | ((with_reducible refine xwD ?_ ?_); focus exact xaC) | ((with_reducible refine xwE ?_ ?_); focus exact xaC) | (with_reducible intro hc; (try simp only [capsP, and_true] at hc); (try exact xfC)) | ((fail_if_success (with_reducible first | refine xgon ?_ | intro _)); (conv => whnf); (fail_if_success (fail_if_success (with_reducible first | refine xstp ?_ | refine Both.mk ?_ ?_ | refine xgon ?_ | intro _)))))
    all_goals try simp only [show ((i : Int) - 1).toNat = i - 1 by omega] at *
    all_goals first
      | (have hbad : badA x i := by unfold badA; omega
         have hil : i < x.m.length := by omega
         rw [show chk x = 2 by unfold chk; rw [if_neg (by simpa using hr), if_neg (by omega), if_neg hun, if_pos ⟨i, hil, hbad⟩]]
         refine FinK.mk ⟨[0], _, _, ⟨rfl, rfl⟩, ?_⟩; (repeat' first | refine And.intro ?_ ?_ | exact xeC | fail)
         done)
      | (have hil : i < x.m.length := by omega
         have hbad : ¬ badA x i := by unfold badA; omega
         refine ⟨⟨i + 1, by omega, fun j hj => by
           rcases (by omega : j < i ∨ j = i) with h | rfl
           · exact hno j h
           · exact hbad⟩, [0, 1], by simp only; omega, ?_⟩
         (repeat' first | refine And.intro ?_ ?_ | exact xeC | fail)
         done)
      | (have hil : i = x.m.length := by omega
         rw [show chk x = 0 by unfold chk; rw [if_neg (by simpa using hr), if_neg (by omega), if_neg hun, if_neg (fun ⟨j, h1, h2⟩ => hno j (by omega) h2)]]
         refine FinK.mk ⟨[0], _, _, ⟨rfl, rfl⟩, ?_⟩; (repeat' first | refine And.intro ?_ ?_ | exact xeC | fail)
         done)
  · skip
    have hr : rngP x := by assumption
    have hp0 : x.p = [] ∨ (x.k = 1 ∨ x.k = 5) := by
      first
        | (right; assumption)
        | (left; exact mkS_inj.1 (by assumption))
    have hun : ¬ unuP x := by
      unfold unuP
      rcases hp0 with h | h
      · simp only [h, ne_eq, not_true_eq_false, and_false, or_false]
        omega
      · omega
    refine LoopK.mk' {i : Nat // i ≤ x.m.length ∧ ∀ j, j < i → ¬ badA x j}
      (fun ⟨i, _⟩ => ⟨[(1, .c (.p 1 0 0)), (73, .c (.sl 0 0 1 0 x.m.length c)), (74, .c (.i .i64 x.m.length)), (75, .c (.i .i64 (i : Nat)))], [.one (ints wa x.m c), .one (.cells true (encP (.sl 0 0 1 0 x.m.length c) x))]⟩) (fun k => x.m.length - k.1)
      ⟨⟨0, Nat.zero_le _, by intro j h; omega⟩, [0, 1], ?_⟩ ?_
    · (repeat' first | refine And.intro ?_ ?_ | exact xeC | fail)
    rintro ⟨i, hi, hno⟩
    repeat' (first | (fail_if_success (with_reducible refine xstp ?_)); first | ((with_reducible refine And.intro (fun (hb : _ = true) => ?_) (fun (hb : _ = false) => ?_)) <;> replace hb := xnC hb <;> (try first | exact xfC | exact bff hb (by assumption) | exact bff (by assumption) hb)) | (with_reducible refine Both.mk ?_ ?_) | ((with_reducible refine And.intro ?_ ?_); focus exact xoC) | ((with_reducible refine Or.inl ⟨?_, ?_, ?_⟩); (focus rfl); focus exact xaC) | ((with_reducible refine xwB ?_ ?_); focus exact xaC) | ((with_reducible refine xwC ?_ ?_); focus exact xaC) | ((with_reducible refine xwD ?_ ?_); focus exact xaC) | ((with_reducible refine xwE ?_ ?_); focus exact xaC) | (with_reducible intro hc; (try simp only [capsP, and_true] at hc); (try exact xfC)) | ((fail_if_success (with_reducible first | refine xgon ?_ | intro _)); (conv => whnf); (fail_if_success (fail_if_success (with_reducible first | refine xstp ?_ | refine Both.mk ?_ ?_ | refine xgon ?_ | intro _)))))
    all_goals try simp only [show ((i : Int) - 1).toNat = i - 1 by omega] at *
    all_goals first
      | (have hbad : badA x i := by unfold badA; omega
         have hil : i < x.m.length := by omega
         rw [show chk x = 2 by unfold chk; rw [if_neg (by simpa using hr), if_neg (by omega), if_neg hun, if_pos ⟨i, hil, hbad⟩]]
         refine FinK.mk ⟨[0], _, _, ⟨rfl, rfl⟩, ?_⟩; (repeat' first | refine And.intro ?_ ?_ | exact xeC | fail)
         done)
      | (have hil : i < x.m.length := by omega
         have hbad : ¬ badA x i := by unfold badA; omega
         refine ⟨⟨i + 1, by omega, fun j hj => by
           rcases (by omega : j < i ∨ j = i) with h | rfl
           · exact hno j h
           · exact hbad⟩, [0, 1], by simp only; omega, ?_⟩
         (repeat' first | refine And.intro ?_ ?_ | exact xeC | fail)
         done)
      | (have hil : i = x.m.length := by omega
         rw [show chk x = 0 by unfold chk; rw [if_neg (by simpa using hr), if_neg (by omega), if_neg hun, if_neg (fun ⟨j, h1, h2⟩ => hno j (by omega) h2)]]
         refine FinK.mk ⟨[0], _, _, ⟨rfl, rfl⟩, ?_⟩; (repeat' first | refine And.intro ?_ ?_ | exact xeC | fail)
         done)
  · skip
    have hr : rngP x := by assumption
    have hp0 : x.p = [] ∨ (x.k = 1 ∨ x.k = 5) := by
      first
        | (right; assumption)
        | (left; exact mkS_inj.1 (by assumption))
    have hun : ¬ unuP x := by
      unfold unuP
      rcases hp0 with h | h
      · simp only [h, ne_eq, not_true_eq_false, and_false, or_false]
        omega
      · omega
    refine LoopK.mk' {i : Nat // i ≤ x.m.length ∧ ∀ j, j < i → ¬ badA x j}
      (fun ⟨i, _⟩ => ⟨[(1, .c (.p 1 0 0)), (73, .c (.sl 0 0 1 0 x.m.length c)), (74, .c (.i .i64 x.m.length)), (75, .c (.i .i64 (i : Nat)))], [.one (ints wa x.m c), .one (.cells true (encP (.sl 0 0 1 0 x.m.length c) x))]⟩) (fun k => x.m.length - k.1)
      ⟨⟨0, Nat.zero_le _, by intro j h; omega⟩, [0, 1], ?_⟩ ?_
    · (repeat' first | refine And.intro ?_ ?_ | exact xeC | fail)
    rintro ⟨i, hi, hno⟩
    repeat' (first | (fail_if_success (with_reducible refine xstp ?_)); first | ((with_reducible refine And.intro (fun (hb : _ = true) => ?_) (fun (hb : _ = false) => ?_)) <;> replace hb := xnC hb <;> (try first | exact xfC | exact bff hb (by assumption) | exact bff (by assumption) hb)) | (with_reducible refine Both.mk ?_ ?_) | ((with_reducible refine And.intro ?_ ?_); focus exact xoC) | ((with_reducible refine Or.inl ⟨?_, ?_, ?_⟩); (focus rfl); focus exact xaC) | ((with_reducible refine xwB ?_ ?_); focus exact xaC) | ((with_reducible refine xwC ?_ ?_); focus exact xaC) | ((with_reducible refine xwD ?_ ?_); focus exact xaC) | ((with_reducible refine xwE ?_ ?_); focus exact xaC) | (with_reducible intro hc; (try simp only [capsP, and_true] at hc); (try exact xfC)) | ((fail_if_success (with_reducible first | refine xgon ?_ | intro _)); (conv => whnf); (fail_if_success (fail_if_success (with_reducible first | refine xstp ?_ | refine Both.mk ?_ ?_ | refine xgon ?_ | intro _)))))
    all_goals try simp only [show ((i : Int) - 1).toNat = i - 1 by omega] at *
    all_goals first
      | (have hbad : badA x i := by unfold badA; omega
         have hil : i < x.m.length := by omega
         rw [show chk x = 2 by unfold chk; rw [if_neg (by simpa using hr), if_neg (by omega), if_neg hun, if_pos ⟨i, hil, hbad⟩]]
         refine FinK.mk ⟨[0], _, _, ⟨rfl, rfl⟩, ?_⟩; (repeat' first | refine And.intro ?_ ?_ | exact xeC | fail)
         done)
      | (have hil : i < x.m.length := by omega
         have hbad : ¬ badA x i := by unfold badA; omega
         refine ⟨⟨i + 1, by omega, fun j hj => by
           rcases (by omega : j < i ∨ j = i) with h | rfl
           · exact hno j h
           · exact hbad⟩, [0, 1], by simp only; omega, ?_⟩
         (repeat' first | refine And.intro ?_ ?_ | exact xeC | fail)
         done)
      | (have hil : i = x.m.length := by omega
         rw [show chk x = 0 by unfold chk; rw [if_neg (by simpa using hr), if_neg (by omega), if_neg hun, if_neg (fun ⟨j, h1, h2⟩ => hno j (by omega) h2)]]
         refine FinK.mk ⟨[0], _, _, ⟨rfl, rfl⟩, ?_⟩; (repeat' first | refine And.intro ?_ ?_ | exact xeC | fail)
         done)
end Go.Proofs.Ytgaodeffbgppmaa

namespace Go.Proofs.Ytgaodeffbgppmaa
open Go.X
set_option linter.unusedSimpArgs false
set_option linter.unusedVariables false
def letL (k : Int) : List UInt8 := if k = 1 ∨ k = 5 then [119, 114, 115, 97, 112] else if k = 2 then [119, 114, 102, 108, 97] else if k = 3 then [119, 114, 102, 108, 97, 109] else if k = 4 then [119, 114, 115, 102, 108, 97] else []
theorem letL_len (k : Int) : (letL k).length ≤ 6 := by
  unfold letL; repeat' split
  all_goals decide
theorem emptyP (l : List UInt8) : (mkS l = { data := #[] }) = (l = []) := propext (show mkS l = mkS [] ↔ _ from mkS_inj)
theorem letE (k : Int) : (mkS (letL k) = { data := #[] }) = ¬ (1 ≤ k ∧ k ≤ 5) := by
  apply propext
  refine (show mkS (letL k) = mkS [] ↔ _ from mkS_inj.trans ?_)
  unfold letL; repeat' split
  all_goals (constructor <;> intro h <;> first | omega | rfl | cases h)
def hasB (l : List UInt8) (c : UInt8) : Bool := l.contains c
theorem hasW (k : Int) : hasB (letL k) 119 = decide (1 ≤ k ∧ k ≤ 5) := by
  unfold letL; repeat' split
  all_goals first | exact (decide_eq_true (by omega)).symm | exact (decide_eq_false (by omega)).symm
theorem hasR (k : Int) : hasB (letL k) 114 = decide (1 ≤ k ∧ k ≤ 5) := by
  unfold letL; repeat' split
  all_goals first | exact (decide_eq_true (by omega)).symm | exact (decide_eq_false (by omega)).symm
theorem hasS (k : Int) : hasB (letL k) 115 = decide (k = 1 ∨ k = 4 ∨ k = 5) := by
  unfold letL; repeat' split
  all_goals first | exact (decide_eq_true (by omega)).symm | exact (decide_eq_false (by omega)).symm
theorem hasF (k : Int) : hasB (letL k) 102 = decide (k = 2 ∨ k = 3 ∨ k = 4) := by
  unfold letL; repeat' split
  all_goals first | exact (decide_eq_true (by omega)).symm | exact (decide_eq_false (by omega)).symm
theorem hasL (k : Int) : hasB (letL k) 108 = decide (k = 2 ∨ k = 3 ∨ k = 4) := by
  unfold letL; repeat' split
  all_goals first | exact (decide_eq_true (by omega)).symm | exact (decide_eq_false (by omega)).symm
theorem hasA (k : Int) : hasB (letL k) 97 = decide (1 ≤ k ∧ k ≤ 5) := by
  unfold letL; repeat' split
  all_goals first | exact (decide_eq_true (by omega)).symm | exact (decide_eq_false (by omega)).symm
theorem hasM (k : Int) : hasB (letL k) 109 = decide (k = 3) := by
  unfold letL; repeat' split
  all_goals first | exact (decide_eq_true (by omega)).symm | exact (decide_eq_false (by omega)).symm
theorem hasP (k : Int) : hasB (letL k) 112 = decide (k = 1 ∨ k = 5) := by
  unfold letL; repeat' split
  all_goals first | exact (decide_eq_true (by omega)).symm | exact (decide_eq_false (by omega)).symm

set_option maxRecDepth 10000 in
theorem cletters (k : Int) :
    Ctr Try.prog 46 [.c (.i .i64 k)] [] fun v h => v = .c (.s (mkS (letL k))) ∧ h = [] := by
  by_cases hk : 1 ≤ k ∧ k ≤ 5
  · rcases (by omega : k = 1 ∨ k = 2 ∨ k = 3 ∨ k = 4 ∨ k = 5) with rfl | rfl | rfl | rfl | rfl
    all_goals (
      refine Ctr.mk' tbv mixed Try.func46 rfl rfl rfl (fun _ _ => by kernel_rfl) (by kernel_rfl) (by rfl) (by rfl) (by (repeat' first | refine And.intro ?_ ?_ | exact xeC | fail)) ?_
      repeat' (first | (fail_if_success (with_reducible refine xstp ?_)); first | ((with_reducible refine And.intro (fun (hb : _ = true) => ?_) (fun (hb : _ = false) => ?_)) <;> replace hb := xnC hb <;> (try first | exact xfC | exact bff hb (by assumption) | exact bff (by assumption) hb)) | (with_reducible refine Both.mk ?_ ?_) | ((with_reducible refine And.intro ?_ ?_); focus exact xoC) | ((with_reducible refine Or.inl ⟨?_, ?_, ?_⟩); (focus rfl); focus exact xaC) | ((with_reducible refine xwB ?_ ?_); focus exact xaC) | ((with_reducible refine xwC ?_ ?_); focus exact xaC) | ((with_reducible refine xwD ?_ ?_); focus exact xaC) | ((with_reducible refine xwE ?_ ?_); focus exact xaC) | (with_reducible intro hc; (try simp only [capsP, and_true] at hc); (try exact xfC)) | ((fail_if_success (with_reducible first | refine xgon ?_ | intro _)); (conv => whnf); (fail_if_success (fail_if_success (with_reducible first | refine xstp ?_ | refine Both.mk ?_ ?_ | refine xgon ?_ | intro _)))))
      refine FinK.mk ⟨[], _, _, ⟨rfl, rfl⟩, ?_⟩; (repeat' first | refine And.intro ?_ ?_ | exact xeC | fail))
  · refine Ctr.mk' tbv mixed Try.func46 rfl rfl rfl (fun _ _ => by kernel_rfl) (by kernel_rfl) (by rfl) (by rfl) (by (repeat' first | refine And.intro ?_ ?_ | exact xeC | fail)) ?_
    repeat' (first | (fail_if_success (with_reducible refine xstp ?_)); first | ((with_reducible refine And.intro (fun (hb : _ = true) => ?_) (fun (hb : _ = false) => ?_)) <;> replace hb := xnC hb <;> (try first | exact xfC | exact bff hb (by assumption) | exact bff (by assumption) hb)) | (with_reducible refine Both.mk ?_ ?_) | ((with_reducible refine And.intro ?_ ?_); focus exact xoC) | ((with_reducible refine Or.inl ⟨?_, ?_, ?_⟩); (focus rfl); focus exact xaC) | ((with_reducible refine xwB ?_ ?_); focus exact xaC) | ((with_reducible refine xwC ?_ ?_); focus exact xaC) | ((with_reducible refine xwD ?_ ?_); focus exact xaC) | ((with_reducible refine xwE ?_ ?_); focus exact xaC) | (with_reducible intro hc; (try simp only [capsP, and_true] at hc); (try exact xfC)) | ((fail_if_success (with_reducible first | refine xgon ?_ | intro _)); (conv => whnf); (fail_if_success (fail_if_success (with_reducible first | refine xstp ?_ | refine Both.mk ?_ ?_ | refine xgon ?_ | intro _)))))
    · refine FinK.mk ⟨[], _, _, ⟨rfl, rfl⟩, ?_⟩; (repeat' first | refine And.intro ?_ ?_ | exact xeC | fail)
      unfold letL; repeat' split
      all_goals first | rfl | omega
    · refine FinK.mk ⟨[], _, _, ⟨rfl, rfl⟩, ?_⟩; (repeat' first | refine And.intro ?_ ?_ | exact xeC | fail)
      unfold letL; repeat' split
      all_goals first | rfl | omega

set_option maxRecDepth 10000 in
theorem chas (l : List UInt8) (c : UInt8) (hl : l.length ≤ 6) :
    Ctr Try.prog 48 [.c (.s (mkS l)), .c (.i .u8 (c.toNat : Nat))] [] fun v h => v = .c (.b (hasB l c)) ∧ h = [] := by
  have hz : (mkS l).size = l.length := rfl
  refine Ctr.mk' tbv mixed Try.func48 rfl rfl rfl (fun _ _ => by kernel_rfl) (by kernel_rfl) (by rfl) (by rfl) (by (repeat' first | refine And.intro ?_ ?_ | exact xeC | fail)) ?_
  repeat' (first | (fail_if_success (with_reducible refine xstp ?_)); first | ((with_reducible refine And.intro (fun (hb : _ = true) => ?_) (fun (hb : _ = false) => ?_)) <;> replace hb := xnC hb <;> (try first | exact xfC | exact bff hb (by assumption) | exact bff (by assumption) hb)) | (with_reducible refine Both.mk ?_ ?_) | ((with_reducible refine And.intro ?_ ?_); focus exact xoC) | ((with_reducible refine Or.inl ⟨?_, ?_, ?_⟩); (focus rfl); focus exact xaC) | ((with_reducible refine xwB ?_ ?_); focus exact xaC) | ((with_reducible refine xwC ?_ ?_); focus exact xaC) | ((with_reducible refine xwD ?_ ?_); focus exact xaC) | ((with_reducible refine xwE ?_ ?_); focus exact xaC) | (with_reducible intro hc; (try simp only [capsP, and_true] at hc); (try exact xfC)) | ((fail_if_success (with_reducible first | refine xgon ?_ | intro _)); (conv => whnf); (fail_if_success (fail_if_success (with_reducible first | refine xstp ?_ | refine Both.mk ?_ ?_ | refine xgon ?_ | intro _)))))
  refine LoopK.mk' {i : Nat // i ≤ l.length ∧ c ∉ l.take i}
    (fun ⟨i, _⟩ => ⟨[(0, .c (.s (mkS l))), (1, .c (.i .u8 (c.toNat : Nat))), (5, .c (.i .i64 (i : Nat)))], []⟩) (fun k => l.length - k.1)
    ⟨⟨0, Nat.zero_le _, by simp⟩, [], ?_⟩ ?_
  · (repeat' first | refine And.intro ?_ ?_ | exact xeC | fail)
  rintro ⟨i, hi, hno⟩
  have hg : i < l.length → (mkS l).get! (i : Int).toNat = l[i]! := by
    intro h
    simp [ByteArray.get!, mkS, h]
  repeat' (first | (fail_if_success (with_reducible refine xstp ?_)); first | ((with_reducible refine And.intro (fun (hb : _ = true) => ?_) (fun (hb : _ = false) => ?_)) <;> replace hb := xnC hb <;> (try first | exact xfC | exact bff hb (by assumption) | exact bff (by assumption) hb)) | (with_reducible refine Both.mk ?_ ?_) | ((with_reducible refine And.intro ?_ ?_); focus exact xoC) | ((with_reducible refine Or.inl ⟨?_, ?_, ?_⟩); (focus rfl); focus exact xaC) | ((with_reducible refine xwB ?_ ?_); focus exact xaC) | ((with_reducible refine xwC ?_ ?_); focus exact xaC) | ((with_reducible refine xwD ?_ ?_); focus exact xaC) | ((with_reducible refine xwE ?_ ?_); focus exact xaC) | (with_reducible intro hc; (try simp only [capsP, and_true] at hc); (try exact xfC)) | ((fail_if_success (with_reducible first | refine xgon ?_ | intro _)); (conv => whnf); (fail_if_success (fail_if_success (with_reducible first | refine xstp ?_ | refine Both.mk ?_ ?_ | refine xgon ?_ | intro _)))))
  · rw [Int.toNat_natCast] at hg
    have h1 := hg (by omega)
    have e : l[i]! = c := by
      rw [← h1]
      apply UInt8.toNat.inj
      exact Int.ofNat_inj.1 hb
    rw [show hasB l c = true by
      unfold hasB
      rw [List.contains_iff_mem, ← e, getElem!_pos l i (by omega)]
      exact List.getElem_mem _]
    refine FinK.mk ⟨[], _, _, ⟨rfl, rfl⟩, ?_⟩; (repeat' first | refine And.intro ?_ ?_ | exact xeC | fail)
  · have h1 := hg (by omega)
    refine ⟨⟨i + 1, by omega, fun hm => ?_⟩, [], by simp only; omega, ?_⟩
    · rw [List.take_succ_eq_append_getElem (by omega), List.mem_append] at hm
      rcases hm with hm | hm
      · exact hno hm
      · refine hb ?_
        rw [List.mem_singleton.1 hm, ← getElem!_pos l i (by omega), ← h1]
        rfl
    · (repeat' first | refine And.intro ?_ ?_ | exact xeC | fail)
  · rw [show hasB l c = false by
      unfold hasB
      rw [List.take_of_length_le (by omega)] at hno
      simpa using hno]
    refine FinK.mk ⟨[], _, _, ⟨rfl, rfl⟩, ?_⟩; (repeat' first | refine And.intro ?_ ?_ | exact xeC | fail)

set_option maxRecDepth 10000 in
theorem cin (U : Prop) [Decidable U] (n lo hi : Int) :
    Ctr Try.prog 80 [.c (.b (decide U)), .c (.i .i64 n), .c (.i .i64 lo), .c (.i .i64 hi)] [] fun v h => v = .c (.b (decide (U → lo ≤ n ∧ n ≤ hi))) ∧ h = [] := by
  refine Ctr.mk' tbv mixed Try.func80 rfl rfl rfl (fun _ _ => by kernel_rfl) (by kernel_rfl) (by rfl) (by rfl) (by (repeat' first | refine And.intro ?_ ?_ | exact xeC | fail)) ?_
  repeat' (first | (fail_if_success (with_reducible refine xstp ?_)); first | ((with_reducible refine And.intro (fun (hb : _ = true) => ?_) (fun (hb : _ = false) => ?_)) <;> replace hb := xnC hb <;> (try first | exact xfC | exact bff hb (by assumption) | exact bff (by assumption) hb)) | (with_reducible refine Both.mk ?_ ?_) | ((with_reducible refine And.intro ?_ ?_); focus exact xoC) | ((with_reducible refine Or.inl ⟨?_, ?_, ?_⟩); (focus rfl); focus exact xaC) | ((with_reducible refine xwB ?_ ?_); focus exact xaC) | ((with_reducible refine xwC ?_ ?_); focus exact xaC) | ((with_reducible refine xwD ?_ ?_); focus exact xaC) | ((with_reducible refine xwE ?_ ?_); focus exact xaC) | (with_reducible intro hc; (try simp only [capsP, and_true] at hc); (try exact xfC)) | ((fail_if_success (with_reducible first | refine xgon ?_ | intro _)); (conv => whnf); (fail_if_success (fail_if_success (with_reducible first | refine xstp ?_ | refine Both.mk ?_ ?_ | refine xgon ?_ | intro _)))))
  · refine FinK.mk ⟨[], _, _, ⟨rfl, rfl⟩, ?_⟩; (repeat' first | refine And.intro ?_ ?_ | exact xeC | fail)
    exact decide_eq_true (fun h => absurd h hb)
  · refine FinK.mk ⟨[], _, _, ⟨rfl, rfl⟩, ?_⟩; (repeat' first | refine And.intro ?_ ?_ | exact xeC | fail)
    have hu : U := by assumption
    exact decide_eq_decide.2 ⟨fun h _ => ⟨by assumption, h⟩, fun h => (h hu).2⟩
  · refine FinK.mk ⟨[], _, _, ⟨rfl, rfl⟩, ?_⟩; (repeat' first | refine And.intro ?_ ?_ | exact xeC | fail)
    have hu : U := by assumption
    exact decide_eq_false (fun h => by have := h hu; omega)

theorem cinT (n lo hi : Int) :
    Ctr Try.prog 80 [.c (.b (decide True)), .c (.i .i64 n), .c (.i .i64 lo), .c (.i .i64 hi)] [] fun v h => v = .c (.b (decide (lo ≤ n ∧ n ≤ hi))) ∧ h = [] := by
  refine (cin True n lo hi).mono' ?_
  rintro v h ⟨rfl, rfl⟩
  simp

theorem rH15pB0 {σ : List Sg} {H h' : List Fam} {v : T} {K : T → List Fam → Prop} {H' : List Fam} {v' : T} {N : Nat} (hk : K v' H') (hN : H.length = N := by (try simp only [↓List.length_cons, ↓List.length_nil, Nat.reduceAdd]) <;> rfl) (h : givesF σ N H σ h' = some H' := by (try simp (maxSteps := 1000000) only [givesF, setF, updF, Fam.zeroth, Fam.rk, Ck.rk, C.rk, E.rk, T.rk, key, List.map_cons, List.map_nil, List.cons_append, List.nil_append, List.length_cons, List.length_nil, Option.map_some, Option.bind_some, Nat.reduceAdd, Nat.zero_add, Nat.add_zero, Nat.add_sub_cancel_left, Int.toNat_natCast, reps, List.all_cons, List.all_nil, C.flat, List.append_eq, Bool.not_true, Bool.and_true, Bool.or_false, Bool.or_self, Bool.not_false, List.append_nil, Bool.and_self, encP]) <;> rfl) (hv : v.rk σ N = v' := by (try simp only [givesF, setF, updF, Fam.zeroth, Fam.rk, Ck.rk, C.rk, E.rk, T.rk, key, List.map_cons, List.map_nil, List.cons_append, List.nil_append, List.length_cons, List.length_nil, Option.map_some, Option.bind_some, Nat.reduceAdd, Nat.zero_add, Nat.add_zero, Nat.add_sub_cancel_left, Int.toNat_natCast, reps, List.all_cons, List.all_nil, C.flat, List.append_eq, Bool.not_true, Bool.and_true, Bool.or_false, Bool.or_self, Bool.not_false, List.append_nil, Bool.and_self, encP]) <;> rfl) : RetG σ H h' v K := ret_mk3 hN h hv hk
set_option maxRecDepth 10000 in
set_option maxHeartbeats 4000000 in
theorem cranges (x : Pk) (n c : Nat) :
    Ctr Try.prog 60 [.a (encP (.sl 0 0 1 0 n c) x)] [.one .no] fun v h => v = .c (.b (decide (rngP x))) ∧ h = [.one .no] := by
  refine Ctr.mk' tbv mixed Try.func60 rfl rfl rfl (fun _ _ => by kernel_rfl) (by kernel_rfl) (by rfl) (by rfl) (by (repeat' first | refine And.intro ?_ ?_ | exact xeC | fail)) ?_
  repeat' (first | (fail_if_success (with_reducible refine xstp ?_)); first | ((with_reducible refine And.intro (fun (hb : _ = true) => ?_) (fun (hb : _ = false) => ?_)) <;> replace hb := xnC hb <;> (try first | exact xfC | exact bff hb (by assumption) | exact bff (by assumption) hb)) | (with_reducible refine Both.mk ?_ ?_) | ((with_reducible refine And.intro ?_ ?_); focus exact xoC) | ((with_reducible refine Or.inl ⟨?_, ?_, ?_⟩); (focus rfl); focus exact xaC) | ((with_reducible refine xwB ?_ ?_); focus exact xaC) | ((with_reducible refine xwC ?_ ?_); focus exact xaC) | ((with_reducible refine xwD ?_ ?_); focus exact xaC) | ((with_reducible refine xwE ?_ ?_); focus exact xaC) | (with_reducible intro hc; (try simp only [capsP, and_true] at hc); (try exact xfC)) | ((fail_if_success (with_reducible first | refine xgon ?_ | intro _)); (conv => whnf); (fail_if_success (fail_if_success (with_reducible first | refine xstp ?_ | refine Both.mk ?_ ?_ | refine xgon ?_ | intro _)))))
  refine xcal (σ := []) (nl := []) (cletters x.k) ?_
  rintro v h' ⟨rfl, rfl⟩ hcaps
  refine rH15pB0 ?_
  repeat' (first | (fail_if_success (with_reducible refine xstp ?_)); first | ((with_reducible refine And.intro (fun (hb : _ = true) => ?_) (fun (hb : _ = false) => ?_)) <;> replace hb := xnC hb <;> (try first | exact xfC | exact bff hb (by assumption) | exact bff (by assumption) hb)) | (with_reducible refine Both.mk ?_ ?_) | ((with_reducible refine And.intro ?_ ?_); focus exact xoC) | ((with_reducible refine Or.inl ⟨?_, ?_, ?_⟩); (focus rfl); focus exact xaC) | ((with_reducible refine xwB ?_ ?_); focus exact xaC) | ((with_reducible refine xwC ?_ ?_); focus exact xaC) | ((with_reducible refine xwD ?_ ?_); focus exact xaC) | ((with_reducible refine xwE ?_ ?_); focus exact xaC) | (with_reducible intro hc; (try simp only [capsP, and_true] at hc); (try exact xfC)) | ((fail_if_success (with_reducible first | refine xgon ?_ | intro _)); (conv => whnf); (fail_if_success (fail_if_success (with_reducible first | refine xstp ?_ | refine Both.mk ?_ ?_ | refine xgon ?_ | intro _)))))
  all_goals rw [letE] at hb
  all_goals first
    | (refine FinK.mk ⟨[0], _, _, ⟨rfl, rfl⟩, ?_⟩; (repeat' first | refine And.intro ?_ ?_ | exact xeC | fail)
       all_goals (first | exact decide_eq_true (by unfold rngP; omega) | exact decide_eq_false (by unfold rngP; omega) | exact (decide_eq_true (by unfold rngP; omega)).symm | exact (decide_eq_false (by unfold rngP; omega)).symm | exact decide_eq_decide.2 (by unfold rngP; omega))
       done)
    | skip
  · skip
    refine xcal (σ := []) (nl := []) (cinT (x.fr) (0) (7)) ?_
    rintro v h' ⟨rfl, rfl⟩ hcaps
    refine rH15pB0 ?_
    repeat' (first | (fail_if_success (with_reducible refine xstp ?_)); first | ((with_reducible refine And.intro (fun (hb : _ = true) => ?_) (fun (hb : _ = false) => ?_)) <;> replace hb := xnC hb <;> (try first | exact xfC | exact bff hb (by assumption) | exact bff (by assumption) hb)) | (with_reducible refine Both.mk ?_ ?_) | ((with_reducible refine And.intro ?_ ?_); focus exact xoC) | ((with_reducible refine Or.inl ⟨?_, ?_, ?_⟩); (focus rfl); focus exact xaC) | ((with_reducible refine xwB ?_ ?_); focus exact xaC) | ((with_reducible refine xwC ?_ ?_); focus exact xaC) | ((with_reducible refine xwD ?_ ?_); focus exact xaC) | ((with_reducible refine xwE ?_ ?_); focus exact xaC) | (with_reducible intro hc; (try simp only [capsP, and_true] at hc); (try exact xfC)) | ((fail_if_success (with_reducible first | refine xgon ?_ | intro _)); (conv => whnf); (fail_if_success (fail_if_success (with_reducible first | refine xstp ?_ | refine Both.mk ?_ ?_ | refine xgon ?_ | intro _)))))
    all_goals first
      | (refine FinK.mk ⟨[0], _, _, ⟨rfl, rfl⟩, ?_⟩; (repeat' first | refine And.intro ?_ ?_ | exact xeC | fail)
         all_goals (first | exact decide_eq_true (by unfold rngP; omega) | exact decide_eq_false (by unfold rngP; omega) | exact (decide_eq_true (by unfold rngP; omega)).symm | exact (decide_eq_false (by unfold rngP; omega)).symm | exact decide_eq_decide.2 (by unfold rngP; omega))
         done)
      | skip
    refine xcal (σ := []) (nl := []) (cinT (x.to) (0) (7)) ?_
    rintro v h' ⟨rfl, rfl⟩ hcaps
    refine rH15pB0 ?_
    repeat' (first | (fail_if_success (with_reducible refine xstp ?_)); first | ((with_reducible refine And.intro (fun (hb : _ = true) => ?_) (fun (hb : _ = false) => ?_)) <;> replace hb := xnC hb <;> (try first | exact xfC | exact bff hb (by assumption) | exact bff (by assumption) hb)) | (with_reducible refine Both.mk ?_ ?_) | ((with_reducible refine And.intro ?_ ?_); focus exact xoC) | ((with_reducible refine Or.inl ⟨?_, ?_, ?_⟩); (focus rfl); focus exact xaC) | ((with_reducible refine xwB ?_ ?_); focus exact xaC) | ((with_reducible refine xwC ?_ ?_); focus exact xaC) | ((with_reducible refine xwD ?_ ?_); focus exact xaC) | ((with_reducible refine xwE ?_ ?_); focus exact xaC) | (with_reducible intro hc; (try simp only [capsP, and_true] at hc); (try exact xfC)) | ((fail_if_success (with_reducible first | refine xgon ?_ | intro _)); (conv => whnf); (fail_if_success (fail_if_success (with_reducible first | refine xstp ?_ | refine Both.mk ?_ ?_ | refine xgon ?_ | intro _)))))
    all_goals first
      | (refine FinK.mk ⟨[0], _, _, ⟨rfl, rfl⟩, ?_⟩; (repeat' first | refine And.intro ?_ ?_ | exact xeC | fail)
         all_goals (first | exact decide_eq_true (by unfold rngP; omega) | exact decide_eq_false (by unfold rngP; omega) | exact (decide_eq_true (by unfold rngP; omega)).symm | exact (decide_eq_false (by unfold rngP; omega)).symm | exact decide_eq_decide.2 (by unfold rngP; omega))
         done)
      | skip
    refine xcal (σ := []) (nl := []) (chas (letL x.k) 119 (letL_len x.k)) ?_
    rintro v h' ⟨rfl, rfl⟩ hcaps
    rw [hasW]
    refine rH15pB0 ?_
    repeat' (first | (fail_if_success (with_reducible refine xstp ?_)); first | ((with_reducible refine And.intro (fun (hb : _ = true) => ?_) (fun (hb : _ = false) => ?_)) <;> replace hb := xnC hb <;> (try first | exact xfC | exact bff hb (by assumption) | exact bff (by assumption) hb)) | (with_reducible refine Both.mk ?_ ?_) | ((with_reducible refine And.intro ?_ ?_); focus exact xoC) | ((with_reducible refine Or.inl ⟨?_, ?_, ?_⟩); (focus rfl); focus exact xaC) | ((with_reducible refine xwB ?_ ?_); focus exact xaC) | ((with_reducible refine xwC ?_ ?_); focus exact xaC) | ((with_reducible refine xwD ?_ ?_); focus exact xaC) | ((with_reducible refine xwE ?_ ?_); focus exact xaC) | (with_reducible intro hc; (try simp only [capsP, and_true] at hc); (try exact xfC)) | ((fail_if_success (with_reducible first | refine xgon ?_ | intro _)); (conv => whnf); (fail_if_success (fail_if_success (with_reducible first | refine xstp ?_ | refine Both.mk ?_ ?_ | refine xgon ?_ | intro _)))))
    refine xcal (σ := []) (nl := []) (cin (1 ≤ x.k ∧ x.k ≤ 5) (x.w) (1) (1073741824)) ?_
    rintro v h' ⟨rfl, rfl⟩ hcaps
    refine rH15pB0 ?_
    repeat' (first | (fail_if_success (with_reducible refine xstp ?_)); first | ((with_reducible refine And.intro (fun (hb : _ = true) => ?_) (fun (hb : _ = false) => ?_)) <;> replace hb := xnC hb <;> (try first | exact xfC | exact bff hb (by assumption) | exact bff (by assumption) hb)) | (with_reducible refine Both.mk ?_ ?_) | ((with_reducible refine And.intro ?_ ?_); focus exact xoC) | ((with_reducible refine Or.inl ⟨?_, ?_, ?_⟩); (focus rfl); focus exact xaC) | ((with_reducible refine xwB ?_ ?_); focus exact xaC) | ((with_reducible refine xwC ?_ ?_); focus exact xaC) | ((with_reducible refine xwD ?_ ?_); focus exact xaC) | ((with_reducible refine xwE ?_ ?_); focus exact xaC) | (with_reducible intro hc; (try simp only [capsP, and_true] at hc); (try exact xfC)) | ((fail_if_success (with_reducible first | refine xgon ?_ | intro _)); (conv => whnf); (fail_if_success (fail_if_success (with_reducible first | refine xstp ?_ | refine Both.mk ?_ ?_ | refine xgon ?_ | intro _)))))
    all_goals first
      | (refine FinK.mk ⟨[0], _, _, ⟨rfl, rfl⟩, ?_⟩; (repeat' first | refine And.intro ?_ ?_ | exact xeC | fail)
         all_goals (first | exact decide_eq_true (by unfold rngP; omega) | exact decide_eq_false (by unfold rngP; omega) | exact (decide_eq_true (by unfold rngP; omega)).symm | exact (decide_eq_false (by unfold rngP; omega)).symm | exact decide_eq_decide.2 (by unfold rngP; omega))
         done)
      | skip
    refine xcal (σ := []) (nl := []) (chas (letL x.k) 114 (letL_len x.k)) ?_
    rintro v h' ⟨rfl, rfl⟩ hcaps
    rw [hasR]
    refine rH15pB0 ?_
    repeat' (first | (fail_if_success (with_reducible refine xstp ?_)); first | ((with_reducible refine And.intro (fun (hb : _ = true) => ?_) (fun (hb : _ = false) => ?_)) <;> replace hb := xnC hb <;> (try first | exact xfC | exact bff hb (by assumption) | exact bff (by assumption) hb)) | (with_reducible refine Both.mk ?_ ?_) | ((with_reducible refine And.intro ?_ ?_); focus exact xoC) | ((with_reducible refine Or.inl ⟨?_, ?_, ?_⟩); (focus rfl); focus exact xaC) | ((with_reducible refine xwB ?_ ?_); focus exact xaC) | ((with_reducible refine xwC ?_ ?_); focus exact xaC) | ((with_reducible refine xwD ?_ ?_); focus exact xaC) | ((with_reducible refine xwE ?_ ?_); focus exact xaC) | (with_reducible intro hc; (try simp only [capsP, and_true] at hc); (try exact xfC)) | ((fail_if_success (with_reducible first | refine xgon ?_ | intro _)); (conv => whnf); (fail_if_success (fail_if_success (with_reducible first | refine xstp ?_ | refine Both.mk ?_ ?_ | refine xgon ?_ | intro _)))))
    refine xcal (σ := []) (nl := []) (cin (1 ≤ x.k ∧ x.k ≤ 5) (x.r) (1) (1073741824)) ?_
    rintro v h' ⟨rfl, rfl⟩ hcaps
    refine rH15pB0 ?_
    repeat' (first | (fail_if_success (with_reducible refine xstp ?_)); first | ((with_reducible refine And.intro (fun (hb : _ = true) => ?_) (fun (hb : _ = false) => ?_)) <;> replace hb := xnC hb <;> (try first | exact xfC | exact bff hb (by assumption) | exact bff (by assumption) hb)) | (with_reducible refine Both.mk ?_ ?_) | ((with_reducible refine And.intro ?_ ?_); focus exact xoC) | ((with_reducible refine Or.inl ⟨?_, ?_, ?_⟩); (focus rfl); focus exact xaC) | ((with_reducible refine xwB ?_ ?_); focus exact xaC) | ((with_reducible refine xwC ?_ ?_); focus exact xaC) | ((with_reducible refine xwD ?_ ?_); focus exact xaC) | ((with_reducible refine xwE ?_ ?_); focus exact xaC) | (with_reducible intro hc; (try simp only [capsP, and_true] at hc); (try exact xfC)) | ((fail_if_success (with_reducible first | refine xgon ?_ | intro _)); (conv => whnf); (fail_if_success (fail_if_success (with_reducible first | refine xstp ?_ | refine Both.mk ?_ ?_ | refine xgon ?_ | intro _)))))
    all_goals first
      | (refine FinK.mk ⟨[0], _, _, ⟨rfl, rfl⟩, ?_⟩; (repeat' first | refine And.intro ?_ ?_ | exact xeC | fail)
         all_goals (first | exact decide_eq_true (by unfold rngP; omega) | exact decide_eq_false (by unfold rngP; omega) | exact (decide_eq_true (by unfold rngP; omega)).symm | exact (decide_eq_false (by unfold rngP; omega)).symm | exact decide_eq_decide.2 (by unfold rngP; omega))
         done)
      | skip
    refine xcal (σ := []) (nl := []) (chas (letL x.k) 115 (letL_len x.k)) ?_
    rintro v h' ⟨rfl, rfl⟩ hcaps
    rw [hasS]
    refine rH15pB0 ?_
    repeat' (first | (fail_if_success (with_reducible refine xstp ?_)); first | ((with_reducible refine And.intro (fun (hb : _ = true) => ?_) (fun (hb : _ = false) => ?_)) <;> replace hb := xnC hb <;> (try first | exact xfC | exact bff hb (by assumption) | exact bff (by assumption) hb)) | (with_reducible refine Both.mk ?_ ?_) | ((with_reducible refine And.intro ?_ ?_); focus exact xoC) | ((with_reducible refine Or.inl ⟨?_, ?_, ?_⟩); (focus rfl); focus exact xaC) | ((with_reducible refine xwB ?_ ?_); focus exact xaC) | ((with_reducible refine xwC ?_ ?_); focus exact xaC) | ((with_reducible refine xwD ?_ ?_); focus exact xaC) | ((with_reducible refine xwE ?_ ?_); focus exact xaC) | (with_reducible intro hc; (try simp only [capsP, and_true] at hc); (try exact xfC)) | ((fail_if_success (with_reducible first | refine xgon ?_ | intro _)); (conv => whnf); (fail_if_success (fail_if_success (with_reducible first | refine xstp ?_ | refine Both.mk ?_ ?_ | refine xgon ?_ | intro _)))))
    refine xcal (σ := []) (nl := []) (cin (x.k = 1 ∨ x.k = 4 ∨ x.k = 5) (x.q) (0) (1)) ?_
    rintro v h' ⟨rfl, rfl⟩ hcaps
    refine rH15pB0 ?_
    repeat' (first | (fail_if_success (with_reducible refine xstp ?_)); first | ((with_reducible refine And.intro (fun (hb : _ = true) => ?_) (fun (hb : _ = false) => ?_)) <;> replace hb := xnC hb <;> (try first | exact xfC | exact bff hb (by assumption) | exact bff (by assumption) hb)) | (with_reducible refine Both.mk ?_ ?_) | ((with_reducible refine And.intro ?_ ?_); focus exact xoC) | ((with_reducible refine Or.inl ⟨?_, ?_, ?_⟩); (focus rfl); focus exact xaC) | ((with_reducible refine xwB ?_ ?_); focus exact xaC) | ((with_reducible refine xwC ?_ ?_); focus exact xaC) | ((with_reducible refine xwD ?_ ?_); focus exact xaC) | ((with_reducible refine xwE ?_ ?_); focus exact xaC) | (with_reducible intro hc; (try simp only [capsP, and_true] at hc); (try exact xfC)) | ((fail_if_success (with_reducible first | refine xgon ?_ | intro _)); (conv => whnf); (fail_if_success (fail_if_success (with_reducible first | refine xstp ?_ | refine Both.mk ?_ ?_ | refine xgon ?_ | intro _)))))
    all_goals first
      | (refine FinK.mk ⟨[0], _, _, ⟨rfl, rfl⟩, ?_⟩; (repeat' first | refine And.intro ?_ ?_ | exact xeC | fail)
         all_goals (first | exact decide_eq_true (by unfold rngP; omega) | exact decide_eq_false (by unfold rngP; omega) | exact (decide_eq_true (by unfold rngP; omega)).symm | exact (decide_eq_false (by unfold rngP; omega)).symm | exact decide_eq_decide.2 (by unfold rngP; omega))
         done)
      | skip
    refine xcal (σ := []) (nl := []) (chas (letL x.k) 102 (letL_len x.k)) ?_
    rintro v h' ⟨rfl, rfl⟩ hcaps
    rw [hasF]
    refine rH15pB0 ?_
    repeat' (first | (fail_if_success (with_reducible refine xstp ?_)); first | ((with_reducible refine And.intro (fun (hb : _ = true) => ?_) (fun (hb : _ = false) => ?_)) <;> replace hb := xnC hb <;> (try first | exact xfC | exact bff hb (by assumption) | exact bff (by assumption) hb)) | (with_reducible refine Both.mk ?_ ?_) | ((with_reducible refine And.intro ?_ ?_); focus exact xoC) | ((with_reducible refine Or.inl ⟨?_, ?_, ?_⟩); (focus rfl); focus exact xaC) | ((with_reducible refine xwB ?_ ?_); focus exact xaC) | ((with_reducible refine xwC ?_ ?_); focus exact xaC) | ((with_reducible refine xwD ?_ ?_); focus exact xaC) | ((with_reducible refine xwE ?_ ?_); focus exact xaC) | (with_reducible intro hc; (try simp only [capsP, and_true] at hc); (try exact xfC)) | ((fail_if_success (with_reducible first | refine xgon ?_ | intro _)); (conv => whnf); (fail_if_success (fail_if_success (with_reducible first | refine xstp ?_ | refine Both.mk ?_ ?_ | refine xgon ?_ | intro _)))))
    refine xcal (σ := []) (nl := []) (cin (x.k = 2 ∨ x.k = 3 ∨ x.k = 4) (x.f) (1) (1099511627776)) ?_
    rintro v h' ⟨rfl, rfl⟩ hcaps
    refine rH15pB0 ?_
    repeat' (first | (fail_if_success (with_reducible refine xstp ?_)); first | ((with_reducible refine And.intro (fun (hb : _ = true) => ?_) (fun (hb : _ = false) => ?_)) <;> replace hb := xnC hb <;> (try first | exact xfC | exact bff hb (by assumption) | exact bff (by assumption) hb)) | (with_reducible refine Both.mk ?_ ?_) | ((with_reducible refine And.intro ?_ ?_); focus exact xoC) | ((with_reducible refine Or.inl ⟨?_, ?_, ?_⟩); (focus rfl); focus exact xaC) | ((with_reducible refine xwB ?_ ?_); focus exact xaC) | ((with_reducible refine xwC ?_ ?_); focus exact xaC) | ((with_reducible refine xwD ?_ ?_); focus exact xaC) | ((with_reducible refine xwE ?_ ?_); focus exact xaC) | (with_reducible intro hc; (try simp only [capsP, and_true] at hc); (try exact xfC)) | ((fail_if_success (with_reducible first | refine xgon ?_ | intro _)); (conv => whnf); (fail_if_success (fail_if_success (with_reducible first | refine xstp ?_ | refine Both.mk ?_ ?_ | refine xgon ?_ | intro _)))))
    all_goals first
      | (refine FinK.mk ⟨[0], _, _, ⟨rfl, rfl⟩, ?_⟩; (repeat' first | refine And.intro ?_ ?_ | exact xeC | fail)
         all_goals (first | exact decide_eq_true (by unfold rngP; omega) | exact decide_eq_false (by unfold rngP; omega) | exact (decide_eq_true (by unfold rngP; omega)).symm | exact (decide_eq_false (by unfold rngP; omega)).symm | exact decide_eq_decide.2 (by unfold rngP; omega))
         done)
      | skip
    refine xcal (σ := []) (nl := []) (chas (letL x.k) 108 (letL_len x.k)) ?_
    rintro v h' ⟨rfl, rfl⟩ hcaps
    rw [hasL]
    refine rH15pB0 ?_
    repeat' (first | (fail_if_success (with_reducible refine xstp ?_)); first | ((with_reducible refine And.intro (fun (hb : _ = true) => ?_) (fun (hb : _ = false) => ?_)) <;> replace hb := xnC hb <;> (try first | exact xfC | exact bff hb (by assumption) | exact bff (by assumption) hb)) | (with_reducible refine Both.mk ?_ ?_) | ((with_reducible refine And.intro ?_ ?_); focus exact xoC) | ((with_reducible refine Or.inl ⟨?_, ?_, ?_⟩); (focus rfl); focus exact xaC) | ((with_reducible refine xwB ?_ ?_); focus exact xaC) | ((with_reducible refine xwC ?_ ?_); focus exact xaC) | ((with_reducible refine xwD ?_ ?_); focus exact xaC) | ((with_reducible refine xwE ?_ ?_); focus exact xaC) | (with_reducible intro hc; (try simp only [capsP, and_true] at hc); (try exact xfC)) | ((fail_if_success (with_reducible first | refine xgon ?_ | intro _)); (conv => whnf); (fail_if_success (fail_if_success (with_reducible first | refine xstp ?_ | refine Both.mk ?_ ?_ | refine xgon ?_ | intro _)))))
    refine xcal (σ := []) (nl := []) (cin (x.k = 2 ∨ x.k = 3 ∨ x.k = 4) (x.la) (0) (1099511627776)) ?_
    rintro v h' ⟨rfl, rfl⟩ hcaps
    refine rH15pB0 ?_
    repeat' (first | (fail_if_success (with_reducible refine xstp ?_)); first | ((with_reducible refine And.intro (fun (hb : _ = true) => ?_) (fun (hb : _ = false) => ?_)) <;> replace hb := xnC hb <;> (try first | exact xfC | exact bff hb (by assumption) | exact bff (by assumption) hb)) | (with_reducible refine Both.mk ?_ ?_) | ((with_reducible refine And.intro ?_ ?_); focus exact xoC) | ((with_reducible refine Or.inl ⟨?_, ?_, ?_⟩); (focus rfl); focus exact xaC) | ((with_reducible refine xwB ?_ ?_); focus exact xaC) | ((with_reducible refine xwC ?_ ?_); focus exact xaC) | ((with_reducible refine xwD ?_ ?_); focus exact xaC) | ((with_reducible refine xwE ?_ ?_); focus exact xaC) | (with_reducible intro hc; (try simp only [capsP, and_true] at hc); (try exact xfC)) | ((fail_if_success (with_reducible first | refine xgon ?_ | intro _)); (conv => whnf); (fail_if_success (fail_if_success (with_reducible first | refine xstp ?_ | refine Both.mk ?_ ?_ | refine xgon ?_ | intro _)))))
    all_goals first
      | (refine FinK.mk ⟨[0], _, _, ⟨rfl, rfl⟩, ?_⟩; (repeat' first | refine And.intro ?_ ?_ | exact xeC | fail)
         all_goals (first | exact decide_eq_true (by unfold rngP; omega) | exact decide_eq_false (by unfold rngP; omega) | exact (decide_eq_true (by unfold rngP; omega)).symm | exact (decide_eq_false (by unfold rngP; omega)).symm | exact decide_eq_decide.2 (by unfold rngP; omega))
         done)
      | skip
    refine xcal (σ := []) (nl := []) (chas (letL x.k) 97 (letL_len x.k)) ?_
    rintro v h' ⟨rfl, rfl⟩ hcaps
    rw [hasA]
    refine rH15pB0 ?_
    repeat' (first | (fail_if_success (with_reducible refine xstp ?_)); first | ((with_reducible refine And.intro (fun (hb : _ = true) => ?_) (fun (hb : _ = false) => ?_)) <;> replace hb := xnC hb <;> (try first | exact xfC | exact bff hb (by assumption) | exact bff (by assumption) hb)) | (with_reducible refine Both.mk ?_ ?_) | ((with_reducible refine And.intro ?_ ?_); focus exact xoC) | ((with_reducible refine Or.inl ⟨?_, ?_, ?_⟩); (focus rfl); focus exact xaC) | ((with_reducible refine xwB ?_ ?_); focus exact xaC) | ((with_reducible refine xwC ?_ ?_); focus exact xaC) | ((with_reducible refine xwD ?_ ?_); focus exact xaC) | ((with_reducible refine xwE ?_ ?_); focus exact xaC) | (with_reducible intro hc; (try simp only [capsP, and_true] at hc); (try exact xfC)) | ((fail_if_success (with_reducible first | refine xgon ?_ | intro _)); (conv => whnf); (fail_if_success (fail_if_success (with_reducible first | refine xstp ?_ | refine Both.mk ?_ ?_ | refine xgon ?_ | intro _)))))
    refine xcal (σ := []) (nl := []) (cin (1 ≤ x.k ∧ x.k ≤ 5) (x.at') (0) (1099511627776)) ?_
    rintro v h' ⟨rfl, rfl⟩ hcaps
    refine rH15pB0 ?_
    repeat' (first | (fail_if_success (with_reducible refine xstp ?_)); first | ((with_reducible refine And.intro (fun (hb : _ = true) => ?_) (fun (hb : _ = false) => ?_)) <;> replace hb := xnC hb <;> (try first | exact xfC | exact bff hb (by assumption) | exact bff (by assumption) hb)) | (with_reducible refine Both.mk ?_ ?_) | ((with_reducible refine And.intro ?_ ?_); focus exact xoC) | ((with_reducible refine Or.inl ⟨?_, ?_, ?_⟩); (focus rfl); focus exact xaC) | ((with_reducible refine xwB ?_ ?_); focus exact xaC) | ((with_reducible refine xwC ?_ ?_); focus exact xaC) | ((with_reducible refine xwD ?_ ?_); focus exact xaC) | ((with_reducible refine xwE ?_ ?_); focus exact xaC) | (with_reducible intro hc; (try simp only [capsP, and_true] at hc); (try exact xfC)) | ((fail_if_success (with_reducible first | refine xgon ?_ | intro _)); (conv => whnf); (fail_if_success (fail_if_success (with_reducible first | refine xstp ?_ | refine Both.mk ?_ ?_ | refine xgon ?_ | intro _)))))
    refine FinK.mk ⟨[0], _, _, ⟨rfl, rfl⟩, ?_⟩; (repeat' first | refine And.intro ?_ ?_ | exact xeC | fail)
    all_goals (first | exact decide_eq_true (by unfold rngP; omega) | exact decide_eq_false (by unfold rngP; omega) | exact (decide_eq_true (by unfold rngP; omega)).symm | exact (decide_eq_false (by unfold rngP; omega)).symm | exact decide_eq_decide.2 (by unfold rngP; omega))
  · skip
    refine xcal (σ := []) (nl := []) (cinT (x.fr) (0) (7)) ?_
    rintro v h' ⟨rfl, rfl⟩ hcaps
    refine rH15pB0 ?_
    repeat' (first | (fail_if_success (with_reducible refine xstp ?_)); first | ((with_reducible refine And.intro (fun (hb : _ = true) => ?_) (fun (hb : _ = false) => ?_)) <;> replace hb := xnC hb <;> (try first | exact xfC | exact bff hb (by assumption) | exact bff (by assumption) hb)) | (with_reducible refine Both.mk ?_ ?_) | ((with_reducible refine And.intro ?_ ?_); focus exact xoC) | ((with_reducible refine Or.inl ⟨?_, ?_, ?_⟩); (focus rfl); focus exact xaC) | ((with_reducible refine xwB ?_ ?_); focus exact xaC) | ((with_reducible refine xwC ?_ ?_); focus exact xaC) | ((with_reducible refine xwD ?_ ?_); focus exact xaC) | ((with_reducible refine xwE ?_ ?_); focus exact xaC) | (with_reducible intro hc; (try simp only [capsP, and_true] at hc); (try exact xfC)) | ((fail_if_success (with_reducible first | refine xgon ?_ | intro _)); (conv => whnf); (fail_if_success (fail_if_success (with_reducible first | refine xstp ?_ | refine Both.mk ?_ ?_ | refine xgon ?_ | intro _)))))
    all_goals first
      | (refine FinK.mk ⟨[0], _, _, ⟨rfl, rfl⟩, ?_⟩; (repeat' first | refine And.intro ?_ ?_ | exact xeC | fail)
         all_goals (first | exact decide_eq_true (by unfold rngP; omega) | exact decide_eq_false (by unfold rngP; omega) | exact (decide_eq_true (by unfold rngP; omega)).symm | exact (decide_eq_false (by unfold rngP; omega)).symm | exact decide_eq_decide.2 (by unfold rngP; omega))
         done)
      | skip
    refine xcal (σ := []) (nl := []) (cinT (x.to) (0) (7)) ?_
    rintro v h' ⟨rfl, rfl⟩ hcaps
    refine rH15pB0 ?_
    repeat' (first | (fail_if_success (with_reducible refine xstp ?_)); first | ((with_reducible refine And.intro (fun (hb : _ = true) => ?_) (fun (hb : _ = false) => ?_)) <;> replace hb := xnC hb <;> (try first | exact xfC | exact bff hb (by assumption) | exact bff (by assumption) hb)) | (with_reducible refine Both.mk ?_ ?_) | ((with_reducible refine And.intro ?_ ?_); focus exact xoC) | ((with_reducible refine Or.inl ⟨?_, ?_, ?_⟩); (focus rfl); focus exact xaC) | ((with_reducible refine xwB ?_ ?_); focus exact xaC) | ((with_reducible refine xwC ?_ ?_); focus exact xaC) | ((with_reducible refine xwD ?_ ?_); focus exact xaC) | ((with_reducible refine xwE ?_ ?_); focus exact xaC) | (with_reducible intro hc; (try simp only [capsP, and_true] at hc); (try exact xfC)) | ((fail_if_success (with_reducible first | refine xgon ?_ | intro _)); (conv => whnf); (fail_if_success (fail_if_success (with_reducible first | refine xstp ?_ | refine Both.mk ?_ ?_ | refine xgon ?_ | intro _)))))
    all_goals first
      | (refine FinK.mk ⟨[0], _, _, ⟨rfl, rfl⟩, ?_⟩; (repeat' first | refine And.intro ?_ ?_ | exact xeC | fail)
         all_goals (first | exact decide_eq_true (by unfold rngP; omega) | exact decide_eq_false (by unfold rngP; omega) | exact (decide_eq_true (by unfold rngP; omega)).symm | exact (decide_eq_false (by unfold rngP; omega)).symm | exact decide_eq_decide.2 (by unfold rngP; omega))
         done)
      | skip
    refine xcal (σ := []) (nl := []) (chas (letL x.k) 119 (letL_len x.k)) ?_
    rintro v h' ⟨rfl, rfl⟩ hcaps
    rw [hasW]
    refine rH15pB0 ?_
    repeat' (first | (fail_if_success (with_reducible refine xstp ?_)); first | ((with_reducible refine And.intro (fun (hb : _ = true) => ?_) (fun (hb : _ = false) => ?_)) <;> replace hb := xnC hb <;> (try first | exact xfC | exact bff hb (by assumption) | exact bff (by assumption) hb)) | (with_reducible refine Both.mk ?_ ?_) | ((with_reducible refine And.intro ?_ ?_); focus exact xoC) | ((with_reducible refine Or.inl ⟨?_, ?_, ?_⟩); (focus rfl); focus exact xaC) | ((with_reducible refine xwB ?_ ?_); focus exact xaC) | ((with_reducible refine xwC ?_ ?_); focus exact xaC) | ((with_reducible refine xwD ?_ ?_); focus exact xaC) | ((with_reducible refine xwE ?_ ?_); focus exact xaC) | (with_reducible intro hc; (try simp only [capsP, and_true] at hc); (try exact xfC)) | ((fail_if_success (with_reducible first | refine xgon ?_ | intro _)); (conv => whnf); (fail_if_success (fail_if_success (with_reducible first | refine xstp ?_ | refine Both.mk ?_ ?_ | refine xgon ?_ | intro _)))))
    refine xcal (σ := []) (nl := []) (cin (1 ≤ x.k ∧ x.k ≤ 5) (x.w) (0) (1073741824)) ?_
    rintro v h' ⟨rfl, rfl⟩ hcaps
    refine rH15pB0 ?_
    repeat' (first | (fail_if_success (with_reducible refine xstp ?_)); first | ((with_reducible refine And.intro (fun (hb : _ = true) => ?_) (fun (hb : _ = false) => ?_)) <;> replace hb := xnC hb <;> (try first | exact xfC | exact bff hb (by assumption) | exact bff (by assumption) hb)) | (with_reducible refine Both.mk ?_ ?_) | ((with_reducible refine And.intro ?_ ?_); focus exact xoC) | ((with_reducible refine Or.inl ⟨?_, ?_, ?_⟩); (focus rfl); focus exact xaC) | ((with_reducible refine xwB ?_ ?_); focus exact xaC) | ((with_reducible refine xwC ?_ ?_); focus exact xaC) | ((with_reducible refine xwD ?_ ?_); focus exact xaC) | ((with_reducible refine xwE ?_ ?_); focus exact xaC) | (with_reducible intro hc; (try simp only [capsP, and_true] at hc); (try exact xfC)) | ((fail_if_success (with_reducible first | refine xgon ?_ | intro _)); (conv => whnf); (fail_if_success (fail_if_success (with_reducible first | refine xstp ?_ | refine Both.mk ?_ ?_ | refine xgon ?_ | intro _)))))
    all_goals first
      | (refine FinK.mk ⟨[0], _, _, ⟨rfl, rfl⟩, ?_⟩; (repeat' first | refine And.intro ?_ ?_ | exact xeC | fail)
         all_goals (first | exact decide_eq_true (by unfold rngP; omega) | exact decide_eq_false (by unfold rngP; omega) | exact (decide_eq_true (by unfold rngP; omega)).symm | exact (decide_eq_false (by unfold rngP; omega)).symm | exact decide_eq_decide.2 (by unfold rngP; omega))
         done)
      | skip
    refine xcal (σ := []) (nl := []) (chas (letL x.k) 114 (letL_len x.k)) ?_
    rintro v h' ⟨rfl, rfl⟩ hcaps
    rw [hasR]
    refine rH15pB0 ?_
    repeat' (first | (fail_if_success (with_reducible refine xstp ?_)); first | ((with_reducible refine And.intro (fun (hb : _ = true) => ?_) (fun (hb : _ = false) => ?_)) <;> replace hb := xnC hb <;> (try first | exact xfC | exact bff hb (by assumption) | exact bff (by assumption) hb)) | (with_reducible refine Both.mk ?_ ?_) | ((with_reducible refine And.intro ?_ ?_); focus exact xoC) | ((with_reducible refine Or.inl ⟨?_, ?_, ?_⟩); (focus rfl); focus exact xaC) | ((with_reducible refine xwB ?_ ?_); focus exact xaC) | ((with_reducible refine xwC ?_ ?_); focus exact xaC) | ((with_reducible refine xwD ?_ ?_); focus exact xaC) | ((with_reducible refine xwE ?_ ?_); focus exact xaC) | (with_reducible intro hc; (try simp only [capsP, and_true] at hc); (try exact xfC)) | ((fail_if_success (with_reducible first | refine xgon ?_ | intro _)); (conv => whnf); (fail_if_success (fail_if_success (with_reducible first | refine xstp ?_ | refine Both.mk ?_ ?_ | refine xgon ?_ | intro _)))))
    refine xcal (σ := []) (nl := []) (cin (1 ≤ x.k ∧ x.k ≤ 5) (x.r) (0) (1073741824)) ?_
    rintro v h' ⟨rfl, rfl⟩ hcaps
    refine rH15pB0 ?_
    repeat' (first | (fail_if_success (with_reducible refine xstp ?_)); first | ((with_reducible refine And.intro (fun (hb : _ = true) => ?_) (fun (hb : _ = false) => ?_)) <;> replace hb := xnC hb <;> (try first | exact xfC | exact bff hb (by assumption) | exact bff (by assumption) hb)) | (with_reducible refine Both.mk ?_ ?_) | ((with_reducible refine And.intro ?_ ?_); focus exact xoC) | ((with_reducible refine Or.inl ⟨?_, ?_, ?_⟩); (focus rfl); focus exact xaC) | ((with_reducible refine xwB ?_ ?_); focus exact xaC) | ((with_reducible refine xwC ?_ ?_); focus exact xaC) | ((with_reducible refine xwD ?_ ?_); focus exact xaC) | ((with_reducible refine xwE ?_ ?_); focus exact xaC) | (with_reducible intro hc; (try simp only [capsP, and_true] at hc); (try exact xfC)) | ((fail_if_success (with_reducible first | refine xgon ?_ | intro _)); (conv => whnf); (fail_if_success (fail_if_success (with_reducible first | refine xstp ?_ | refine Both.mk ?_ ?_ | refine xgon ?_ | intro _)))))
    all_goals first
      | (refine FinK.mk ⟨[0], _, _, ⟨rfl, rfl⟩, ?_⟩; (repeat' first | refine And.intro ?_ ?_ | exact xeC | fail)
         all_goals (first | exact decide_eq_true (by unfold rngP; omega) | exact decide_eq_false (by unfold rngP; omega) | exact (decide_eq_true (by unfold rngP; omega)).symm | exact (decide_eq_false (by unfold rngP; omega)).symm | exact decide_eq_decide.2 (by unfold rngP; omega))
         done)
      | skip
    refine xcal (σ := []) (nl := []) (chas (letL x.k) 115 (letL_len x.k)) ?_
    rintro v h' ⟨rfl, rfl⟩ hcaps
    rw [hasS]
    refine rH15pB0 ?_
    repeat' (first | (fail_if_success (with_reducible refine xstp ?_)); first | ((with_reducible refine And.intro (fun (hb : _ = true) => ?_) (fun (hb : _ = false) => ?_)) <;> replace hb := xnC hb <;> (try first | exact xfC | exact bff hb (by assumption) | exact bff (by assumption) hb)) | (with_reducible refine Both.mk ?_ ?_) | ((with_reducible refine And.intro ?_ ?_); focus exact xoC) | ((with_reducible refine Or.inl ⟨?_, ?_, ?_⟩); (focus rfl); focus exact xaC) | ((with_reducible refine xwB ?_ ?_); focus exact xaC) | ((with_reducible refine xwC ?_ ?_); focus exact xaC) | ((with_reducible refine xwD ?_ ?_); focus exact xaC) | ((with_reducible refine xwE ?_ ?_); focus exact xaC) | (with_reducible intro hc; (try simp only [capsP, and_true] at hc); (try exact xfC)) | ((fail_if_success (with_reducible first | refine xgon ?_ | intro _)); (conv => whnf); (fail_if_success (fail_if_success (with_reducible first | refine xstp ?_ | refine Both.mk ?_ ?_ | refine xgon ?_ | intro _)))))
    refine xcal (σ := []) (nl := []) (cin (x.k = 1 ∨ x.k = 4 ∨ x.k = 5) (x.q) (0) (1099511627776)) ?_
    rintro v h' ⟨rfl, rfl⟩ hcaps
    refine rH15pB0 ?_
    repeat' (first | (fail_if_success (with_reducible refine xstp ?_)); first | ((with_reducible refine And.intro (fun (hb : _ = true) => ?_) (fun (hb : _ = false) => ?_)) <;> replace hb := xnC hb <;> (try first | exact xfC | exact bff hb (by assumption) | exact bff (by assumption) hb)) | (with_reducible refine Both.mk ?_ ?_) | ((with_reducible refine And.intro ?_ ?_); focus exact xoC) | ((with_reducible refine Or.inl ⟨?_, ?_, ?_⟩); (focus rfl); focus exact xaC) | ((with_reducible refine xwB ?_ ?_); focus exact xaC) | ((with_reducible refine xwC ?_ ?_); focus exact xaC) | ((with_reducible refine xwD ?_ ?_); focus exact xaC) | ((with_reducible refine xwE ?_ ?_); focus exact xaC) | (with_reducible intro hc; (try simp only [capsP, and_true] at hc); (try exact xfC)) | ((fail_if_success (with_reducible first | refine xgon ?_ | intro _)); (conv => whnf); (fail_if_success (fail_if_success (with_reducible first | refine xstp ?_ | refine Both.mk ?_ ?_ | refine xgon ?_ | intro _)))))
    all_goals first
      | (refine FinK.mk ⟨[0], _, _, ⟨rfl, rfl⟩, ?_⟩; (repeat' first | refine And.intro ?_ ?_ | exact xeC | fail)
         all_goals (first | exact decide_eq_true (by unfold rngP; omega) | exact decide_eq_false (by unfold rngP; omega) | exact (decide_eq_true (by unfold rngP; omega)).symm | exact (decide_eq_false (by unfold rngP; omega)).symm | exact decide_eq_decide.2 (by unfold rngP; omega))
         done)
      | skip
    refine xcal (σ := []) (nl := []) (chas (letL x.k) 102 (letL_len x.k)) ?_
    rintro v h' ⟨rfl, rfl⟩ hcaps
    rw [hasF]
    refine rH15pB0 ?_
    repeat' (first | (fail_if_success (with_reducible refine xstp ?_)); first | ((with_reducible refine And.intro (fun (hb : _ = true) => ?_) (fun (hb : _ = false) => ?_)) <;> replace hb := xnC hb <;> (try first | exact xfC | exact bff hb (by assumption) | exact bff (by assumption) hb)) | (with_reducible refine Both.mk ?_ ?_) | ((with_reducible refine And.intro ?_ ?_); focus exact xoC) | ((with_reducible refine Or.inl ⟨?_, ?_, ?_⟩); (focus rfl); focus exact xaC) | ((with_reducible refine xwB ?_ ?_); focus exact xaC) | ((with_reducible refine xwC ?_ ?_); focus exact xaC) | ((with_reducible refine xwD ?_ ?_); focus exact xaC) | ((with_reducible refine xwE ?_ ?_); focus exact xaC) | (with_reducible intro hc; (try simp only [capsP, and_true] at hc); (try exact xfC)) | ((fail_if_success (with_reducible first | refine xgon ?_ | intro _)); (conv => whnf); (fail_if_success (fail_if_success (with_reducible first | refine xstp ?_ | refine Both.mk ?_ ?_ | refine xgon ?_ | intro _)))))
    refine xcal (σ := []) (nl := []) (cin (x.k = 2 ∨ x.k = 3 ∨ x.k = 4) (x.f) (1) (1099511627776)) ?_
    rintro v h' ⟨rfl, rfl⟩ hcaps
    refine rH15pB0 ?_
    repeat' (first | (fail_if_success (with_reducible refine xstp ?_)); first | ((with_reducible refine And.intro (fun (hb : _ = true) => ?_) (fun (hb : _ = false) => ?_)) <;> replace hb := xnC hb <;> (try first | exact xfC | exact bff hb (by assumption) | exact bff (by assumption) hb)) | (with_reducible refine Both.mk ?_ ?_) | ((with_reducible refine And.intro ?_ ?_); focus exact xoC) | ((with_reducible refine Or.inl ⟨?_, ?_, ?_⟩); (focus rfl); focus exact xaC) | ((with_reducible refine xwB ?_ ?_); focus exact xaC) | ((with_reducible refine xwC ?_ ?_); focus exact xaC) | ((with_reducible refine xwD ?_ ?_); focus exact xaC) | ((with_reducible refine xwE ?_ ?_); focus exact xaC) | (with_reducible intro hc; (try simp only [capsP, and_true] at hc); (try exact xfC)) | ((fail_if_success (with_reducible first | refine xgon ?_ | intro _)); (conv => whnf); (fail_if_success (fail_if_success (with_reducible first | refine xstp ?_ | refine Both.mk ?_ ?_ | refine xgon ?_ | intro _)))))
    all_goals first
      | (refine FinK.mk ⟨[0], _, _, ⟨rfl, rfl⟩, ?_⟩; (repeat' first | refine And.intro ?_ ?_ | exact xeC | fail)
         all_goals (first | exact decide_eq_true (by unfold rngP; omega) | exact decide_eq_false (by unfold rngP; omega) | exact (decide_eq_true (by unfold rngP; omega)).symm | exact (decide_eq_false (by unfold rngP; omega)).symm | exact decide_eq_decide.2 (by unfold rngP; omega))
         done)
      | skip
    refine xcal (σ := []) (nl := []) (chas (letL x.k) 108 (letL_len x.k)) ?_
    rintro v h' ⟨rfl, rfl⟩ hcaps
    rw [hasL]
    refine rH15pB0 ?_
    repeat' (first | (fail_if_success (with_reducible refine xstp ?_)); first | ((with_reducible refine And.intro (fun (hb : _ = true) => ?_) (fun (hb : _ = false) => ?_)) <;> replace hb := xnC hb <;> (try first | exact xfC | exact bff hb (by assumption) | exact bff (by assumption) hb)) | (with_reducible refine Both.mk ?_ ?_) | ((with_reducible refine And.intro ?_ ?_); focus exact xoC) | ((with_reducible refine Or.inl ⟨?_, ?_, ?_⟩); (focus rfl); focus exact xaC) | ((with_reducible refine xwB ?_ ?_); focus exact xaC) | ((with_reducible refine xwC ?_ ?_); focus exact xaC) | ((with_reducible refine xwD ?_ ?_); focus exact xaC) | ((with_reducible refine xwE ?_ ?_); focus exact xaC) | (with_reducible intro hc; (try simp only [capsP, and_true] at hc); (try exact xfC)) | ((fail_if_success (with_reducible first | refine xgon ?_ | intro _)); (conv => whnf); (fail_if_success (fail_if_success (with_reducible first | refine xstp ?_ | refine Both.mk ?_ ?_ | refine xgon ?_ | intro _)))))
    refine xcal (σ := []) (nl := []) (cin (x.k = 2 ∨ x.k = 3 ∨ x.k = 4) (x.la) (0) (1099511627776)) ?_
    rintro v h' ⟨rfl, rfl⟩ hcaps
    refine rH15pB0 ?_
    repeat' (first | (fail_if_success (with_reducible refine xstp ?_)); first | ((with_reducible refine And.intro (fun (hb : _ = true) => ?_) (fun (hb : _ = false) => ?_)) <;> replace hb := xnC hb <;> (try first | exact xfC | exact bff hb (by assumption) | exact bff (by assumption) hb)) | (with_reducible refine Both.mk ?_ ?_) | ((with_reducible refine And.intro ?_ ?_); focus exact xoC) | ((with_reducible refine Or.inl ⟨?_, ?_, ?_⟩); (focus rfl); focus exact xaC) | ((with_reducible refine xwB ?_ ?_); focus exact xaC) | ((with_reducible refine xwC ?_ ?_); focus exact xaC) | ((with_reducible refine xwD ?_ ?_); focus exact xaC) | ((with_reducible refine xwE ?_ ?_); focus exact xaC) | (with_reducible intro hc; (try simp only [capsP, and_true] at hc); (try exact xfC)) | ((fail_if_success (with_reducible first | refine xgon ?_ | intro _)); (conv => whnf); (fail_if_success (fail_if_success (with_reducible first | refine xstp ?_ | refine Both.mk ?_ ?_ | refine xgon ?_ | intro _)))))
    all_goals first
      | (refine FinK.mk ⟨[0], _, _, ⟨rfl, rfl⟩, ?_⟩; (repeat' first | refine And.intro ?_ ?_ | exact xeC | fail)
         all_goals (first | exact decide_eq_true (by unfold rngP; omega) | exact decide_eq_false (by unfold rngP; omega) | exact (decide_eq_true (by unfold rngP; omega)).symm | exact (decide_eq_false (by unfold rngP; omega)).symm | exact decide_eq_decide.2 (by unfold rngP; omega))
         done)
      | skip
    refine xcal (σ := []) (nl := []) (chas (letL x.k) 97 (letL_len x.k)) ?_
    rintro v h' ⟨rfl, rfl⟩ hcaps
    rw [hasA]
    refine rH15pB0 ?_
    repeat' (first | (fail_if_success (with_reducible refine xstp ?_)); first | ((with_reducible refine And.intro (fun (hb : _ = true) => ?_) (fun (hb : _ = false) => ?_)) <;> replace hb := xnC hb <;> (try first | exact xfC | exact bff hb (by assumption) | exact bff (by assumption) hb)) | (with_reducible refine Both.mk ?_ ?_) | ((with_reducible refine And.intro ?_ ?_); focus exact xoC) | ((with_reducible refine Or.inl ⟨?_, ?_, ?_⟩); (focus rfl); focus exact xaC) | ((with_reducible refine xwB ?_ ?_); focus exact xaC) | ((with_reducible refine xwC ?_ ?_); focus exact xaC) | ((with_reducible refine xwD ?_ ?_); focus exact xaC) | ((with_reducible refine xwE ?_ ?_); focus exact xaC) | (with_reducible intro hc; (try simp only [capsP, and_true] at hc); (try exact xfC)) | ((fail_if_success (with_reducible first | refine xgon ?_ | intro _)); (conv => whnf); (fail_if_success (fail_if_success (with_reducible first | refine xstp ?_ | refine Both.mk ?_ ?_ | refine xgon ?_ | intro _)))))
    refine xcal (σ := []) (nl := []) (cin (1 ≤ x.k ∧ x.k ≤ 5) (x.at') (0) (1099511627776)) ?_
    rintro v h' ⟨rfl, rfl⟩ hcaps
    refine rH15pB0 ?_
    repeat' (first | (fail_if_success (with_reducible refine xstp ?_)); first | ((with_reducible refine And.intro (fun (hb : _ = true) => ?_) (fun (hb : _ = false) => ?_)) <;> replace hb := xnC hb <;> (try first | exact xfC | exact bff hb (by assumption) | exact bff (by assumption) hb)) | (with_reducible refine Both.mk ?_ ?_) | ((with_reducible refine And.intro ?_ ?_); focus exact xoC) | ((with_reducible refine Or.inl ⟨?_, ?_, ?_⟩); (focus rfl); focus exact xaC) | ((with_reducible refine xwB ?_ ?_); focus exact xaC) | ((with_reducible refine xwC ?_ ?_); focus exact xaC) | ((with_reducible refine xwD ?_ ?_); focus exact xaC) | ((with_reducible refine xwE ?_ ?_); focus exact xaC) | (with_reducible intro hc; (try simp only [capsP, and_true] at hc); (try exact xfC)) | ((fail_if_success (with_reducible first | refine xgon ?_ | intro _)); (conv => whnf); (fail_if_success (fail_if_success (with_reducible first | refine xstp ?_ | refine Both.mk ?_ ?_ | refine xgon ?_ | intro _)))))
    refine FinK.mk ⟨[0], _, _, ⟨rfl, rfl⟩, ?_⟩; (repeat' first | refine And.intro ?_ ?_ | exact xeC | fail)
    all_goals (first | exact decide_eq_true (by unfold rngP; omega) | exact decide_eq_false (by unfold rngP; omega) | exact (decide_eq_true (by unfold rngP; omega)).symm | exact (decide_eq_false (by unfold rngP; omega)).symm | exact decide_eq_decide.2 (by unfold rngP; omega))
  · skip
    refine xcal (σ := []) (nl := []) (cinT (x.fr) (0) (7)) ?_
    rintro v h' ⟨rfl, rfl⟩ hcaps
    refine rH15pB0 ?_
    repeat' (first | (fail_if_success (with_reducible refine xstp ?_)); first | ((with_reducible refine And.intro (fun (hb : _ = true) => ?_) (fun (hb : _ = false) => ?_)) <;> replace hb := xnC hb <;> (try first | exact xfC | exact bff hb (by assumption) | exact bff (by assumption) hb)) | (with_reducible refine Both.mk ?_ ?_) | ((with_reducible refine And.intro ?_ ?_); focus exact xoC) | ((with_reducible refine Or.inl ⟨?_, ?_, ?_⟩); (focus rfl); focus exact xaC) | ((with_reducible refine xwB ?_ ?_); focus exact xaC) | ((with_reducible refine xwC ?_ ?_); focus exact xaC) | ((with_reducible refine xwD ?_ ?_); focus exact xaC) | ((with_reducible refine xwE ?_ ?_); focus exact xaC) | (with_reducible intro hc; (try simp only [capsP, and_true] at hc); (try exact xfC)) | ((fail_if_success (with_reducible first | refine xgon ?_ | intro _)); (conv => whnf); (fail_if_success (fail_if_success (with_reducible first | refine xstp ?_ | refine Both.mk ?_ ?_ | refine xgon ?_ | intro _)))))
    all_goals first
      | (refine FinK.mk ⟨[0], _, _, ⟨rfl, rfl⟩, ?_⟩; (repeat' first | refine And.intro ?_ ?_ | exact xeC | fail)
         all_goals (first | exact decide_eq_true (by unfold rngP; omega) | exact decide_eq_false (by unfold rngP; omega) | exact (decide_eq_true (by unfold rngP; omega)).symm | exact (decide_eq_false (by unfold rngP; omega)).symm | exact decide_eq_decide.2 (by unfold rngP; omega))
         done)
      | skip
    refine xcal (σ := []) (nl := []) (cinT (x.to) (0) (7)) ?_
    rintro v h' ⟨rfl, rfl⟩ hcaps
    refine rH15pB0 ?_
    repeat' (first | (fail_if_success (with_reducible refine xstp ?_)); first | ((with_reducible refine And.intro (fun (hb : _ = true) => ?_) (fun (hb : _ = false) => ?_)) <;> replace hb := xnC hb <;> (try first | exact xfC | exact bff hb (by assumption) | exact bff (by assumption) hb)) | (with_reducible refine Both.mk ?_ ?_) | ((with_reducible refine And.intro ?_ ?_); focus exact xoC) | ((with_reducible refine Or.inl ⟨?_, ?_, ?_⟩); (focus rfl); focus exact xaC) | ((with_reducible refine xwB ?_ ?_); focus exact xaC) | ((with_reducible refine xwC ?_ ?_); focus exact xaC) | ((with_reducible refine xwD ?_ ?_); focus exact xaC) | ((with_reducible refine xwE ?_ ?_); focus exact xaC) | (with_reducible intro hc; (try simp only [capsP, and_true] at hc); (try exact xfC)) | ((fail_if_success (with_reducible first | refine xgon ?_ | intro _)); (conv => whnf); (fail_if_success (fail_if_success (with_reducible first | refine xstp ?_ | refine Both.mk ?_ ?_ | refine xgon ?_ | intro _)))))
    all_goals first
      | (refine FinK.mk ⟨[0], _, _, ⟨rfl, rfl⟩, ?_⟩; (repeat' first | refine And.intro ?_ ?_ | exact xeC | fail)
         all_goals (first | exact decide_eq_true (by unfold rngP; omega) | exact decide_eq_false (by unfold rngP; omega) | exact (decide_eq_true (by unfold rngP; omega)).symm | exact (decide_eq_false (by unfold rngP; omega)).symm | exact decide_eq_decide.2 (by unfold rngP; omega))
         done)
      | skip
    refine xcal (σ := []) (nl := []) (chas (letL x.k) 119 (letL_len x.k)) ?_
    rintro v h' ⟨rfl, rfl⟩ hcaps
    rw [hasW]
    refine rH15pB0 ?_
    repeat' (first | (fail_if_success (with_reducible refine xstp ?_)); first | ((with_reducible refine And.intro (fun (hb : _ = true) => ?_) (fun (hb : _ = false) => ?_)) <;> replace hb := xnC hb <;> (try first | exact xfC | exact bff hb (by assumption) | exact bff (by assumption) hb)) | (with_reducible refine Both.mk ?_ ?_) | ((with_reducible refine And.intro ?_ ?_); focus exact xoC) | ((with_reducible refine Or.inl ⟨?_, ?_, ?_⟩); (focus rfl); focus exact xaC) | ((with_reducible refine xwB ?_ ?_); focus exact xaC) | ((with_reducible refine xwC ?_ ?_); focus exact xaC) | ((with_reducible refine xwD ?_ ?_); focus exact xaC) | ((with_reducible refine xwE ?_ ?_); focus exact xaC) | (with_reducible intro hc; (try simp only [capsP, and_true] at hc); (try exact xfC)) | ((fail_if_success (with_reducible first | refine xgon ?_ | intro _)); (conv => whnf); (fail_if_success (fail_if_success (with_reducible first | refine xstp ?_ | refine Both.mk ?_ ?_ | refine xgon ?_ | intro _)))))
    refine xcal (σ := []) (nl := []) (cin (1 ≤ x.k ∧ x.k ≤ 5) (x.w) (1) (1073741824)) ?_
    rintro v h' ⟨rfl, rfl⟩ hcaps
    refine rH15pB0 ?_
    repeat' (first | (fail_if_success (with_reducible refine xstp ?_)); first | ((with_reducible refine And.intro (fun (hb : _ = true) => ?_) (fun (hb : _ = false) => ?_)) <;> replace hb := xnC hb <;> (try first | exact xfC | exact bff hb (by assumption) | exact bff (by assumption) hb)) | (with_reducible refine Both.mk ?_ ?_) | ((with_reducible refine And.intro ?_ ?_); focus exact xoC) | ((with_reducible refine Or.inl ⟨?_, ?_, ?_⟩); (focus rfl); focus exact xaC) | ((with_reducible refine xwB ?_ ?_); focus exact xaC) | ((with_reducible refine xwC ?_ ?_); focus exact xaC) | ((with_reducible refine xwD ?_ ?_); focus exact xaC) | ((with_reducible refine xwE ?_ ?_); focus exact xaC) | (with_reducible intro hc; (try simp only [capsP, and_true] at hc); (try exact xfC)) | ((fail_if_success (with_reducible first | refine xgon ?_ | intro _)); (conv => whnf); (fail_if_success (fail_if_success (with_reducible first | refine xstp ?_ | refine Both.mk ?_ ?_ | refine xgon ?_ | intro _)))))
    all_goals first
      | (refine FinK.mk ⟨[0], _, _, ⟨rfl, rfl⟩, ?_⟩; (repeat' first | refine And.intro ?_ ?_ | exact xeC | fail)
         all_goals (first | exact decide_eq_true (by unfold rngP; omega) | exact decide_eq_false (by unfold rngP; omega) | exact (decide_eq_true (by unfold rngP; omega)).symm | exact (decide_eq_false (by unfold rngP; omega)).symm | exact decide_eq_decide.2 (by unfold rngP; omega))
         done)
      | skip
    refine xcal (σ := []) (nl := []) (chas (letL x.k) 114 (letL_len x.k)) ?_
    rintro v h' ⟨rfl, rfl⟩ hcaps
    rw [hasR]
    refine rH15pB0 ?_
    repeat' (first | (fail_if_success (with_reducible refine xstp ?_)); first | ((with_reducible refine And.intro (fun (hb : _ = true) => ?_) (fun (hb : _ = false) => ?_)) <;> replace hb := xnC hb <;> (try first | exact xfC | exact bff hb (by assumption) | exact bff (by assumption) hb)) | (with_reducible refine Both.mk ?_ ?_) | ((with_reducible refine And.intro ?_ ?_); focus exact xoC) | ((with_reducible refine Or.inl ⟨?_, ?_, ?_⟩); (focus rfl); focus exact xaC) | ((with_reducible refine xwB ?_ ?_); focus exact xaC) | ((with_reducible refine xwC ?_ ?_); focus exact xaC) | ((with_reducible refine xwD ?_ ?_); focus exact xaC) | ((with_reducible refine xwE ?_ ?_); focus exact xaC) | (with_reducible intro hc; (try simp only [capsP, and_true] at hc); (try exact xfC)) | ((fail_if_success (with_reducible first | refine xgon ?_ | intro _)); (conv => whnf); (fail_if_success (fail_if_success (with_reducible first | refine xstp ?_ | refine Both.mk ?_ ?_ | refine xgon ?_ | intro _)))))
    refine xcal (σ := []) (nl := []) (cin (1 ≤ x.k ∧ x.k ≤ 5) (x.r) (1) (1073741824)) ?_
    rintro v h' ⟨rfl, rfl⟩ hcaps
    refine rH15pB0 ?_
    repeat' (first | (fail_if_success (with_reducible refine xstp ?_)); first | ((with_reducible refine And.intro (fun (hb : _ = true) => ?_) (fun (hb : _ = false) => ?_)) <;> replace hb := xnC hb <;> (try first | exact xfC | exact bff hb (by assumption) | exact bff (by assumption) hb)) | (with_reducible refine Both.mk ?_ ?_) | ((with_reducible refine And.intro ?_ ?_); focus exact xoC) | ((with_reducible refine Or.inl ⟨?_, ?_, ?_⟩); (focus rfl); focus exact xaC) | ((with_reducible refine xwB ?_ ?_); focus exact xaC) | ((with_reducible refine xwC ?_ ?_); focus exact xaC) | ((with_reducible refine xwD ?_ ?_); focus exact xaC) | ((with_reducible refine xwE ?_ ?_); focus exact xaC) | (with_reducible intro hc; (try simp only [capsP, and_true] at hc); (try exact xfC)) | ((fail_if_success (with_reducible first | refine xgon ?_ | intro _)); (conv => whnf); (fail_if_success (fail_if_success (with_reducible first | refine xstp ?_ | refine Both.mk ?_ ?_ | refine xgon ?_ | intro _)))))
    all_goals first
      | (refine FinK.mk ⟨[0], _, _, ⟨rfl, rfl⟩, ?_⟩; (repeat' first | refine And.intro ?_ ?_ | exact xeC | fail)
         all_goals (first | exact decide_eq_true (by unfold rngP; omega) | exact decide_eq_false (by unfold rngP; omega) | exact (decide_eq_true (by unfold rngP; omega)).symm | exact (decide_eq_false (by unfold rngP; omega)).symm | exact decide_eq_decide.2 (by unfold rngP; omega))
         done)
      | skip
    refine xcal (σ := []) (nl := []) (chas (letL x.k) 115 (letL_len x.k)) ?_
    rintro v h' ⟨rfl, rfl⟩ hcaps
    rw [hasS]
    refine rH15pB0 ?_
    repeat' (first | (fail_if_success (with_reducible refine xstp ?_)); first | ((with_reducible refine And.intro (fun (hb : _ = true) => ?_) (fun (hb : _ = false) => ?_)) <;> replace hb := xnC hb <;> (try first | exact xfC | exact bff hb (by assumption) | exact bff (by assumption) hb)) | (with_reducible refine Both.mk ?_ ?_) | ((with_reducible refine And.intro ?_ ?_); focus exact xoC) | ((with_reducible refine Or.inl ⟨?_, ?_, ?_⟩); (focus rfl); focus exact xaC) | ((with_reducible refine xwB ?_ ?_); focus exact xaC) | ((with_reducible refine xwC ?_ ?_); focus exact xaC) | ((with_reducible refine xwD ?_ ?_); focus exact xaC) | ((with_reducible refine xwE ?_ ?_); focus exact xaC) | (with_reducible intro hc; (try simp only [capsP, and_true] at hc); (try exact xfC)) | ((fail_if_success (with_reducible first | refine xgon ?_ | intro _)); (conv => whnf); (fail_if_success (fail_if_success (with_reducible first | refine xstp ?_ | refine Both.mk ?_ ?_ | refine xgon ?_ | intro _)))))
    refine xcal (σ := []) (nl := []) (cin (x.k = 1 ∨ x.k = 4 ∨ x.k = 5) (x.q) (1) (1099511627776)) ?_
    rintro v h' ⟨rfl, rfl⟩ hcaps
    refine rH15pB0 ?_
    repeat' (first | (fail_if_success (with_reducible refine xstp ?_)); first | ((with_reducible refine And.intro (fun (hb : _ = true) => ?_) (fun (hb : _ = false) => ?_)) <;> replace hb := xnC hb <;> (try first | exact xfC | exact bff hb (by assumption) | exact bff (by assumption) hb)) | (with_reducible refine Both.mk ?_ ?_) | ((with_reducible refine And.intro ?_ ?_); focus exact xoC) | ((with_reducible refine Or.inl ⟨?_, ?_, ?_⟩); (focus rfl); focus exact xaC) | ((with_reducible refine xwB ?_ ?_); focus exact xaC) | ((with_reducible refine xwC ?_ ?_); focus exact xaC) | ((with_reducible refine xwD ?_ ?_); focus exact xaC) | ((with_reducible refine xwE ?_ ?_); focus exact xaC) | (with_reducible intro hc; (try simp only [capsP, and_true] at hc); (try exact xfC)) | ((fail_if_success (with_reducible first | refine xgon ?_ | intro _)); (conv => whnf); (fail_if_success (fail_if_success (with_reducible first | refine xstp ?_ | refine Both.mk ?_ ?_ | refine xgon ?_ | intro _)))))
    all_goals first
      | (refine FinK.mk ⟨[0], _, _, ⟨rfl, rfl⟩, ?_⟩; (repeat' first | refine And.intro ?_ ?_ | exact xeC | fail)
         all_goals (first | exact decide_eq_true (by unfold rngP; omega) | exact decide_eq_false (by unfold rngP; omega) | exact (decide_eq_true (by unfold rngP; omega)).symm | exact (decide_eq_false (by unfold rngP; omega)).symm | exact decide_eq_decide.2 (by unfold rngP; omega))
         done)
      | skip
    refine xcal (σ := []) (nl := []) (chas (letL x.k) 102 (letL_len x.k)) ?_
    rintro v h' ⟨rfl, rfl⟩ hcaps
    rw [hasF]
    refine rH15pB0 ?_
    repeat' (first | (fail_if_success (with_reducible refine xstp ?_)); first | ((with_reducible refine And.intro (fun (hb : _ = true) => ?_) (fun (hb : _ = false) => ?_)) <;> replace hb := xnC hb <;> (try first | exact xfC | exact bff hb (by assumption) | exact bff (by assumption) hb)) | (with_reducible refine Both.mk ?_ ?_) | ((with_reducible refine And.intro ?_ ?_); focus exact xoC) | ((with_reducible refine Or.inl ⟨?_, ?_, ?_⟩); (focus rfl); focus exact xaC) | ((with_reducible refine xwB ?_ ?_); focus exact xaC) | ((with_reducible refine xwC ?_ ?_); focus exact xaC) | ((with_reducible refine xwD ?_ ?_); focus exact xaC) | ((with_reducible refine xwE ?_ ?_); focus exact xaC) | (with_reducible intro hc; (try simp only [capsP, and_true] at hc); (try exact xfC)) | ((fail_if_success (with_reducible first | refine xgon ?_ | intro _)); (conv => whnf); (fail_if_success (fail_if_success (with_reducible first | refine xstp ?_ | refine Both.mk ?_ ?_ | refine xgon ?_ | intro _)))))
    refine xcal (σ := []) (nl := []) (cin (x.k = 2 ∨ x.k = 3 ∨ x.k = 4) (x.f) (1) (1099511627776)) ?_
    rintro v h' ⟨rfl, rfl⟩ hcaps
    refine rH15pB0 ?_
    repeat' (first | (fail_if_success (with_reducible refine xstp ?_)); first | ((with_reducible refine And.intro (fun (hb : _ = true) => ?_) (fun (hb : _ = false) => ?_)) <;> replace hb := xnC hb <;> (try first | exact xfC | exact bff hb (by assumption) | exact bff (by assumption) hb)) | (with_reducible refine Both.mk ?_ ?_) | ((with_reducible refine And.intro ?_ ?_); focus exact xoC) | ((with_reducible refine Or.inl ⟨?_, ?_, ?_⟩); (focus rfl); focus exact xaC) | ((with_reducible refine xwB ?_ ?_); focus exact xaC) | ((with_reducible refine xwC ?_ ?_); focus exact xaC) | ((with_reducible refine xwD ?_ ?_); focus exact xaC) | ((with_reducible refine xwE ?_ ?_); focus exact xaC) | (with_reducible intro hc; (try simp only [capsP, and_true] at hc); (try exact xfC)) | ((fail_if_success (with_reducible first | refine xgon ?_ | intro _)); (conv => whnf); (fail_if_success (fail_if_success (with_reducible first | refine xstp ?_ | refine Both.mk ?_ ?_ | refine xgon ?_ | intro _)))))
    all_goals first
      | (refine FinK.mk ⟨[0], _, _, ⟨rfl, rfl⟩, ?_⟩; (repeat' first | refine And.intro ?_ ?_ | exact xeC | fail)
         all_goals (first | exact decide_eq_true (by unfold rngP; omega) | exact decide_eq_false (by unfold rngP; omega) | exact (decide_eq_true (by unfold rngP; omega)).symm | exact (decide_eq_false (by unfold rngP; omega)).symm | exact decide_eq_decide.2 (by unfold rngP; omega))
         done)
      | skip
    refine xcal (σ := []) (nl := []) (chas (letL x.k) 108 (letL_len x.k)) ?_
    rintro v h' ⟨rfl, rfl⟩ hcaps
    rw [hasL]
    refine rH15pB0 ?_
    repeat' (first | (fail_if_success (with_reducible refine xstp ?_)); first | ((with_reducible refine And.intro (fun (hb : _ = true) => ?_) (fun (hb : _ = false) => ?_)) <;> replace hb := xnC hb <;> (try first | exact xfC | exact bff hb (by assumption) | exact bff (by assumption) hb)) | (with_reducible refine Both.mk ?_ ?_) | ((with_reducible refine And.intro ?_ ?_); focus exact xoC) | ((with_reducible refine Or.inl ⟨?_, ?_, ?_⟩); (focus rfl); focus exact xaC) | ((with_reducible refine xwB ?_ ?_); focus exact xaC) | ((with_reducible refine xwC ?_ ?_); focus exact xaC) | ((with_reducible refine xwD ?_ ?_); focus exact xaC) | ((with_reducible refine xwE ?_ ?_); focus exact xaC) | (with_reducible intro hc; (try simp only [capsP, and_true] at hc); (try exact xfC)) | ((fail_if_success (with_reducible first | refine xgon ?_ | intro _)); (conv => whnf); (fail_if_success (fail_if_success (with_reducible first | refine xstp ?_ | refine Both.mk ?_ ?_ | refine xgon ?_ | intro _)))))
    refine xcal (σ := []) (nl := []) (cin (x.k = 2 ∨ x.k = 3 ∨ x.k = 4) (x.la) (0) (1099511627776)) ?_
    rintro v h' ⟨rfl, rfl⟩ hcaps
    refine rH15pB0 ?_
    repeat' (first | (fail_if_success (with_reducible refine xstp ?_)); first | ((with_reducible refine And.intro (fun (hb : _ = true) => ?_) (fun (hb : _ = false) => ?_)) <;> replace hb := xnC hb <;> (try first | exact xfC | exact bff hb (by assumption) | exact bff (by assumption) hb)) | (with_reducible refine Both.mk ?_ ?_) | ((with_reducible refine And.intro ?_ ?_); focus exact xoC) | ((with_reducible refine Or.inl ⟨?_, ?_, ?_⟩); (focus rfl); focus exact xaC) | ((with_reducible refine xwB ?_ ?_); focus exact xaC) | ((with_reducible refine xwC ?_ ?_); focus exact xaC) | ((with_reducible refine xwD ?_ ?_); focus exact xaC) | ((with_reducible refine xwE ?_ ?_); focus exact xaC) | (with_reducible intro hc; (try simp only [capsP, and_true] at hc); (try exact xfC)) | ((fail_if_success (with_reducible first | refine xgon ?_ | intro _)); (conv => whnf); (fail_if_success (fail_if_success (with_reducible first | refine xstp ?_ | refine Both.mk ?_ ?_ | refine xgon ?_ | intro _)))))
    all_goals first
      | (refine FinK.mk ⟨[0], _, _, ⟨rfl, rfl⟩, ?_⟩; (repeat' first | refine And.intro ?_ ?_ | exact xeC | fail)
         all_goals (first | exact decide_eq_true (by unfold rngP; omega) | exact decide_eq_false (by unfold rngP; omega) | exact (decide_eq_true (by unfold rngP; omega)).symm | exact (decide_eq_false (by unfold rngP; omega)).symm | exact decide_eq_decide.2 (by unfold rngP; omega))
         done)
      | skip
    refine xcal (σ := []) (nl := []) (chas (letL x.k) 97 (letL_len x.k)) ?_
    rintro v h' ⟨rfl, rfl⟩ hcaps
    rw [hasA]
    refine rH15pB0 ?_
    repeat' (first | (fail_if_success (with_reducible refine xstp ?_)); first | ((with_reducible refine And.intro (fun (hb : _ = true) => ?_) (fun (hb : _ = false) => ?_)) <;> replace hb := xnC hb <;> (try first | exact xfC | exact bff hb (by assumption) | exact bff (by assumption) hb)) | (with_reducible refine Both.mk ?_ ?_) | ((with_reducible refine And.intro ?_ ?_); focus exact xoC) | ((with_reducible refine Or.inl ⟨?_, ?_, ?_⟩); (focus rfl); focus exact xaC) | ((with_reducible refine xwB ?_ ?_); focus exact xaC) | ((with_reducible refine xwC ?_ ?_); focus exact xaC) | ((with_reducible refine xwD ?_ ?_); focus exact xaC) | ((with_reducible refine xwE ?_ ?_); focus exact xaC) | (with_reducible intro hc; (try simp only [capsP, and_true] at hc); (try exact xfC)) | ((fail_if_success (with_reducible first | refine xgon ?_ | intro _)); (conv => whnf); (fail_if_success (fail_if_success (with_reducible first | refine xstp ?_ | refine Both.mk ?_ ?_ | refine xgon ?_ | intro _)))))
    refine xcal (σ := []) (nl := []) (cin (1 ≤ x.k ∧ x.k ≤ 5) (x.at') (0) (1099511627776)) ?_
    rintro v h' ⟨rfl, rfl⟩ hcaps
    refine rH15pB0 ?_
    repeat' (first | (fail_if_success (with_reducible refine xstp ?_)); first | ((with_reducible refine And.intro (fun (hb : _ = true) => ?_) (fun (hb : _ = false) => ?_)) <;> replace hb := xnC hb <;> (try first | exact xfC | exact bff hb (by assumption) | exact bff (by assumption) hb)) | (with_reducible refine Both.mk ?_ ?_) | ((with_reducible refine And.intro ?_ ?_); focus exact xoC) | ((with_reducible refine Or.inl ⟨?_, ?_, ?_⟩); (focus rfl); focus exact xaC) | ((with_reducible refine xwB ?_ ?_); focus exact xaC) | ((with_reducible refine xwC ?_ ?_); focus exact xaC) | ((with_reducible refine xwD ?_ ?_); focus exact xaC) | ((with_reducible refine xwE ?_ ?_); focus exact xaC) | (with_reducible intro hc; (try simp only [capsP, and_true] at hc); (try exact xfC)) | ((fail_if_success (with_reducible first | refine xgon ?_ | intro _)); (conv => whnf); (fail_if_success (fail_if_success (with_reducible first | refine xstp ?_ | refine Both.mk ?_ ?_ | refine xgon ?_ | intro _)))))
    refine FinK.mk ⟨[0], _, _, ⟨rfl, rfl⟩, ?_⟩; (repeat' first | refine And.intro ?_ ?_ | exact xeC | fail)
    all_goals (first | exact decide_eq_true (by unfold rngP; omega) | exact decide_eq_false (by unfold rngP; omega) | exact (decide_eq_true (by unfold rngP; omega)).symm | exact (decide_eq_false (by unfold rngP; omega)).symm | exact decide_eq_decide.2 (by unfold rngP; omega))

set_option maxRecDepth 10000 in
set_option maxHeartbeats 4000000 in
theorem cunused (x : Pk) (c : Nat) (hk : 1 ≤ x.k ∧ x.k ≤ 5) (hm : x.m.length ≤ 1000000) :
    Ctr Try.prog 61 [.a (encP (.sl 0 0 1 0 x.m.length c) x)] [.one .no] fun v h => v = .c (.b (decide (unuP x))) ∧ h = [.one .no] := by
  refine Ctr.mk' tbv mixed Try.func61 rfl rfl rfl (fun _ _ => by kernel_rfl) (by kernel_rfl) (by rfl) (by rfl) (by (repeat' first | refine And.intro ?_ ?_ | exact xeC | fail)) ?_
  repeat' (first | (fail_if_success (with_reducible refine xstp ?_)); first | ((with_reducible refine And.intro (fun (hb : _ = true) => ?_) (fun (hb : _ = false) => ?_)) <;> replace hb := xnC hb <;> (try first | exact xfC | exact bff hb (by assumption) | exact bff (by assumption) hb)) | (with_reducible refine Both.mk ?_ ?_) | ((with_reducible refine And.intro ?_ ?_); focus exact xoC) | ((with_reducible refine Or.inl ⟨?_, ?_, ?_⟩); (focus rfl); focus exact xaC) | ((with_reducible refine xwB ?_ ?_); focus exact xaC) | ((with_reducible refine xwC ?_ ?_); focus exact xaC) | ((with_reducible refine xwD ?_ ?_); focus exact xaC) | ((with_reducible refine xwE ?_ ?_); focus exact xaC) | (with_reducible intro hc; (try simp only [capsP, and_true] at hc); (try exact xfC)) | ((fail_if_success (with_reducible first | refine xgon ?_ | intro _)); (conv => whnf); (fail_if_success (fail_if_success (with_reducible first | refine xstp ?_ | refine Both.mk ?_ ?_ | refine xgon ?_ | intro _)))))
  refine xcal (σ := []) (nl := []) (cletters x.k) ?_
  rintro v h' ⟨rfl, rfl⟩ hcaps
  refine rH15pB0 ?_
  repeat' (first | (fail_if_success (with_reducible refine xstp ?_)); first | ((with_reducible refine And.intro (fun (hb : _ = true) => ?_) (fun (hb : _ = false) => ?_)) <;> replace hb := xnC hb <;> (try first | exact xfC | exact bff hb (by assumption) | exact bff (by assumption) hb)) | (with_reducible refine Both.mk ?_ ?_) | ((with_reducible refine And.intro ?_ ?_); focus exact xoC) | ((with_reducible refine Or.inl ⟨?_, ?_, ?_⟩); (focus rfl); focus exact xaC) | ((with_reducible refine xwB ?_ ?_); focus exact xaC) | ((with_reducible refine xwC ?_ ?_); focus exact xaC) | ((with_reducible refine xwD ?_ ?_); focus exact xaC) | ((with_reducible refine xwE ?_ ?_); focus exact xaC) | (with_reducible intro hc; (try simp only [capsP, and_true] at hc); (try exact xfC)) | ((fail_if_success (with_reducible first | refine xgon ?_ | intro _)); (conv => whnf); (fail_if_success (fail_if_success (with_reducible first | refine xstp ?_ | refine Both.mk ?_ ?_ | refine xgon ?_ | intro _)))))
  all_goals first
    | (refine FinK.mk ⟨[0], _, _, ⟨rfl, rfl⟩, ?_⟩; (repeat' first | refine And.intro ?_ ?_ | exact xeC | fail)
       all_goals first
         | exact decide_eq_true (by unfold unuP; omega)
         | exact decide_eq_false (by unfold unuP; omega)
         | (apply Bool.eq_iff_iff.2
            simp only [Bool.not_eq_true', decide_eq_false_iff_not, decide_eq_true_eq, emptyP]
            unfold unuP
            constructor
            · intro h
              exact .inr (.inr (.inr ⟨by omega, h⟩))
            · rintro (h | h | h | h)
              · exfalso; omega
              · exfalso; omega
              · exfalso; omega
              · exact h.2)
       done)
    | skip
  all_goals (
    refine xcal (σ := []) (nl := []) (chas (letL x.k) 119 (letL_len x.k)) ?_
    rintro v h' ⟨rfl, rfl⟩ hcaps
    rw [hasW]
    refine rH15pB0 ?_
    repeat' (first | (fail_if_success (with_reducible refine xstp ?_)); first | ((with_reducible refine And.intro (fun (hb : _ = true) => ?_) (fun (hb : _ = false) => ?_)) <;> replace hb := xnC hb <;> (try first | exact xfC | exact bff hb (by assumption) | exact bff (by assumption) hb)) | (with_reducible refine Both.mk ?_ ?_) | ((with_reducible refine And.intro ?_ ?_); focus exact xoC) | ((with_reducible refine Or.inl ⟨?_, ?_, ?_⟩); (focus rfl); focus exact xaC) | ((with_reducible refine xwB ?_ ?_); focus exact xaC) | ((with_reducible refine xwC ?_ ?_); focus exact xaC) | ((with_reducible refine xwD ?_ ?_); focus exact xaC) | ((with_reducible refine xwE ?_ ?_); focus exact xaC) | (with_reducible intro hc; (try simp only [capsP, and_true] at hc); (try exact xfC)) | ((fail_if_success (with_reducible first | refine xgon ?_ | intro _)); (conv => whnf); (fail_if_success (fail_if_success (with_reducible first | refine xstp ?_ | refine Both.mk ?_ ?_ | refine xgon ?_ | intro _)))))
    all_goals skip)
  all_goals first
    | (refine FinK.mk ⟨[0], _, _, ⟨rfl, rfl⟩, ?_⟩; (repeat' first | refine And.intro ?_ ?_ | exact xeC | fail)
       all_goals first
         | exact decide_eq_true (by unfold unuP; omega)
         | exact decide_eq_false (by unfold unuP; omega)
         | (apply Bool.eq_iff_iff.2
            simp only [Bool.not_eq_true', decide_eq_false_iff_not, decide_eq_true_eq, emptyP]
            unfold unuP
            constructor
            · intro h
              exact .inr (.inr (.inr ⟨by omega, h⟩))
            · rintro (h | h | h | h)
              · exfalso; omega
              · exfalso; omega
              · exfalso; omega
              · exact h.2)
       done)
    | skip
  all_goals (
    refine xcal (σ := []) (nl := []) (chas (letL x.k) 114 (letL_len x.k)) ?_
    rintro v h' ⟨rfl, rfl⟩ hcaps
    rw [hasR]
    refine rH15pB0 ?_
    repeat' (first | (fail_if_success (with_reducible refine xstp ?_)); first | ((with_reducible refine And.intro (fun (hb : _ = true) => ?_) (fun (hb : _ = false) => ?_)) <;> replace hb := xnC hb <;> (try first | exact xfC | exact bff hb (by assumption) | exact bff (by assumption) hb)) | (with_reducible refine Both.mk ?_ ?_) | ((with_reducible refine And.intro ?_ ?_); focus exact xoC) | ((with_reducible refine Or.inl ⟨?_, ?_, ?_⟩); (focus rfl); focus exact xaC) | ((with_reducible refine xwB ?_ ?_); focus exact xaC) | ((with_reducible refine xwC ?_ ?_); focus exact xaC) | ((with_reducible refine xwD ?_ ?_); focus exact xaC) | ((with_reducible refine xwE ?_ ?_); focus exact xaC) | (with_reducible intro hc; (try simp only [capsP, and_true] at hc); (try exact xfC)) | ((fail_if_success (with_reducible first | refine xgon ?_ | intro _)); (conv => whnf); (fail_if_success (fail_if_success (with_reducible first | refine xstp ?_ | refine Both.mk ?_ ?_ | refine xgon ?_ | intro _)))))
    all_goals skip)
  all_goals first
    | (refine FinK.mk ⟨[0], _, _, ⟨rfl, rfl⟩, ?_⟩; (repeat' first | refine And.intro ?_ ?_ | exact xeC | fail)
       all_goals first
         | exact decide_eq_true (by unfold unuP; omega)
         | exact decide_eq_false (by unfold unuP; omega)
         | (apply Bool.eq_iff_iff.2
            simp only [Bool.not_eq_true', decide_eq_false_iff_not, decide_eq_true_eq, emptyP]
            unfold unuP
            constructor
            · intro h
              exact .inr (.inr (.inr ⟨by omega, h⟩))
            · rintro (h | h | h | h)
              · exfalso; omega
              · exfalso; omega
              · exfalso; omega
              · exact h.2)
       done)
    | skip
  all_goals (
    refine xcal (σ := []) (nl := []) (chas (letL x.k) 115 (letL_len x.k)) ?_
    rintro v h' ⟨rfl, rfl⟩ hcaps
    rw [hasS]
    refine rH15pB0 ?_
    repeat' (first | (fail_if_success (with_reducible refine xstp ?_)); first | ((with_reducible refine And.intro (fun (hb : _ = true) => ?_) (fun (hb : _ = false) => ?_)) <;> replace hb := xnC hb <;> (try first | exact xfC | exact bff hb (by assumption) | exact bff (by assumption) hb)) | (with_reducible refine Both.mk ?_ ?_) | ((with_reducible refine And.intro ?_ ?_); focus exact xoC) | ((with_reducible refine Or.inl ⟨?_, ?_, ?_⟩); (focus rfl); focus exact xaC) | ((with_reducible refine xwB ?_ ?_); focus exact xaC) | ((with_reducible refine xwC ?_ ?_); focus exact xaC) | ((with_reducible refine xwD ?_ ?_); focus exact xaC) | ((with_reducible refine xwE ?_ ?_); focus exact xaC) | (with_reducible intro hc; (try simp only [capsP, and_true] at hc); (try exact xfC)) | ((fail_if_success (with_reducible first | refine xgon ?_ | intro _)); (conv => whnf); (fail_if_success (fail_if_success (with_reducible first | refine xstp ?_ | refine Both.mk ?_ ?_ | refine xgon ?_ | intro _)))))
    all_goals skip)
  all_goals first
    | (refine FinK.mk ⟨[0], _, _, ⟨rfl, rfl⟩, ?_⟩; (repeat' first | refine And.intro ?_ ?_ | exact xeC | fail)
       all_goals first
         | exact decide_eq_true (by unfold unuP; omega)
         | exact decide_eq_false (by unfold unuP; omega)
         | (apply Bool.eq_iff_iff.2
            simp only [Bool.not_eq_true', decide_eq_false_iff_not, decide_eq_true_eq, emptyP]
            unfold unuP
            constructor
            · intro h
              exact .inr (.inr (.inr ⟨by omega, h⟩))
            · rintro (h | h | h | h)
              · exfalso; omega
              · exfalso; omega
              · exfalso; omega
              · exact h.2)
       done)
    | skip
  all_goals (
    refine xcal (σ := []) (nl := []) (chas (letL x.k) 102 (letL_len x.k)) ?_
    rintro v h' ⟨rfl, rfl⟩ hcaps
    rw [hasF]
    refine rH15pB0 ?_
    repeat' (first | (fail_if_success (with_reducible refine xstp ?_)); first | ((with_reducible refine And.intro (fun (hb : _ = true) => ?_) (fun (hb : _ = false) => ?_)) <;> replace hb := xnC hb <;> (try first | exact xfC | exact bff hb (by assumption) | exact bff (by assumption) hb)) | (with_reducible refine Both.mk ?_ ?_) | ((with_reducible refine And.intro ?_ ?_); focus exact xoC) | ((with_reducible refine Or.inl ⟨?_, ?_, ?_⟩); (focus rfl); focus exact xaC) | ((with_reducible refine xwB ?_ ?_); focus exact xaC) | ((with_reducible refine xwC ?_ ?_); focus exact xaC) | ((with_reducible refine xwD ?_ ?_); focus exact xaC) | ((with_reducible refine xwE ?_ ?_); focus exact xaC) | (with_reducible intro hc; (try simp only [capsP, and_true] at hc); (try exact xfC)) | ((fail_if_success (with_reducible first | refine xgon ?_ | intro _)); (conv => whnf); (fail_if_success (fail_if_success (with_reducible first | refine xstp ?_ | refine Both.mk ?_ ?_ | refine xgon ?_ | intro _)))))
    all_goals skip)
  all_goals first
    | (refine FinK.mk ⟨[0], _, _, ⟨rfl, rfl⟩, ?_⟩; (repeat' first | refine And.intro ?_ ?_ | exact xeC | fail)
       all_goals first
         | exact decide_eq_true (by unfold unuP; omega)
         | exact decide_eq_false (by unfold unuP; omega)
         | (apply Bool.eq_iff_iff.2
            simp only [Bool.not_eq_true', decide_eq_false_iff_not, decide_eq_true_eq, emptyP]
            unfold unuP
            constructor
            · intro h
              exact .inr (.inr (.inr ⟨by omega, h⟩))
            · rintro (h | h | h | h)
              · exfalso; omega
              · exfalso; omega
              · exfalso; omega
              · exact h.2)
       done)
    | skip
  all_goals (
    refine xcal (σ := []) (nl := []) (chas (letL x.k) 108 (letL_len x.k)) ?_
    rintro v h' ⟨rfl, rfl⟩ hcaps
    rw [hasL]
    refine rH15pB0 ?_
    repeat' (first | (fail_if_success (with_reducible refine xstp ?_)); first | ((with_reducible refine And.intro (fun (hb : _ = true) => ?_) (fun (hb : _ = false) => ?_)) <;> replace hb := xnC hb <;> (try first | exact xfC | exact bff hb (by assumption) | exact bff (by assumption) hb)) | (with_reducible refine Both.mk ?_ ?_) | ((with_reducible refine And.intro ?_ ?_); focus exact xoC) | ((with_reducible refine Or.inl ⟨?_, ?_, ?_⟩); (focus rfl); focus exact xaC) | ((with_reducible refine xwB ?_ ?_); focus exact xaC) | ((with_reducible refine xwC ?_ ?_); focus exact xaC) | ((with_reducible refine xwD ?_ ?_); focus exact xaC) | ((with_reducible refine xwE ?_ ?_); focus exact xaC) | (with_reducible intro hc; (try simp only [capsP, and_true] at hc); (try exact xfC)) | ((fail_if_success (with_reducible first | refine xgon ?_ | intro _)); (conv => whnf); (fail_if_success (fail_if_success (with_reducible first | refine xstp ?_ | refine Both.mk ?_ ?_ | refine xgon ?_ | intro _)))))
    all_goals skip)
  all_goals first
    | (refine FinK.mk ⟨[0], _, _, ⟨rfl, rfl⟩, ?_⟩; (repeat' first | refine And.intro ?_ ?_ | exact xeC | fail)
       all_goals first
         | exact decide_eq_true (by unfold unuP; omega)
         | exact decide_eq_false (by unfold unuP; omega)
         | (apply Bool.eq_iff_iff.2
            simp only [Bool.not_eq_true', decide_eq_false_iff_not, decide_eq_true_eq, emptyP]
            unfold unuP
            constructor
            · intro h
              exact .inr (.inr (.inr ⟨by omega, h⟩))
            · rintro (h | h | h | h)
              · exfalso; omega
              · exfalso; omega
              · exfalso; omega
              · exact h.2)
       done)
    | skip
  all_goals (
    refine xcal (σ := []) (nl := []) (chas (letL x.k) 97 (letL_len x.k)) ?_
    rintro v h' ⟨rfl, rfl⟩ hcaps
    rw [hasA]
    refine rH15pB0 ?_
    repeat' (first | (fail_if_success (with_reducible refine xstp ?_)); first | ((with_reducible refine And.intro (fun (hb : _ = true) => ?_) (fun (hb : _ = false) => ?_)) <;> replace hb := xnC hb <;> (try first | exact xfC | exact bff hb (by assumption) | exact bff (by assumption) hb)) | (with_reducible refine Both.mk ?_ ?_) | ((with_reducible refine And.intro ?_ ?_); focus exact xoC) | ((with_reducible refine Or.inl ⟨?_, ?_, ?_⟩); (focus rfl); focus exact xaC) | ((with_reducible refine xwB ?_ ?_); focus exact xaC) | ((with_reducible refine xwC ?_ ?_); focus exact xaC) | ((with_reducible refine xwD ?_ ?_); focus exact xaC) | ((with_reducible refine xwE ?_ ?_); focus exact xaC) | (with_reducible intro hc; (try simp only [capsP, and_true] at hc); (try exact xfC)) | ((fail_if_success (with_reducible first | refine xgon ?_ | intro _)); (conv => whnf); (fail_if_success (fail_if_success (with_reducible first | refine xstp ?_ | refine Both.mk ?_ ?_ | refine xgon ?_ | intro _)))))
    all_goals skip)
  all_goals first
    | (refine FinK.mk ⟨[0], _, _, ⟨rfl, rfl⟩, ?_⟩; (repeat' first | refine And.intro ?_ ?_ | exact xeC | fail)
       all_goals first
         | exact decide_eq_true (by unfold unuP; omega)
         | exact decide_eq_false (by unfold unuP; omega)
         | (apply Bool.eq_iff_iff.2
            simp only [Bool.not_eq_true', decide_eq_false_iff_not, decide_eq_true_eq, emptyP]
            unfold unuP
            constructor
            · intro h
              exact .inr (.inr (.inr ⟨by omega, h⟩))
            · rintro (h | h | h | h)
              · exfalso; omega
              · exfalso; omega
              · exfalso; omega
              · exact h.2)
       done)
    | skip
  all_goals (
    refine xcal (σ := []) (nl := []) (chas (letL x.k) 109 (letL_len x.k)) ?_
    rintro v h' ⟨rfl, rfl⟩ hcaps
    rw [hasM]
    refine rH15pB0 ?_
    repeat' (first | (fail_if_success (with_reducible refine xstp ?_)); first | ((with_reducible refine And.intro (fun (hb : _ = true) => ?_) (fun (hb : _ = false) => ?_)) <;> replace hb := xnC hb <;> (try first | exact xfC | exact bff hb (by assumption) | exact bff (by assumption) hb)) | (with_reducible refine Both.mk ?_ ?_) | ((with_reducible refine And.intro ?_ ?_); focus exact xoC) | ((with_reducible refine Or.inl ⟨?_, ?_, ?_⟩); (focus rfl); focus exact xaC) | ((with_reducible refine xwB ?_ ?_); focus exact xaC) | ((with_reducible refine xwC ?_ ?_); focus exact xaC) | ((with_reducible refine xwD ?_ ?_); focus exact xaC) | ((with_reducible refine xwE ?_ ?_); focus exact xaC) | (with_reducible intro hc; (try simp only [capsP, and_true] at hc); (try exact xfC)) | ((fail_if_success (with_reducible first | refine xgon ?_ | intro _)); (conv => whnf); (fail_if_success (fail_if_success (with_reducible first | refine xstp ?_ | refine Both.mk ?_ ?_ | refine xgon ?_ | intro _)))))
    all_goals skip)
  all_goals first
    | (refine FinK.mk ⟨[0], _, _, ⟨rfl, rfl⟩, ?_⟩; (repeat' first | refine And.intro ?_ ?_ | exact xeC | fail)
       all_goals first
         | exact decide_eq_true (by unfold unuP; omega)
         | exact decide_eq_false (by unfold unuP; omega)
         | (apply Bool.eq_iff_iff.2
            simp only [Bool.not_eq_true', decide_eq_false_iff_not, decide_eq_true_eq, emptyP]
            unfold unuP
            constructor
            · intro h
              exact .inr (.inr (.inr ⟨by omega, h⟩))
            · rintro (h | h | h | h)
              · exfalso; omega
              · exfalso; omega
              · exfalso; omega
              · exact h.2)
       done)
    | skip
  all_goals (
    refine xcal (σ := []) (nl := []) (chas (letL x.k) 112 (letL_len x.k)) ?_
    rintro v h' ⟨rfl, rfl⟩ hcaps
    rw [hasP]
    refine rH15pB0 ?_
    repeat' (first | (fail_if_success (with_reducible refine xstp ?_)); first | ((with_reducible refine And.intro (fun (hb : _ = true) => ?_) (fun (hb : _ = false) => ?_)) <;> replace hb := xnC hb <;> (try first | exact xfC | exact bff hb (by assumption) | exact bff (by assumption) hb)) | (with_reducible refine Both.mk ?_ ?_) | ((with_reducible refine And.intro ?_ ?_); focus exact xoC) | ((with_reducible refine Or.inl ⟨?_, ?_, ?_⟩); (focus rfl); focus exact xaC) | ((with_reducible refine xwB ?_ ?_); focus exact xaC) | ((with_reducible refine xwC ?_ ?_); focus exact xaC) | ((with_reducible refine xwD ?_ ?_); focus exact xaC) | ((with_reducible refine xwE ?_ ?_); focus exact xaC) | (with_reducible intro hc; (try simp only [capsP, and_true] at hc); (try exact xfC)) | ((fail_if_success (with_reducible first | refine xgon ?_ | intro _)); (conv => whnf); (fail_if_success (fail_if_success (with_reducible first | refine xstp ?_ | refine Both.mk ?_ ?_ | refine xgon ?_ | intro _)))))
    all_goals skip)
  all_goals first
    | (refine FinK.mk ⟨[0], _, _, ⟨rfl, rfl⟩, ?_⟩; (repeat' first | refine And.intro ?_ ?_ | exact xeC | fail)
       all_goals first
         | exact decide_eq_true (by unfold unuP; omega)
         | exact decide_eq_false (by unfold unuP; omega)
         | (apply Bool.eq_iff_iff.2
            simp only [Bool.not_eq_true', decide_eq_false_iff_not, decide_eq_true_eq, emptyP]
            unfold unuP
            constructor
            · intro h
              exact .inr (.inr (.inr ⟨by omega, h⟩))
            · rintro (h | h | h | h)
              · exfalso; omega
              · exfalso; omega
              · exfalso; omega
              · exact h.2)
       done)
    | skip

set_option maxRecDepth 10000 in
set_option maxHeartbeats 4000000 in
theorem cCheckR (x : Pk) (wa : Bool) (c : Nat) (hp : x.p.length ≤ 1000000) (hm : x.m.length ≤ 1000000) :
    Ctr Try.prog 23 [.a (encP (.sl 0 0 1 0 x.m.length c) x)] [.one (ints wa x.m c)] fun v h => v = .c (.i .i64 (chk x : Nat)) ∧ h = [.one (ints wa x.m c)] := by
  refine Ctr.mk' tbv mixed Try.func23 rfl rfl rfl (fun _ _ => by kernel_rfl) (by kernel_rfl) (by rfl) (by rfl) (by (repeat' first | refine And.intro ?_ ?_ | exact xeC | fail)) ?_
  repeat' (first | (fail_if_success (with_reducible refine xstp ?_)); first | ((with_reducible refine And.intro (fun (hb : _ = true) => ?_) (fun (hb : _ = false) => ?_)) <;> replace hb := xnC hb <;> (try first | exact xfC | exact bff hb (by assumption) | exact bff (by assumption) hb)) | (with_reducible refine Both.mk ?_ ?_) | ((with_reducible refine And.intro ?_ ?_); focus exact xoC) | ((with_reducible refine Or.inl ⟨?_, ?_, ?_⟩); (focus rfl); focus exact xaC) | ((with_reducible refine xwB ?_ ?_); focus exact xaC) | ((with_reducible refine xwC ?_ ?_); focus exact xaC) | ((with_reducible refine xwD ?_ ?_); focus exact xaC) | ((with_reducible refine xwE ?_ ?_); focus exact xaC) | (with_reducible intro hc; (try simp only [capsP, and_true] at hc); (try exact xfC)) | ((fail_if_success (with_reducible first | refine xgon ?_ | intro _)); (conv => whnf); (fail_if_success (fail_if_success (with_reducible first | refine xstp ?_ | refine Both.mk ?_ ?_ | refine xgon ?_ | intro _)))))
  have hz : (mkS x.p).size = x.p.length := rfl
  refine xcal (σ := [.name 0]) (nl := []) (cranges x x.m.length c) ?_
  rintro v h' ⟨rfl, rfl⟩ hcaps
  refine rH15pB0 ?_
  repeat' (first | (fail_if_success (with_reducible refine xstp ?_)); first | ((with_reducible refine And.intro (fun (hb : _ = true) => ?_) (fun (hb : _ = false) => ?_)) <;> replace hb := xnC hb <;> (try first | exact xfC | exact bff hb (by assumption) | exact bff (by assumption) hb)) | (with_reducible refine Both.mk ?_ ?_) | ((with_reducible refine And.intro ?_ ?_); focus exact xoC) | ((with_reducible refine Or.inl ⟨?_, ?_, ?_⟩); (focus rfl); focus exact xaC) | ((with_reducible refine xwB ?_ ?_); focus exact xaC) | ((with_reducible refine xwC ?_ ?_); focus exact xaC) | ((with_reducible refine xwD ?_ ?_); focus exact xaC) | ((with_reducible refine xwE ?_ ?_); focus exact xaC) | (with_reducible intro hc; (try simp only [capsP, and_true] at hc); (try exact xfC)) | ((fail_if_success (with_reducible first | refine xgon ?_ | intro _)); (conv => whnf); (fail_if_success (fail_if_success (with_reducible first | refine xstp ?_ | refine Both.mk ?_ ?_ | refine xgon ?_ | intro _)))))
  · rw [show chk x = 4 from if_pos hb]
    refine FinK.mk ⟨[0], _, _, ⟨rfl, rfl⟩, ?_⟩; (repeat' first | refine And.intro ?_ ?_ | exact xeC | fail)
  · have hr : rngP x := by assumption
    rw [show chk x = 3 by unfold chk; rw [if_neg (by simpa using hr), if_pos (by omega)]]
    refine FinK.mk ⟨[0], _, _, ⟨rfl, rfl⟩, ?_⟩; (repeat' first | refine And.intro ?_ ?_ | exact xeC | fail)
  · have hr : rngP x := by assumption
    rw [show chk x = 3 by unfold chk; rw [if_neg (by simpa using hr), if_pos (by omega)]]
    refine FinK.mk ⟨[0], _, _, ⟨rfl, rfl⟩, ?_⟩; (repeat' first | refine And.intro ?_ ?_ | exact xeC | fail)
  have hr : rngP x := by assumption
  refine xcal (σ := [.name 0]) (nl := []) (cunused x c hr.1 hm) ?_
  rintro v h' ⟨rfl, rfl⟩ hcaps
  refine rH15pB0 ?_
  repeat' (first | (fail_if_success (with_reducible refine xstp ?_)); first | ((with_reducible refine And.intro (fun (hb : _ = true) => ?_) (fun (hb : _ = false) => ?_)) <;> replace hb := xnC hb <;> (try first | exact xfC | exact bff hb (by assumption) | exact bff (by assumption) hb)) | (with_reducible refine Both.mk ?_ ?_) | ((with_reducible refine And.intro ?_ ?_); focus exact xoC) | ((with_reducible refine Or.inl ⟨?_, ?_, ?_⟩); (focus rfl); focus exact xaC) | ((with_reducible refine xwB ?_ ?_); focus exact xaC) | ((with_reducible refine xwC ?_ ?_); focus exact xaC) | ((with_reducible refine xwD ?_ ?_); focus exact xaC) | ((with_reducible refine xwE ?_ ?_); focus exact xaC) | (with_reducible intro hc; (try simp only [capsP, and_true] at hc); (try exact xfC)) | ((fail_if_success (with_reducible first | refine xgon ?_ | intro _)); (conv => whnf); (fail_if_success (fail_if_success (with_reducible first | refine xstp ?_ | refine Both.mk ?_ ?_ | refine xgon ?_ | intro _)))))
  · rw [show chk x = 2 by unfold chk; rw [if_neg (by simpa using hr), if_neg (by omega), if_pos hb]]
    refine FinK.mk ⟨[0], _, _, ⟨rfl, rfl⟩, ?_⟩; (repeat' first | refine And.intro ?_ ?_ | exact xeC | fail)
  have hun := hb
  refine LoopK.mk' {i : Nat // i ≤ x.m.length ∧ ∀ j, j < i → ¬ badA x j}
    (fun ⟨i, _⟩ => ⟨[(1, .c (.p 1 0 0)), (3, .c (.i .i64 (i : Nat)))], [.one (ints wa x.m c), .one (.cells true (encP (.sl 0 0 1 0 x.m.length c) x))]⟩) (fun k => x.m.length - k.1)
    ⟨⟨0, Nat.zero_le _, by intro j h; omega⟩, [0, 1], ?_⟩ ?_
  · (repeat' first | refine And.intro ?_ ?_ | exact xeC | fail)
  rintro ⟨i, hi, hno⟩
  repeat' (first | (fail_if_success (with_reducible refine xstp ?_)); first | ((with_reducible refine And.intro (fun (hb : _ = true) => ?_) (fun (hb : _ = false) => ?_)) <;> replace hb := xnC hb <;> (try first | exact xfC | exact bff hb (by assumption) | exact bff (by assumption) hb)) | (with_reducible refine Both.mk ?_ ?_) | ((with_reducible refine And.intro ?_ ?_); focus exact xoC) | ((with_reducible refine Or.inl ⟨?_, ?_, ?_⟩); (focus rfl); focus exact xaC) | ((with_reducible refine xwB ?_ ?_); focus exact xaC) | ((with_reducible refine xwC ?_ ?_); focus exact xaC) | ((with_reducible refine xwD ?_ ?_); focus exact xaC) | ((with_reducible refine xwE ?_ ?_); focus exact xaC) | (with_reducible intro hc; (try simp only [capsP, and_true] at hc); (try exact xfC)) | ((fail_if_success (with_reducible first | refine xgon ?_ | intro _)); (conv => whnf); (fail_if_success (fail_if_success (with_reducible first | refine xstp ?_ | refine Both.mk ?_ ?_ | refine xgon ?_ | intro _)))))
  all_goals try simp only [show ((i : Int) - 1).toNat = i - 1 by omega] at *
  all_goals first
    | (have hbad : badA x i := by unfold badA; omega
       have hil : i < x.m.length := by omega
       rw [show chk x = 2 by unfold chk; rw [if_neg (by simpa using hr), if_neg (by omega), if_neg hun, if_pos ⟨i, hil, hbad⟩]]
       refine FinK.mk ⟨[0], _, _, ⟨rfl, rfl⟩, ?_⟩; (repeat' first | refine And.intro ?_ ?_ | exact xeC | fail)
       done)
    | (have hil : i < x.m.length := by omega
       have hbad : ¬ badA x i := by unfold badA; omega
       refine ⟨⟨i + 1, by omega, fun j hj => by
         rcases (by omega : j < i ∨ j = i) with h | rfl
         · exact hno j h
         · exact hbad⟩, [0, 1], by simp only; omega, ?_⟩
       (repeat' first | refine And.intro ?_ ?_ | exact xeC | fail)
       done)
    | (have hil : i = x.m.length := by omega
       rw [show chk x = 0 by unfold chk; rw [if_neg (by simpa using hr), if_neg (by omega), if_neg hun, if_neg (fun ⟨j, h1, h2⟩ => hno j (by omega) h2)]]
       refine FinK.mk ⟨[0], _, _, ⟨rfl, rfl⟩, ?_⟩; (repeat' first | refine And.intro ?_ ?_ | exact xeC | fail)
       done)
end Go.Proofs.Ytgaodeffbgppmaa

namespace Go.Proofs.Ytgaodeffbgppmaa
open Go.X
set_option linter.unusedSimpArgs false
set_option linter.unusedVariables false
open P4
def numsL (l : List Int) : List UInt8 := l.flatMap fun n => venc n.toNat
theorem numsL_le (l : List Int) : (numsL l).length ≤ 10 * l.length := by
  unfold numsL
  induction l with
  | nil => simp
  | cons a l ih =>
    simp only [List.flatMap_cons, List.length_append, List.length_cons]
    have := venc_le a.toNat
    omega
theorem numsL_snoc (l : List Int) {i : Nat} (h : i < l.length) : numsL (l.take (i + 1)) = numsL (l.take i) ++ venc (l.getD i default).toNat := by
  rw [take_snocG l h]
  simp [numsL, List.flatMap_append]
theorem num_le (n : Int) : (numsL [n]).length ≤ 10 := numsL_le [n]
theorem numI_le (U : Prop) [Decidable U] (n : Int) : (if U then numsL [n] else []).length ≤ 10 := by
  split
  · exact num_le n
  · simp
theorem numsL_cons (a b : Int) (l : List Int) : numsL (a :: b :: l) = numsL [a] ++ numsL (b :: l) := by simp [numsL]
/-- The encoding of a packet. -/
def encL (x : Pk) : List UInt8 := numsL [x.k, x.fr, x.to, x.w, x.r] ++ ((if x.k = 1 ∨ x.k = 4 ∨ x.k = 5 then numsL [x.q] else []) ++ ((if x.k = 2 ∨ x.k = 3 ∨ x.k = 4 then numsL [x.f, x.la] else []) ++
  (numsL [x.at'] ++ ((if x.k = 3 then numsL [(x.m.length : Nat)] ++ numsL x.m else []) ++ (if x.k = 1 ∨ x.k = 5 then textL x.p else [])))))

set_option maxRecDepth 10000 in
theorem cadd (l : List Int) (s : List UInt8) (wa : Bool) (c : Nat) (hl : l.length ≤ 32) (hr : ∀ n ∈ l, 0 ≤ n ∧ n ≤ 1099511627776) (hs : s.length ≤ 100000) :
    Ctr Try.prog 43 [.c (.sl 0 0 1 0 l.length c), .c (.p 1 0 0)] [.one (ints wa l c), .one (.cells true [.s (mkS s)])]
      fun v h => v = .t [] ∧ h = [.one (ints wa l c), .one (.cells true [.s (mkS (s ++ numsL l))])] := by
  refine Ctr.mk' tbv mixed Try.func43 rfl rfl rfl (fun _ _ => by kernel_rfl) (by kernel_rfl) (by rfl) (by rfl) (by (repeat' first | refine And.intro ?_ ?_ | exact xeC | fail)) ?_
  repeat' (first | (fail_if_success (with_reducible refine xstp ?_)); first | ((with_reducible refine And.intro (fun (hb : _ = true) => ?_) (fun (hb : _ = false) => ?_)) <;> replace hb := xnC hb <;> (try first | exact xfC | exact bff hb (by assumption) | exact bff (by assumption) hb)) | (with_reducible refine Both.mk ?_ ?_) | ((with_reducible refine And.intro ?_ ?_); focus exact xoC) | ((with_reducible refine Or.inl ⟨?_, ?_, ?_⟩); (focus rfl); focus exact xaC) | ((with_reducible refine xwB ?_ ?_); focus exact xaC) | ((with_reducible refine xwC ?_ ?_); focus exact xaC) | ((with_reducible refine xwD ?_ ?_); focus exact xaC) | ((with_reducible refine xwE ?_ ?_); focus exact xaC) | (with_reducible intro hc; (try simp only [capsP, and_true] at hc); (try exact xfC)) | ((fail_if_success (with_reducible first | refine xgon ?_ | intro _)); (conv => whnf); (fail_if_success (fail_if_success (with_reducible first | refine xstp ?_ | refine Both.mk ?_ ?_ | refine xgon ?_ | intro _)))))
  refine LoopK.mk' {i : Nat // i ≤ l.length}
    (fun ⟨i, _⟩ => ⟨[(0, .c (.sl 0 0 1 0 l.length c)), (1, .c (.p 1 0 0)), (5, .c (.sl 0 0 1 0 l.length c)), (6, .c (.i .i64 (l.length : Nat))), (7, .c (.i .i64 (i : Nat)))], [.one (ints wa l c), .one (.cells true [.s (mkS (s ++ numsL (l.take i)))])]⟩) (fun k => l.length - k.1)
    ⟨⟨0, Nat.zero_le _⟩, [0, 1], ?_⟩ ?_
  · (repeat' first | refine And.intro ?_ ?_ | exact xeC | fail)
    all_goals (rw [show numsL (l.take 0) = [] by simp [numsL], List.append_nil])
  rintro ⟨i, hi⟩
  have hb1 := numsL_le (l.take i)
  rw [List.length_take] at hb1
  have hz : (mkS (s ++ numsL (l.take i))).size = s.length + (numsL (l.take i)).length := by rw [mkS_size, List.length_append]
  repeat' (first | (fail_if_success (with_reducible refine xstp ?_)); first | ((with_reducible refine And.intro (fun (hb : _ = true) => ?_) (fun (hb : _ = false) => ?_)) <;> replace hb := xnC hb <;> (try first | exact xfC | exact bff hb (by assumption) | exact bff (by assumption) hb)) | (with_reducible refine Both.mk ?_ ?_) | ((with_reducible refine And.intro ?_ ?_); focus exact xoC) | ((with_reducible refine Or.inl ⟨?_, ?_, ?_⟩); (focus rfl); focus exact xaC) | ((with_reducible refine xwB ?_ ?_); focus exact xaC) | ((with_reducible refine xwC ?_ ?_); focus exact xaC) | ((with_reducible refine xwD ?_ ?_); focus exact xaC) | ((with_reducible refine xwE ?_ ?_); focus exact xaC) | (with_reducible intro hc; (try simp only [capsP, and_true] at hc); (try exact xfC)) | ((fail_if_success (with_reducible first | refine xgon ?_ | intro _)); (conv => whnf); (fail_if_success (fail_if_success (with_reducible first | refine xstp ?_ | refine Both.mk ?_ ?_ | refine xgon ?_ | intro _)))))
  · have hx := hr (l.getD i default) (by rw [getD_at (by omega)]; exact List.getElem_mem _)
    have hw : IntKind.u64.wrap (l.getD (0 + (i : Int).toNat) default) = (((l.getD i default).toNat : Nat) : Int) := by
      rw [Int.toNat_natCast, Nat.zero_add, IntKind.wrap_u64]; omega
    rw [hw]
    refine xcal (σ := []) (nl := []) (cUint (l.getD i default).toNat (by omega)) ?_
    rintro v h' ⟨rfl, rfl⟩ hcaps
    have h10 : (mkS (venc (l.getD i default).toNat)).size ≤ 10 := venc_le _
    refine xret ?_
    repeat' (first | (fail_if_success (with_reducible refine xstp ?_)); first | ((with_reducible refine And.intro (fun (hb : _ = true) => ?_) (fun (hb : _ = false) => ?_)) <;> replace hb := xnC hb <;> (try first | exact xfC | exact bff hb (by assumption) | exact bff (by assumption) hb)) | (with_reducible refine Both.mk ?_ ?_) | ((with_reducible refine And.intro ?_ ?_); focus exact xoC) | ((with_reducible refine Or.inl ⟨?_, ?_, ?_⟩); (focus rfl); focus exact xaC) | ((with_reducible refine xwB ?_ ?_); focus exact xaC) | ((with_reducible refine xwC ?_ ?_); focus exact xaC) | ((with_reducible refine xwD ?_ ?_); focus exact xaC) | ((with_reducible refine xwE ?_ ?_); focus exact xaC) | (with_reducible intro hc; (try simp only [capsP, and_true] at hc); (try exact xfC)) | ((fail_if_success (with_reducible first | refine xgon ?_ | intro _)); (conv => whnf); (fail_if_success (fail_if_success (with_reducible first | refine xstp ?_ | refine Both.mk ?_ ?_ | refine xgon ?_ | intro _)))))
    refine ⟨⟨i + 1, by omega⟩, [0, 1], by simp only; omega, ?_⟩
    (repeat' first | refine And.intro ?_ ?_ | exact xeC | fail)
    rw [numsL_snoc l (by omega), mkS_append, List.append_assoc]
  · rw [List.take_of_length_le (by omega)]
    refine FinK.mk ⟨[0, 1], _, _, ⟨rfl, rfl⟩, ?_⟩; (repeat' first | refine And.intro ?_ ?_ | exact xeC | fail)

theorem u64nn {n : Int} (h : 0 ≤ n) (h2 : n ≤ 1099511627776) : IntKind.u64.wrap n = ((n.toNat : Nat) : Int) := by
  rw [IntKind.wrap_u64]; omega

set_option maxRecDepth 10000 in
theorem cnumber (U : Prop) [Decidable U] (n : Int) (h : 0 ≤ n) (h2 : n ≤ 1099511627776) :
    Ctr Try.prog 47 [.c (.b (decide U)), .c (.i .i64 n)] [] fun v h => v = .c (.s (mkS (if U then numsL [n] else []))) ∧ h = [] := by
  refine Ctr.mk' tbv mixed Try.func47 rfl rfl rfl (fun _ _ => by kernel_rfl) (by kernel_rfl) (by rfl) (by rfl) (by (repeat' first | refine And.intro ?_ ?_ | exact xeC | fail)) ?_
  repeat' (first | (fail_if_success (with_reducible refine xstp ?_)); first | ((with_reducible refine And.intro (fun (hb : _ = true) => ?_) (fun (hb : _ = false) => ?_)) <;> replace hb := xnC hb <;> (try first | exact xfC | exact bff hb (by assumption) | exact bff (by assumption) hb)) | (with_reducible refine Both.mk ?_ ?_) | ((with_reducible refine And.intro ?_ ?_); focus exact xoC) | ((with_reducible refine Or.inl ⟨?_, ?_, ?_⟩); (focus rfl); focus exact xaC) | ((with_reducible refine xwB ?_ ?_); focus exact xaC) | ((with_reducible refine xwC ?_ ?_); focus exact xaC) | ((with_reducible refine xwD ?_ ?_); focus exact xaC) | ((with_reducible refine xwE ?_ ?_); focus exact xaC) | (with_reducible intro hc; (try simp only [capsP, and_true] at hc); (try exact xfC)) | ((fail_if_success (with_reducible first | refine xgon ?_ | intro _)); (conv => whnf); (fail_if_success (fail_if_success (with_reducible first | refine xstp ?_ | refine Both.mk ?_ ?_ | refine xgon ?_ | intro _)))))
  · rw [if_neg hb]
    refine FinK.mk ⟨[], _, _, ⟨rfl, rfl⟩, ?_⟩; (repeat' first | refine And.intro ?_ ?_ | exact xeC | fail)
  · rw [u64nn h h2]
    refine xcal (σ := []) (nl := []) (cUintR n.toNat (by omega)) ?_
    rintro v h' ⟨rfl, rfl⟩ hcaps
    refine xret ?_
    repeat' (first | (fail_if_success (with_reducible refine xstp ?_)); first | ((with_reducible refine And.intro (fun (hb : _ = true) => ?_) (fun (hb : _ = false) => ?_)) <;> replace hb := xnC hb <;> (try first | exact xfC | exact bff hb (by assumption) | exact bff (by assumption) hb)) | (with_reducible refine Both.mk ?_ ?_) | ((with_reducible refine And.intro ?_ ?_); focus exact xoC) | ((with_reducible refine Or.inl ⟨?_, ?_, ?_⟩); (focus rfl); focus exact xaC) | ((with_reducible refine xwB ?_ ?_); focus exact xaC) | ((with_reducible refine xwC ?_ ?_); focus exact xaC) | ((with_reducible refine xwD ?_ ?_); focus exact xaC) | ((with_reducible refine xwE ?_ ?_); focus exact xaC) | (with_reducible intro hc; (try simp only [capsP, and_true] at hc); (try exact xfC)) | ((fail_if_success (with_reducible first | refine xgon ?_ | intro _)); (conv => whnf); (fail_if_success (fail_if_success (with_reducible first | refine xstp ?_ | refine Both.mk ?_ ?_ | refine xgon ?_ | intro _)))))
    rw [if_pos hb, show numsL [n] = venc n.toNat by simp [numsL]]
    refine FinK.mk ⟨[], _, _, ⟨rfl, rfl⟩, ?_⟩; (repeat' first | refine And.intro ?_ ?_ | exact xeC | fail)
theorem cnumT (n : Int) (h : 0 ≤ n) (h2 : n ≤ 1099511627776) :
    Ctr Try.prog 47 [.c (.b (decide True)), .c (.i .i64 n)] [] fun v h => v = .c (.s (mkS (numsL [n]))) ∧ h = [] := by
  refine (cnumber True n h h2).mono' ?_
  rintro v h ⟨rfl, rfl⟩
  simp

theorem enc_le (x : Pk) (h : chk x = 0) : rngP x ∧ x.p.length ≤ 2000 ∧ x.m.length ≤ 32 ∧ ¬ unuP x ∧ ¬ badP x := by
  unfold chk at h
  repeat' split at h
  all_goals try omega
  rename_i h1 h2 h3 h4
  exact ⟨by simpa using h1, by omega, by omega, h3, h4⟩
theorem enc_m {x : Pk} (h : chk x = 0) : ∀ n ∈ x.m, 0 ≤ n ∧ n ≤ 1099511627776 := by
  obtain ⟨hr, _, _, hun, hb⟩ := enc_le x h
  intro n hn
  obtain ⟨i, hi, rfl⟩ := List.mem_iff_getElem.1 hn
  have h1 : ¬ badA x i := fun h => hb ⟨i, hi, h⟩
  unfold badA at h1
  rw [getD_at hi] at h1
  unfold rngP at hr
  unfold unuP at hun
  omega

theorem rH15pC0 {σ : List Sg} {H h' : List Fam} {v : T} {K : T → List Fam → Prop} {H' : List Fam} {v' : T} {N : Nat} (hk : K v' H') (hN : H.length = N := by (try simp only [↓List.length_cons, ↓List.length_nil, Nat.reduceAdd]) <;> rfl) (h : givesF σ N H σ h' = some H' := by (try simp (maxSteps := 1000000) only [givesF, setF, updF, Fam.zeroth, Fam.rk, Ck.rk, C.rk, E.rk, T.rk, key, List.map_cons, List.map_nil, List.cons_append, List.nil_append, List.length_cons, List.length_nil, Option.map_some, Option.bind_some, Nat.reduceAdd, Nat.zero_add, Nat.add_zero, Nat.add_sub_cancel_left, Int.toNat_natCast, reps, List.all_cons, List.all_nil, C.flat, List.append_eq, Bool.not_true, Bool.and_true, Bool.or_false, Bool.or_self, Bool.not_false, List.append_nil, Bool.and_self, encP]) <;> rfl) (hv : v.rk σ N = v' := by (try simp only [givesF, setF, updF, Fam.zeroth, Fam.rk, Ck.rk, C.rk, E.rk, T.rk, key, List.map_cons, List.map_nil, List.cons_append, List.nil_append, List.length_cons, List.length_nil, Option.map_some, Option.bind_some, Nat.reduceAdd, Nat.zero_add, Nat.add_zero, Nat.add_sub_cancel_left, Int.toNat_natCast, reps, List.all_cons, List.all_nil, C.flat, List.append_eq, Bool.not_true, Bool.and_true, Bool.or_false, Bool.or_self, Bool.not_false, List.append_nil, Bool.and_self, encP]) <;> rfl) : RetG σ H h' v K := ret_mk3 hN h hv hk
theorem rH15pC1 {σ : List Sg} {H h' : List Fam} {v : T} {K : T → List Fam → Prop} {H' : List Fam} {v' : T} {N : Nat} (hk : K v' H') (hN : H.length = N := by (try simp only [↓List.length_cons, ↓List.length_nil, Nat.reduceAdd]) <;> rfl) (h : givesF σ N H σ h' = some H' := by (try simp (maxSteps := 1000000) only [givesF, setF, updF, Fam.zeroth, Fam.rk, Ck.rk, C.rk, E.rk, T.rk, key, List.map_cons, List.map_nil, List.cons_append, List.nil_append, List.length_cons, List.length_nil, Option.map_some, Option.bind_some, Nat.reduceAdd, Nat.zero_add, Nat.add_zero, Nat.add_sub_cancel_left, Int.toNat_natCast, reps, List.all_cons, List.all_nil, C.flat, List.append_eq, Bool.not_true, Bool.and_true, Bool.or_false, Bool.or_self, Bool.not_false, List.append_nil, Bool.and_self, encP, usesL]) <;> rfl) (hv : v.rk σ N = v' := by (try simp only [givesF, setF, updF, Fam.zeroth, Fam.rk, Ck.rk, C.rk, E.rk, T.rk, key, List.map_cons, List.map_nil, List.cons_append, List.nil_append, List.length_cons, List.length_nil, Option.map_some, Option.bind_some, Nat.reduceAdd, Nat.zero_add, Nat.add_zero, Nat.add_sub_cancel_left, Int.toNat_natCast, reps, List.all_cons, List.all_nil, C.flat, List.append_eq, Bool.not_true, Bool.and_true, Bool.or_false, Bool.or_self, Bool.not_false, List.append_nil, Bool.and_self, encP, usesL]) <;> rfl) : RetG σ H h' v K := ret_mk3 hN h hv hk
set_option maxRecDepth 20000 in
set_option maxHeartbeats 4000000 in
theorem cEncode (x : Pk) (wa : Bool) (c : Nat) (hp : x.p.length ≤ 1000000) (hm : x.m.length ≤ 1000000) :
    Ctr Try.prog 18 [.a (encP (.sl 0 0 1 0 x.m.length c) x)] [.one (ints wa x.m c)] fun v h => v = .t [.c (.s (mkS (if chk x = 0 then encL x else []))), .c (.i .i64 (chk x : Nat))] ∧ h = [.one (ints wa x.m c)] := by
  refine Ctr.mk' tbv mixed Try.func18 rfl rfl rfl (fun _ _ => by kernel_rfl) (by kernel_rfl) (by rfl) (by rfl) (by (repeat' first | refine And.intro ?_ ?_ | exact xeC | fail)) ?_
  repeat' (first | (fail_if_success (with_reducible refine xstp ?_)); first | ((with_reducible refine And.intro (fun (hb : _ = true) => ?_) (fun (hb : _ = false) => ?_)) <;> replace hb := xnC hb <;> (try first | exact xfC | exact bff hb (by assumption) | exact bff (by assumption) hb)) | (with_reducible refine Both.mk ?_ ?_) | ((with_reducible refine And.intro ?_ ?_); focus exact xoC) | ((with_reducible refine Or.inl ⟨?_, ?_, ?_⟩); (focus rfl); focus exact xaC) | ((with_reducible refine xwB ?_ ?_); focus exact xaC) | ((with_reducible refine xwC ?_ ?_); focus exact xaC) | ((with_reducible refine xwD ?_ ?_); focus exact xaC) | ((with_reducible refine xwE ?_ ?_); focus exact xaC) | (with_reducible intro hc; (try simp only [capsP, and_true] at hc); (try exact xfC)) | ((fail_if_success (with_reducible first | refine xgon ?_ | intro _)); (conv => whnf); (fail_if_success (fail_if_success (with_reducible first | refine xstp ?_ | refine Both.mk ?_ ?_ | refine xgon ?_ | intro _)))))
  refine xcal (σ := [.whole 0]) (nl := []) (cCheck x wa c hp hm) ?_
  rintro v h' ⟨rfl, rfl⟩ hcaps
  refine rH15pC0 ?_
  repeat' (first | (fail_if_success (with_reducible refine xstp ?_)); first | ((with_reducible refine And.intro (fun (hb : _ = true) => ?_) (fun (hb : _ = false) => ?_)) <;> replace hb := xnC hb <;> (try first | exact xfC | exact bff hb (by assumption) | exact bff (by assumption) hb)) | (with_reducible refine Both.mk ?_ ?_) | ((with_reducible refine And.intro ?_ ?_); focus exact xoC) | ((with_reducible refine Or.inl ⟨?_, ?_, ?_⟩); (focus rfl); focus exact xaC) | ((with_reducible refine xwB ?_ ?_); focus exact xaC) | ((with_reducible refine xwC ?_ ?_); focus exact xaC) | ((with_reducible refine xwD ?_ ?_); focus exact xaC) | ((with_reducible refine xwE ?_ ?_); focus exact xaC) | (with_reducible intro hc; (try simp only [capsP, and_true] at hc); (try exact xfC)) | ((fail_if_success (with_reducible first | refine xgon ?_ | intro _)); (conv => whnf); (fail_if_success (fail_if_success (with_reducible first | refine xstp ?_ | refine Both.mk ?_ ?_ | refine xgon ?_ | intro _)))))
  · rw [if_neg (by omega)]
    refine FinK.mk ⟨[0], _, _, ⟨rfl, rfl⟩, ?_⟩; (repeat' first | refine And.intro ?_ ?_ | exact xeC | fail)
  have hck : chk x = 0 := by omega
  obtain ⟨hr, hp2, hm2, hun, hbad⟩ := enc_le x hck
  have hem := enc_m hck
  have hr2 := hr
  unfold rngP at hr2
  rw [if_pos hck]
  refine xcal (σ := []) (nl := []) (cuses x.k) ?_
  rintro v h' ⟨rfl, rfl⟩ hcaps
  refine rH15pC1 ?_
  repeat' (first | (fail_if_success (with_reducible refine xstp ?_)); first | ((with_reducible refine And.intro (fun (hb : _ = true) => ?_) (fun (hb : _ = false) => ?_)) <;> replace hb := xnC hb <;> (try first | exact xfC | exact bff hb (by assumption) | exact bff (by assumption) hb)) | (with_reducible refine Both.mk ?_ ?_) | ((with_reducible refine And.intro ?_ ?_); focus exact xoC) | ((with_reducible refine Or.inl ⟨?_, ?_, ?_⟩); (focus rfl); focus exact xaC) | ((with_reducible refine xwB ?_ ?_); focus exact xaC) | ((with_reducible refine xwC ?_ ?_); focus exact xaC) | ((with_reducible refine xwD ?_ ?_); focus exact xaC) | ((with_reducible refine xwE ?_ ?_); focus exact xaC) | (with_reducible intro hc; (try simp only [capsP, and_true] at hc); (try exact xfC)) | ((fail_if_success (with_reducible first | refine xgon ?_ | intro _)); (conv => whnf); (fail_if_success (fail_if_success (with_reducible first | refine xstp ?_ | refine Both.mk ?_ ?_ | refine xgon ?_ | intro _)))))
  have hA := numsL_le [x.k, x.fr, x.to, x.w, x.r]
  have hB := numsL_le [x.q]
  have hF := numsL_le [x.f, x.la]
  have hT := numsL_le [x.at']
  have hN := numsL_le [(x.m.length : Nat)]
  have hM := numsL_le x.m
  simp only [List.length_cons, List.length_nil] at hA hB hF hT hN
  refine xcal (σ := [.whole 4, .whole 3]) (nl := []) (cadd ([x.k, x.fr, x.to, x.w, x.r]) ([]) true _ (Nat.le_of_ble_eq_true rfl) (by intro n hn; simp only [List.mem_cons, List.not_mem_nil, or_false] at hn; omega) (by first | omega | (simp only [List.length_append, List.length_nil]; omega))) ?_ (hle := by (repeat' first | refine And.intro ?_ ?_ | exact xeC | fail) <;> (intro i hi; first | (have h1 : i < 1 := hi; obtain rfl : i = 0 := (by omega); rfl) | (have h1 : i < 2 := hi; rcases (by omega : i = 0 ∨ i = 1) with rfl | rfl <;> rfl) | (have h1 : i < 5 := hi; rcases (by omega : i = 0 ∨ i = 1 ∨ i = 2 ∨ i = 3 ∨ i = 4) with rfl | rfl | rfl | rfl | rfl <;> rfl)))
  rintro v h' ⟨rfl, rfl⟩ hcaps
  refine rH15pC0 ?_
  repeat' (first | (fail_if_success (with_reducible refine xstp ?_)); first | ((with_reducible refine And.intro (fun (hb : _ = true) => ?_) (fun (hb : _ = false) => ?_)) <;> replace hb := xnC hb <;> (try first | exact xfC | exact bff hb (by assumption) | exact bff (by assumption) hb)) | (with_reducible refine Both.mk ?_ ?_) | ((with_reducible refine And.intro ?_ ?_); focus exact xoC) | ((with_reducible refine Or.inl ⟨?_, ?_, ?_⟩); (focus rfl); focus exact xaC) | ((with_reducible refine xwB ?_ ?_); focus exact xaC) | ((with_reducible refine xwC ?_ ?_); focus exact xaC) | ((with_reducible refine xwD ?_ ?_); focus exact xaC) | ((with_reducible refine xwE ?_ ?_); focus exact xaC) | (with_reducible intro hc; (try simp only [capsP, and_true] at hc); (try exact xfC)) | ((fail_if_success (with_reducible first | refine xgon ?_ | intro _)); (conv => whnf); (fail_if_success (fail_if_success (with_reducible first | refine xstp ?_ | refine Both.mk ?_ ?_ | refine xgon ?_ | intro _)))))
  · skip
    refine xcal (σ := [.whole 5, .whole 3]) (nl := []) (cadd ([x.q]) (numsL [x.k, x.fr, x.to, x.w, x.r]) true _ (Nat.le_of_ble_eq_true rfl) (by intro n hn; simp only [List.mem_cons, List.not_mem_nil, or_false] at hn; omega) (by first | omega | (simp only [List.length_append, List.length_nil]; omega))) ?_ (hle := by (repeat' first | refine And.intro ?_ ?_ | exact xeC | fail) <;> (intro i hi; first | (have h1 : i < 1 := hi; obtain rfl : i = 0 := (by omega); rfl) | (have h1 : i < 2 := hi; rcases (by omega : i = 0 ∨ i = 1) with rfl | rfl <;> rfl) | (have h1 : i < 5 := hi; rcases (by omega : i = 0 ∨ i = 1 ∨ i = 2 ∨ i = 3 ∨ i = 4) with rfl | rfl | rfl | rfl | rfl <;> rfl)))
    rintro v h' ⟨rfl, rfl⟩ hcaps
    refine rH15pC0 ?_
    repeat' (first | (fail_if_success (with_reducible refine xstp ?_)); first | ((with_reducible refine And.intro (fun (hb : _ = true) => ?_) (fun (hb : _ = false) => ?_)) <;> replace hb := xnC hb <;> (try first | exact xfC | exact bff hb (by assumption) | exact bff (by assumption) hb)) | (with_reducible refine Both.mk ?_ ?_) | ((with_reducible refine And.intro ?_ ?_); focus exact xoC) | ((with_reducible refine Or.inl ⟨?_, ?_, ?_⟩); (focus rfl); focus exact xaC) | ((with_reducible refine xwB ?_ ?_); focus exact xaC) | ((with_reducible refine xwC ?_ ?_); focus exact xaC) | ((with_reducible refine xwD ?_ ?_); focus exact xaC) | ((with_reducible refine xwE ?_ ?_); focus exact xaC) | (with_reducible intro hc; (try simp only [capsP, and_true] at hc); (try exact xfC)) | ((fail_if_success (with_reducible first | refine xgon ?_ | intro _)); (conv => whnf); (fail_if_success (fail_if_success (with_reducible first | refine xstp ?_ | refine Both.mk ?_ ?_ | refine xgon ?_ | intro _)))))
    · skip
      refine xcal (σ := [.whole 6, .whole 3]) (nl := []) (cadd ([x.f, x.la]) (numsL [x.k, x.fr, x.to, x.w, x.r] ++ numsL [x.q]) true _ (Nat.le_of_ble_eq_true rfl) (by intro n hn; simp only [List.mem_cons, List.not_mem_nil, or_false] at hn; omega) (by first | omega | (simp only [List.length_append, List.length_nil]; omega))) ?_ (hle := by (repeat' first | refine And.intro ?_ ?_ | exact xeC | fail) <;> (intro i hi; first | (have h1 : i < 1 := hi; obtain rfl : i = 0 := (by omega); rfl) | (have h1 : i < 2 := hi; rcases (by omega : i = 0 ∨ i = 1) with rfl | rfl <;> rfl) | (have h1 : i < 5 := hi; rcases (by omega : i = 0 ∨ i = 1 ∨ i = 2 ∨ i = 3 ∨ i = 4) with rfl | rfl | rfl | rfl | rfl <;> rfl)))
      rintro v h' ⟨rfl, rfl⟩ hcaps
      refine rH15pC0 ?_
      repeat' (first | (fail_if_success (with_reducible refine xstp ?_)); first | ((with_reducible refine And.intro (fun (hb : _ = true) => ?_) (fun (hb : _ = false) => ?_)) <;> replace hb := xnC hb <;> (try first | exact xfC | exact bff hb (by assumption) | exact bff (by assumption) hb)) | (with_reducible refine Both.mk ?_ ?_) | ((with_reducible refine And.intro ?_ ?_); focus exact xoC) | ((with_reducible refine Or.inl ⟨?_, ?_, ?_⟩); (focus rfl); focus exact xaC) | ((with_reducible refine xwB ?_ ?_); focus exact xaC) | ((with_reducible refine xwC ?_ ?_); focus exact xaC) | ((with_reducible refine xwD ?_ ?_); focus exact xaC) | ((with_reducible refine xwE ?_ ?_); focus exact xaC) | (with_reducible intro hc; (try simp only [capsP, and_true] at hc); (try exact xfC)) | ((fail_if_success (with_reducible first | refine xgon ?_ | intro _)); (conv => whnf); (fail_if_success (fail_if_success (with_reducible first | refine xstp ?_ | refine Both.mk ?_ ?_ | refine xgon ?_ | intro _)))))
      refine xcal (σ := [.whole 7, .whole 3]) (nl := []) (cadd ([x.at']) (numsL [x.k, x.fr, x.to, x.w, x.r] ++ numsL [x.q] ++ numsL [x.f, x.la]) true _ (Nat.le_of_ble_eq_true rfl) (by intro n hn; simp only [List.mem_cons, List.not_mem_nil, or_false] at hn; omega) (by first | omega | (simp only [List.length_append, List.length_nil]; omega))) ?_ (hle := by (repeat' first | refine And.intro ?_ ?_ | exact xeC | fail) <;> (intro i hi; first | (have h1 : i < 1 := hi; obtain rfl : i = 0 := (by omega); rfl) | (have h1 : i < 2 := hi; rcases (by omega : i = 0 ∨ i = 1) with rfl | rfl <;> rfl) | (have h1 : i < 5 := hi; rcases (by omega : i = 0 ∨ i = 1 ∨ i = 2 ∨ i = 3 ∨ i = 4) with rfl | rfl | rfl | rfl | rfl <;> rfl)))
      rintro v h' ⟨rfl, rfl⟩ hcaps
      refine rH15pC0 ?_
      repeat' (first | (fail_if_success (with_reducible refine xstp ?_)); first | ((with_reducible refine And.intro (fun (hb : _ = true) => ?_) (fun (hb : _ = false) => ?_)) <;> replace hb := xnC hb <;> (try first | exact xfC | exact bff hb (by assumption) | exact bff (by assumption) hb)) | (with_reducible refine Both.mk ?_ ?_) | ((with_reducible refine And.intro ?_ ?_); focus exact xoC) | ((with_reducible refine Or.inl ⟨?_, ?_, ?_⟩); (focus rfl); focus exact xaC) | ((with_reducible refine xwB ?_ ?_); focus exact xaC) | ((with_reducible refine xwC ?_ ?_); focus exact xaC) | ((with_reducible refine xwD ?_ ?_); focus exact xaC) | ((with_reducible refine xwE ?_ ?_); focus exact xaC) | (with_reducible intro hc; (try simp only [capsP, and_true] at hc); (try exact xfC)) | ((fail_if_success (with_reducible first | refine xgon ?_ | intro _)); (conv => whnf); (fail_if_success (fail_if_success (with_reducible first | refine xstp ?_ | refine Both.mk ?_ ?_ | refine xgon ?_ | intro _)))))
      refine FinK.mk ⟨[0], _, _, ⟨rfl, rfl⟩, ?_⟩; (repeat' first | refine And.intro ?_ ?_ | exact xeC | fail)
      all_goals first
        | omega
        | (unfold encL
           (repeat' split) <;> first
             | (exfalso; omega)
             | (simp only [List.append_assoc, List.nil_append, List.append_nil]; done))
    · skip
      refine xcal (σ := [.whole 6, .whole 3]) (nl := []) (cadd ([x.at']) (numsL [x.k, x.fr, x.to, x.w, x.r] ++ numsL [x.q]) true _ (Nat.le_of_ble_eq_true rfl) (by intro n hn; simp only [List.mem_cons, List.not_mem_nil, or_false] at hn; omega) (by first | omega | (simp only [List.length_append, List.length_nil]; omega))) ?_ (hle := by (repeat' first | refine And.intro ?_ ?_ | exact xeC | fail) <;> (intro i hi; first | (have h1 : i < 1 := hi; obtain rfl : i = 0 := (by omega); rfl) | (have h1 : i < 2 := hi; rcases (by omega : i = 0 ∨ i = 1) with rfl | rfl <;> rfl) | (have h1 : i < 5 := hi; rcases (by omega : i = 0 ∨ i = 1 ∨ i = 2 ∨ i = 3 ∨ i = 4) with rfl | rfl | rfl | rfl | rfl <;> rfl)))
      rintro v h' ⟨rfl, rfl⟩ hcaps
      refine rH15pC0 ?_
      repeat' (first | (fail_if_success (with_reducible refine xstp ?_)); first | ((with_reducible refine And.intro (fun (hb : _ = true) => ?_) (fun (hb : _ = false) => ?_)) <;> replace hb := xnC hb <;> (try first | exact xfC | exact bff hb (by assumption) | exact bff (by assumption) hb)) | (with_reducible refine Both.mk ?_ ?_) | ((with_reducible refine And.intro ?_ ?_); focus exact xoC) | ((with_reducible refine Or.inl ⟨?_, ?_, ?_⟩); (focus rfl); focus exact xaC) | ((with_reducible refine xwB ?_ ?_); focus exact xaC) | ((with_reducible refine xwC ?_ ?_); focus exact xaC) | ((with_reducible refine xwD ?_ ?_); focus exact xaC) | ((with_reducible refine xwE ?_ ?_); focus exact xaC) | (with_reducible intro hc; (try simp only [capsP, and_true] at hc); (try exact xfC)) | ((fail_if_success (with_reducible first | refine xgon ?_ | intro _)); (conv => whnf); (fail_if_success (fail_if_success (with_reducible first | refine xstp ?_ | refine Both.mk ?_ ?_ | refine xgon ?_ | intro _)))))
      refine xcal (σ := []) (nl := []) (cText x.p (by omega)) ?_
      rintro v h' ⟨rfl, rfl⟩ hcaps
      have hz1 : (mkS (numsL [x.k, x.fr, x.to, x.w, x.r] ++ numsL [x.q] ++ numsL [x.at'])).size ≤ 1000 := by rw [mkS_size]; simp only [List.length_append]; omega
      have hz2 : (mkS (textL x.p)).size ≤ 10000 := by rw [mkS_size]; unfold textL; have := venc_le x.p.length; simp only [List.length_append]; omega
      refine rH15pC0 ?_
      repeat' (first | (fail_if_success (with_reducible refine xstp ?_)); first | ((with_reducible refine And.intro (fun (hb : _ = true) => ?_) (fun (hb : _ = false) => ?_)) <;> replace hb := xnC hb <;> (try first | exact xfC | exact bff hb (by assumption) | exact bff (by assumption) hb)) | (with_reducible refine Both.mk ?_ ?_) | ((with_reducible refine And.intro ?_ ?_); focus exact xoC) | ((with_reducible refine Or.inl ⟨?_, ?_, ?_⟩); (focus rfl); focus exact xaC) | ((with_reducible refine xwB ?_ ?_); focus exact xaC) | ((with_reducible refine xwC ?_ ?_); focus exact xaC) | ((with_reducible refine xwD ?_ ?_); focus exact xaC) | ((with_reducible refine xwE ?_ ?_); focus exact xaC) | (with_reducible intro hc; (try simp only [capsP, and_true] at hc); (try exact xfC)) | ((fail_if_success (with_reducible first | refine xgon ?_ | intro _)); (conv => whnf); (fail_if_success (fail_if_success (with_reducible first | refine xstp ?_ | refine Both.mk ?_ ?_ | refine xgon ?_ | intro _)))))
      rw [mkS_append]
      refine FinK.mk ⟨[0], _, _, ⟨rfl, rfl⟩, ?_⟩; (repeat' first | refine And.intro ?_ ?_ | exact xeC | fail)
      all_goals first
        | omega
        | (unfold encL
           (repeat' split) <;> first
             | (exfalso; omega)
             | (simp only [List.append_assoc, List.nil_append, List.append_nil]; done))
  · skip
    refine xcal (σ := [.whole 5, .whole 3]) (nl := []) (cadd ([x.f, x.la]) (numsL [x.k, x.fr, x.to, x.w, x.r]) true _ (Nat.le_of_ble_eq_true rfl) (by intro n hn; simp only [List.mem_cons, List.not_mem_nil, or_false] at hn; omega) (by first | omega | (simp only [List.length_append, List.length_nil]; omega))) ?_ (hle := by (repeat' first | refine And.intro ?_ ?_ | exact xeC | fail) <;> (intro i hi; first | (have h1 : i < 1 := hi; obtain rfl : i = 0 := (by omega); rfl) | (have h1 : i < 2 := hi; rcases (by omega : i = 0 ∨ i = 1) with rfl | rfl <;> rfl) | (have h1 : i < 5 := hi; rcases (by omega : i = 0 ∨ i = 1 ∨ i = 2 ∨ i = 3 ∨ i = 4) with rfl | rfl | rfl | rfl | rfl <;> rfl)))
    rintro v h' ⟨rfl, rfl⟩ hcaps
    refine rH15pC0 ?_
    repeat' (first | (fail_if_success (with_reducible refine xstp ?_)); first | ((with_reducible refine And.intro (fun (hb : _ = true) => ?_) (fun (hb : _ = false) => ?_)) <;> replace hb := xnC hb <;> (try first | exact xfC | exact bff hb (by assumption) | exact bff (by assumption) hb)) | (with_reducible refine Both.mk ?_ ?_) | ((with_reducible refine And.intro ?_ ?_); focus exact xoC) | ((with_reducible refine Or.inl ⟨?_, ?_, ?_⟩); (focus rfl); focus exact xaC) | ((with_reducible refine xwB ?_ ?_); focus exact xaC) | ((with_reducible refine xwC ?_ ?_); focus exact xaC) | ((with_reducible refine xwD ?_ ?_); focus exact xaC) | ((with_reducible refine xwE ?_ ?_); focus exact xaC) | (with_reducible intro hc; (try simp only [capsP, and_true] at hc); (try exact xfC)) | ((fail_if_success (with_reducible first | refine xgon ?_ | intro _)); (conv => whnf); (fail_if_success (fail_if_success (with_reducible first | refine xstp ?_ | refine Both.mk ?_ ?_ | refine xgon ?_ | intro _)))))
    refine xcal (σ := [.whole 6, .whole 3]) (nl := []) (cadd ([x.at']) (numsL [x.k, x.fr, x.to, x.w, x.r] ++ numsL [x.f, x.la]) true _ (Nat.le_of_ble_eq_true rfl) (by intro n hn; simp only [List.mem_cons, List.not_mem_nil, or_false] at hn; omega) (by first | omega | (simp only [List.length_append, List.length_nil]; omega))) ?_ (hle := by (repeat' first | refine And.intro ?_ ?_ | exact xeC | fail) <;> (intro i hi; first | (have h1 : i < 1 := hi; obtain rfl : i = 0 := (by omega); rfl) | (have h1 : i < 2 := hi; rcases (by omega : i = 0 ∨ i = 1) with rfl | rfl <;> rfl) | (have h1 : i < 5 := hi; rcases (by omega : i = 0 ∨ i = 1 ∨ i = 2 ∨ i = 3 ∨ i = 4) with rfl | rfl | rfl | rfl | rfl <;> rfl)))
    rintro v h' ⟨rfl, rfl⟩ hcaps
    refine rH15pC0 ?_
    repeat' (first | (fail_if_success (with_reducible refine xstp ?_)); first | ((with_reducible refine And.intro (fun (hb : _ = true) => ?_) (fun (hb : _ = false) => ?_)) <;> replace hb := xnC hb <;> (try first | exact xfC | exact bff hb (by assumption) | exact bff (by assumption) hb)) | (with_reducible refine Both.mk ?_ ?_) | ((with_reducible refine And.intro ?_ ?_); focus exact xoC) | ((with_reducible refine Or.inl ⟨?_, ?_, ?_⟩); (focus rfl); focus exact xaC) | ((with_reducible refine xwB ?_ ?_); focus exact xaC) | ((with_reducible refine xwC ?_ ?_); focus exact xaC) | ((with_reducible refine xwD ?_ ?_); focus exact xaC) | ((with_reducible refine xwE ?_ ?_); focus exact xaC) | (with_reducible intro hc; (try simp only [capsP, and_true] at hc); (try exact xfC)) | ((fail_if_success (with_reducible first | refine xgon ?_ | intro _)); (conv => whnf); (fail_if_success (fail_if_success (with_reducible first | refine xstp ?_ | refine Both.mk ?_ ?_ | refine xgon ?_ | intro _)))))
    · skip
      refine xcal (σ := [.whole 7, .whole 3]) (nl := []) (cadd ([(x.m.length : Nat)]) (numsL [x.k, x.fr, x.to, x.w, x.r] ++ numsL [x.f, x.la] ++ numsL [x.at']) true _ (Nat.le_of_ble_eq_true rfl) (by intro n hn; simp only [List.mem_cons, List.not_mem_nil, or_false] at hn; omega) (by first | omega | (simp only [List.length_append, List.length_nil]; omega))) ?_ (hle := by (repeat' first | refine And.intro ?_ ?_ | exact xeC | fail) <;> (intro i hi; first | (have h1 : i < 1 := hi; obtain rfl : i = 0 := (by omega); rfl) | (have h1 : i < 2 := hi; rcases (by omega : i = 0 ∨ i = 1) with rfl | rfl <;> rfl) | (have h1 : i < 5 := hi; rcases (by omega : i = 0 ∨ i = 1 ∨ i = 2 ∨ i = 3 ∨ i = 4) with rfl | rfl | rfl | rfl | rfl <;> rfl)))
      rintro v h' ⟨rfl, rfl⟩ hcaps
      refine rH15pC0 ?_
      repeat' (first | (fail_if_success (with_reducible refine xstp ?_)); first | ((with_reducible refine And.intro (fun (hb : _ = true) => ?_) (fun (hb : _ = false) => ?_)) <;> replace hb := xnC hb <;> (try first | exact xfC | exact bff hb (by assumption) | exact bff (by assumption) hb)) | (with_reducible refine Both.mk ?_ ?_) | ((with_reducible refine And.intro ?_ ?_); focus exact xoC) | ((with_reducible refine Or.inl ⟨?_, ?_, ?_⟩); (focus rfl); focus exact xaC) | ((with_reducible refine xwB ?_ ?_); focus exact xaC) | ((with_reducible refine xwC ?_ ?_); focus exact xaC) | ((with_reducible refine xwD ?_ ?_); focus exact xaC) | ((with_reducible refine xwE ?_ ?_); focus exact xaC) | (with_reducible intro hc; (try simp only [capsP, and_true] at hc); (try exact xfC)) | ((fail_if_success (with_reducible first | refine xgon ?_ | intro _)); (conv => whnf); (fail_if_success (fail_if_success (with_reducible first | refine xstp ?_ | refine Both.mk ?_ ?_ | refine xgon ?_ | intro _)))))
      refine xcal (σ := [.whole 0, .whole 3]) (nl := []) (cadd x.m (numsL [x.k, x.fr, x.to, x.w, x.r] ++ numsL [x.f, x.la] ++ numsL [x.at'] ++ numsL [(x.m.length : Nat)]) wa c hm2 hem (by simp only [List.length_append]; omega)) ?_
      rintro v h' ⟨rfl, rfl⟩ hcaps
      refine rH15pC0 ?_
      repeat' (first | (fail_if_success (with_reducible refine xstp ?_)); first | ((with_reducible refine And.intro (fun (hb : _ = true) => ?_) (fun (hb : _ = false) => ?_)) <;> replace hb := xnC hb <;> (try first | exact xfC | exact bff hb (by assumption) | exact bff (by assumption) hb)) | (with_reducible refine Both.mk ?_ ?_) | ((with_reducible refine And.intro ?_ ?_); focus exact xoC) | ((with_reducible refine Or.inl ⟨?_, ?_, ?_⟩); (focus rfl); focus exact xaC) | ((with_reducible refine xwB ?_ ?_); focus exact xaC) | ((with_reducible refine xwC ?_ ?_); focus exact xaC) | ((with_reducible refine xwD ?_ ?_); focus exact xaC) | ((with_reducible refine xwE ?_ ?_); focus exact xaC) | (with_reducible intro hc; (try simp only [capsP, and_true] at hc); (try exact xfC)) | ((fail_if_success (with_reducible first | refine xgon ?_ | intro _)); (conv => whnf); (fail_if_success (fail_if_success (with_reducible first | refine xstp ?_ | refine Both.mk ?_ ?_ | refine xgon ?_ | intro _)))))
      refine FinK.mk ⟨[0], _, _, ⟨rfl, rfl⟩, ?_⟩; (repeat' first | refine And.intro ?_ ?_ | exact xeC | fail)
      all_goals first
        | omega
        | (unfold encL
           (repeat' split) <;> first
             | (exfalso; omega)
             | (simp only [List.append_assoc, List.nil_append, List.append_nil]; done))
    · skip
      refine FinK.mk ⟨[0], _, _, ⟨rfl, rfl⟩, ?_⟩; (repeat' first | refine And.intro ?_ ?_ | exact xeC | fail)
      all_goals first
        | omega
        | (unfold encL
           (repeat' split) <;> first
             | (exfalso; omega)
             | (simp only [List.append_assoc, List.nil_append, List.append_nil]; done))


set_option maxRecDepth 20000 in
set_option maxHeartbeats 4000000 in
theorem cEncodeR (x : Pk) (wa : Bool) (c : Nat) (hp : x.p.length ≤ 1000000) (hm : x.m.length ≤ 1000000) :
    Ctr Try.prog 19 [.a (encP (.sl 0 0 1 0 x.m.length c) x)] [.one (ints wa x.m c)] fun v h => v = .t [.c (.s (mkS (if chk x = 0 then encL x else []))), .c (.i .i64 (chk x : Nat))] ∧ h = [.one (ints wa x.m c)] := by
  refine Ctr.mk' tbv mixed Try.func19 rfl rfl rfl (fun _ _ => by kernel_rfl) (by kernel_rfl) (by rfl) (by rfl) (by (repeat' first | refine And.intro ?_ ?_ | exact xeC | fail)) ?_
  repeat' (first | (fail_if_success (with_reducible refine xstp ?_)); first | ((with_reducible refine And.intro (fun (hb : _ = true) => ?_) (fun (hb : _ = false) => ?_)) <;> replace hb := xnC hb <;> (try first | exact xfC | exact bff hb (by assumption) | exact bff (by assumption) hb)) | (with_reducible refine Both.mk ?_ ?_) | ((with_reducible refine And.intro ?_ ?_); focus exact xoC) | ((with_reducible refine Or.inl ⟨?_, ?_, ?_⟩); (focus rfl); focus exact xaC) | ((with_reducible refine xwB ?_ ?_); focus exact xaC) | ((with_reducible refine xwC ?_ ?_); focus exact xaC) | ((with_reducible refine xwD ?_ ?_); focus exact xaC) | ((with_reducible refine xwE ?_ ?_); focus exact xaC) | (with_reducible intro hc; (try simp only [capsP, and_true] at hc); (try exact xfC)) | ((fail_if_success (with_reducible first | refine xgon ?_ | intro _)); (conv => whnf); (fail_if_success (fail_if_success (with_reducible first | refine xstp ?_ | refine Both.mk ?_ ?_ | refine xgon ?_ | intro _)))))
  refine xcal (σ := [.whole 0]) (nl := []) (cCheckR x wa c hp hm) ?_
  rintro v h' ⟨rfl, rfl⟩ hcaps
  refine rH15pC0 ?_
  repeat' (first | (fail_if_success (with_reducible refine xstp ?_)); first | ((with_reducible refine And.intro (fun (hb : _ = true) => ?_) (fun (hb : _ = false) => ?_)) <;> replace hb := xnC hb <;> (try first | exact xfC | exact bff hb (by assumption) | exact bff (by assumption) hb)) | (with_reducible refine Both.mk ?_ ?_) | ((with_reducible refine And.intro ?_ ?_); focus exact xoC) | ((with_reducible refine Or.inl ⟨?_, ?_, ?_⟩); (focus rfl); focus exact xaC) | ((with_reducible refine xwB ?_ ?_); focus exact xaC) | ((with_reducible refine xwC ?_ ?_); focus exact xaC) | ((with_reducible refine xwD ?_ ?_); focus exact xaC) | ((with_reducible refine xwE ?_ ?_); focus exact xaC) | (with_reducible intro hc; (try simp only [capsP, and_true] at hc); (try exact xfC)) | ((fail_if_success (with_reducible first | refine xgon ?_ | intro _)); (conv => whnf); (fail_if_success (fail_if_success (with_reducible first | refine xstp ?_ | refine Both.mk ?_ ?_ | refine xgon ?_ | intro _)))))
  · rw [if_neg (by omega)]
    refine FinK.mk ⟨[0], _, _, ⟨rfl, rfl⟩, ?_⟩; (repeat' first | refine And.intro ?_ ?_ | exact xeC | fail)
  have hck : chk x = 0 := by omega
  obtain ⟨hr, hp2, hm2, hun, hbad⟩ := enc_le x hck
  have hem := enc_m hck
  have hr2 := hr
  unfold rngP at hr2
  rw [if_pos hck]
  have hun2 := hun
  unfold unuP at hun2
  refine xcal (σ := []) (nl := []) (cletters x.k) ?_
  rintro v h' ⟨rfl, rfl⟩ hcaps
  refine rH15pC0 ?_
  repeat' (first | (fail_if_success (with_reducible refine xstp ?_)); first | ((with_reducible refine And.intro (fun (hb : _ = true) => ?_) (fun (hb : _ = false) => ?_)) <;> replace hb := xnC hb <;> (try first | exact xfC | exact bff hb (by assumption) | exact bff (by assumption) hb)) | (with_reducible refine Both.mk ?_ ?_) | ((with_reducible refine And.intro ?_ ?_); focus exact xoC) | ((with_reducible refine Or.inl ⟨?_, ?_, ?_⟩); (focus rfl); focus exact xaC) | ((with_reducible refine xwB ?_ ?_); focus exact xaC) | ((with_reducible refine xwC ?_ ?_); focus exact xaC) | ((with_reducible refine xwD ?_ ?_); focus exact xaC) | ((with_reducible refine xwE ?_ ?_); focus exact xaC) | (with_reducible intro hc; (try simp only [capsP, and_true] at hc); (try exact xfC)) | ((fail_if_success (with_reducible first | refine xgon ?_ | intro _)); (conv => whnf); (fail_if_success (fail_if_success (with_reducible first | refine xstp ?_ | refine Both.mk ?_ ?_ | refine xgon ?_ | intro _)))))
  refine xcal (σ := []) (nl := []) (cnumT (x.k) (by omega) (by omega)) ?_
  rintro v h' ⟨rfl, rfl⟩ hcaps
  have hN1 := num_le (x.k)
  generalize eN1 : numsL [x.k] = N1 at hN1 ⊢
  have N1z : (mkS N1).size = N1.length := rfl
  refine rH15pC0 ?_
  repeat' (first | (fail_if_success (with_reducible refine xstp ?_)); first | ((with_reducible refine And.intro (fun (hb : _ = true) => ?_) (fun (hb : _ = false) => ?_)) <;> replace hb := xnC hb <;> (try first | exact xfC | exact bff hb (by assumption) | exact bff (by assumption) hb)) | (with_reducible refine Both.mk ?_ ?_) | ((with_reducible refine And.intro ?_ ?_); focus exact xoC) | ((with_reducible refine Or.inl ⟨?_, ?_, ?_⟩); (focus rfl); focus exact xaC) | ((with_reducible refine xwB ?_ ?_); focus exact xaC) | ((with_reducible refine xwC ?_ ?_); focus exact xaC) | ((with_reducible refine xwD ?_ ?_); focus exact xaC) | ((with_reducible refine xwE ?_ ?_); focus exact xaC) | (with_reducible intro hc; (try simp only [capsP, and_true] at hc); (try exact xfC)) | ((fail_if_success (with_reducible first | refine xgon ?_ | intro _)); (conv => whnf); (fail_if_success (fail_if_success (with_reducible first | refine xstp ?_ | refine Both.mk ?_ ?_ | refine xgon ?_ | intro _)))))
  refine xcal (σ := []) (nl := []) (cnumT (x.fr) (by omega) (by omega)) ?_
  rintro v h' ⟨rfl, rfl⟩ hcaps
  have hN2 := num_le (x.fr)
  generalize eN2 : numsL [x.fr] = N2 at hN2 ⊢
  have N2z : (mkS N2).size = N2.length := rfl
  refine rH15pC0 ?_
  repeat' (first | (fail_if_success (with_reducible refine xstp ?_)); first | ((with_reducible refine And.intro (fun (hb : _ = true) => ?_) (fun (hb : _ = false) => ?_)) <;> replace hb := xnC hb <;> (try first | exact xfC | exact bff hb (by assumption) | exact bff (by assumption) hb)) | (with_reducible refine Both.mk ?_ ?_) | ((with_reducible refine And.intro ?_ ?_); focus exact xoC) | ((with_reducible refine Or.inl ⟨?_, ?_, ?_⟩); (focus rfl); focus exact xaC) | ((with_reducible refine xwB ?_ ?_); focus exact xaC) | ((with_reducible refine xwC ?_ ?_); focus exact xaC) | ((with_reducible refine xwD ?_ ?_); focus exact xaC) | ((with_reducible refine xwE ?_ ?_); focus exact xaC) | (with_reducible intro hc; (try simp only [capsP, and_true] at hc); (try exact xfC)) | ((fail_if_success (with_reducible first | refine xgon ?_ | intro _)); (conv => whnf); (fail_if_success (fail_if_success (with_reducible first | refine xstp ?_ | refine Both.mk ?_ ?_ | refine xgon ?_ | intro _)))))
  rw [mkS_append]
  generalize eS2 : N1 ++ N2 = S2 at *
  have S2l : S2.length ≤ 20 := by rw [← eS2, List.length_append]; omega
  have S2z : (mkS S2).size = S2.length := rfl
  refine xcal (σ := []) (nl := []) (cnumT (x.to) (by omega) (by omega)) ?_
  rintro v h' ⟨rfl, rfl⟩ hcaps
  have hN3 := num_le (x.to)
  generalize eN3 : numsL [x.to] = N3 at hN3 ⊢
  have N3z : (mkS N3).size = N3.length := rfl
  refine rH15pC0 ?_
  repeat' (first | (fail_if_success (with_reducible refine xstp ?_)); first | ((with_reducible refine And.intro (fun (hb : _ = true) => ?_) (fun (hb : _ = false) => ?_)) <;> replace hb := xnC hb <;> (try first | exact xfC | exact bff hb (by assumption) | exact bff (by assumption) hb)) | (with_reducible refine Both.mk ?_ ?_) | ((with_reducible refine And.intro ?_ ?_); focus exact xoC) | ((with_reducible refine Or.inl ⟨?_, ?_, ?_⟩); (focus rfl); focus exact xaC) | ((with_reducible refine xwB ?_ ?_); focus exact xaC) | ((with_reducible refine xwC ?_ ?_); focus exact xaC) | ((with_reducible refine xwD ?_ ?_); focus exact xaC) | ((with_reducible refine xwE ?_ ?_); focus exact xaC) | (with_reducible intro hc; (try simp only [capsP, and_true] at hc); (try exact xfC)) | ((fail_if_success (with_reducible first | refine xgon ?_ | intro _)); (conv => whnf); (fail_if_success (fail_if_success (with_reducible first | refine xstp ?_ | refine Both.mk ?_ ?_ | refine xgon ?_ | intro _)))))
  rw [mkS_append]
  generalize eS3 : S2 ++ N3 = S3 at *
  have S3l : S3.length ≤ 30 := by rw [← eS3, List.length_append]; omega
  have S3z : (mkS S3).size = S3.length := rfl
  refine xcal (σ := []) (nl := []) (chas (letL x.k) 119 (letL_len x.k)) ?_
  rintro v h' ⟨rfl, rfl⟩ hcaps
  rw [hasW]
  refine rH15pC0 ?_
  repeat' (first | (fail_if_success (with_reducible refine xstp ?_)); first | ((with_reducible refine And.intro (fun (hb : _ = true) => ?_) (fun (hb : _ = false) => ?_)) <;> replace hb := xnC hb <;> (try first | exact xfC | exact bff hb (by assumption) | exact bff (by assumption) hb)) | (with_reducible refine Both.mk ?_ ?_) | ((with_reducible refine And.intro ?_ ?_); focus exact xoC) | ((with_reducible refine Or.inl ⟨?_, ?_, ?_⟩); (focus rfl); focus exact xaC) | ((with_reducible refine xwB ?_ ?_); focus exact xaC) | ((with_reducible refine xwC ?_ ?_); focus exact xaC) | ((with_reducible refine xwD ?_ ?_); focus exact xaC) | ((with_reducible refine xwE ?_ ?_); focus exact xaC) | (with_reducible intro hc; (try simp only [capsP, and_true] at hc); (try exact xfC)) | ((fail_if_success (with_reducible first | refine xgon ?_ | intro _)); (conv => whnf); (fail_if_success (fail_if_success (with_reducible first | refine xstp ?_ | refine Both.mk ?_ ?_ | refine xgon ?_ | intro _)))))
  refine xcal (σ := []) (nl := []) (cnumber (1 ≤ x.k ∧ x.k ≤ 5) (x.w) (by omega) (by omega)) ?_
  rintro v h' ⟨rfl, rfl⟩ hcaps
  have hN4 := numI_le (1 ≤ x.k ∧ x.k ≤ 5) (x.w)
  generalize eN4 : (if 1 ≤ x.k ∧ x.k ≤ 5 then numsL [x.w] else []) = N4 at *
  have N4z : (mkS N4).size = N4.length := rfl
  refine rH15pC0 ?_
  repeat' (first | (fail_if_success (with_reducible refine xstp ?_)); first | ((with_reducible refine And.intro (fun (hb : _ = true) => ?_) (fun (hb : _ = false) => ?_)) <;> replace hb := xnC hb <;> (try first | exact xfC | exact bff hb (by assumption) | exact bff (by assumption) hb)) | (with_reducible refine Both.mk ?_ ?_) | ((with_reducible refine And.intro ?_ ?_); focus exact xoC) | ((with_reducible refine Or.inl ⟨?_, ?_, ?_⟩); (focus rfl); focus exact xaC) | ((with_reducible refine xwB ?_ ?_); focus exact xaC) | ((with_reducible refine xwC ?_ ?_); focus exact xaC) | ((with_reducible refine xwD ?_ ?_); focus exact xaC) | ((with_reducible refine xwE ?_ ?_); focus exact xaC) | (with_reducible intro hc; (try simp only [capsP, and_true] at hc); (try exact xfC)) | ((fail_if_success (with_reducible first | refine xgon ?_ | intro _)); (conv => whnf); (fail_if_success (fail_if_success (with_reducible first | refine xstp ?_ | refine Both.mk ?_ ?_ | refine xgon ?_ | intro _)))))
  rw [mkS_append]
  generalize eS4 : S3 ++ N4 = S4 at *
  have S4l : S4.length ≤ 40 := by rw [← eS4, List.length_append]; omega
  have S4z : (mkS S4).size = S4.length := rfl
  refine xcal (σ := []) (nl := []) (chas (letL x.k) 114 (letL_len x.k)) ?_
  rintro v h' ⟨rfl, rfl⟩ hcaps
  rw [hasR]
  refine rH15pC0 ?_
  repeat' (first | (fail_if_success (with_reducible refine xstp ?_)); first | ((with_reducible refine And.intro (fun (hb : _ = true) => ?_) (fun (hb : _ = false) => ?_)) <;> replace hb := xnC hb <;> (try first | exact xfC | exact bff hb (by assumption) | exact bff (by assumption) hb)) | (with_reducible refine Both.mk ?_ ?_) | ((with_reducible refine And.intro ?_ ?_); focus exact xoC) | ((with_reducible refine Or.inl ⟨?_, ?_, ?_⟩); (focus rfl); focus exact xaC) | ((with_reducible refine xwB ?_ ?_); focus exact xaC) | ((with_reducible refine xwC ?_ ?_); focus exact xaC) | ((with_reducible refine xwD ?_ ?_); focus exact xaC) | ((with_reducible refine xwE ?_ ?_); focus exact xaC) | (with_reducible intro hc; (try simp only [capsP, and_true] at hc); (try exact xfC)) | ((fail_if_success (with_reducible first | refine xgon ?_ | intro _)); (conv => whnf); (fail_if_success (fail_if_success (with_reducible first | refine xstp ?_ | refine Both.mk ?_ ?_ | refine xgon ?_ | intro _)))))
  refine xcal (σ := []) (nl := []) (cnumber (1 ≤ x.k ∧ x.k ≤ 5) (x.r) (by omega) (by omega)) ?_
  rintro v h' ⟨rfl, rfl⟩ hcaps
  have hN5 := numI_le (1 ≤ x.k ∧ x.k ≤ 5) (x.r)
  generalize eN5 : (if 1 ≤ x.k ∧ x.k ≤ 5 then numsL [x.r] else []) = N5 at *
  have N5z : (mkS N5).size = N5.length := rfl
  refine rH15pC0 ?_
  repeat' (first | (fail_if_success (with_reducible refine xstp ?_)); first | ((with_reducible refine And.intro (fun (hb : _ = true) => ?_) (fun (hb : _ = false) => ?_)) <;> replace hb := xnC hb <;> (try first | exact xfC | exact bff hb (by assumption) | exact bff (by assumption) hb)) | (with_reducible refine Both.mk ?_ ?_) | ((with_reducible refine And.intro ?_ ?_); focus exact xoC) | ((with_reducible refine Or.inl ⟨?_, ?_, ?_⟩); (focus rfl); focus exact xaC) | ((with_reducible refine xwB ?_ ?_); focus exact xaC) | ((with_reducible refine xwC ?_ ?_); focus exact xaC) | ((with_reducible refine xwD ?_ ?_); focus exact xaC) | ((with_reducible refine xwE ?_ ?_); focus exact xaC) | (with_reducible intro hc; (try simp only [capsP, and_true] at hc); (try exact xfC)) | ((fail_if_success (with_reducible first | refine xgon ?_ | intro _)); (conv => whnf); (fail_if_success (fail_if_success (with_reducible first | refine xstp ?_ | refine Both.mk ?_ ?_ | refine xgon ?_ | intro _)))))
  rw [mkS_append]
  generalize eS5 : S4 ++ N5 = S5 at *
  have S5l : S5.length ≤ 50 := by rw [← eS5, List.length_append]; omega
  have S5z : (mkS S5).size = S5.length := rfl
  refine xcal (σ := []) (nl := []) (chas (letL x.k) 115 (letL_len x.k)) ?_
  rintro v h' ⟨rfl, rfl⟩ hcaps
  rw [hasS]
  refine rH15pC0 ?_
  repeat' (first | (fail_if_success (with_reducible refine xstp ?_)); first | ((with_reducible refine And.intro (fun (hb : _ = true) => ?_) (fun (hb : _ = false) => ?_)) <;> replace hb := xnC hb <;> (try first | exact xfC | exact bff hb (by assumption) | exact bff (by assumption) hb)) | (with_reducible refine Both.mk ?_ ?_) | ((with_reducible refine And.intro ?_ ?_); focus exact xoC) | ((with_reducible refine Or.inl ⟨?_, ?_, ?_⟩); (focus rfl); focus exact xaC) | ((with_reducible refine xwB ?_ ?_); focus exact xaC) | ((with_reducible refine xwC ?_ ?_); focus exact xaC) | ((with_reducible refine xwD ?_ ?_); focus exact xaC) | ((with_reducible refine xwE ?_ ?_); focus exact xaC) | (with_reducible intro hc; (try simp only [capsP, and_true] at hc); (try exact xfC)) | ((fail_if_success (with_reducible first | refine xgon ?_ | intro _)); (conv => whnf); (fail_if_success (fail_if_success (with_reducible first | refine xstp ?_ | refine Both.mk ?_ ?_ | refine xgon ?_ | intro _)))))
  refine xcal (σ := []) (nl := []) (cnumber (x.k = 1 ∨ x.k = 4 ∨ x.k = 5) (x.q) (by omega) (by omega)) ?_
  rintro v h' ⟨rfl, rfl⟩ hcaps
  have hN6 := numI_le (x.k = 1 ∨ x.k = 4 ∨ x.k = 5) (x.q)
  generalize eN6 : (if x.k = 1 ∨ x.k = 4 ∨ x.k = 5 then numsL [x.q] else []) = N6 at *
  have N6z : (mkS N6).size = N6.length := rfl
  refine rH15pC0 ?_
  repeat' (first | (fail_if_success (with_reducible refine xstp ?_)); first | ((with_reducible refine And.intro (fun (hb : _ = true) => ?_) (fun (hb : _ = false) => ?_)) <;> replace hb := xnC hb <;> (try first | exact xfC | exact bff hb (by assumption) | exact bff (by assumption) hb)) | (with_reducible refine Both.mk ?_ ?_) | ((with_reducible refine And.intro ?_ ?_); focus exact xoC) | ((with_reducible refine Or.inl ⟨?_, ?_, ?_⟩); (focus rfl); focus exact xaC) | ((with_reducible refine xwB ?_ ?_); focus exact xaC) | ((with_reducible refine xwC ?_ ?_); focus exact xaC) | ((with_reducible refine xwD ?_ ?_); focus exact xaC) | ((with_reducible refine xwE ?_ ?_); focus exact xaC) | (with_reducible intro hc; (try simp only [capsP, and_true] at hc); (try exact xfC)) | ((fail_if_success (with_reducible first | refine xgon ?_ | intro _)); (conv => whnf); (fail_if_success (fail_if_success (with_reducible first | refine xstp ?_ | refine Both.mk ?_ ?_ | refine xgon ?_ | intro _)))))
  rw [mkS_append]
  generalize eS6 : S5 ++ N6 = S6 at *
  have S6l : S6.length ≤ 60 := by rw [← eS6, List.length_append]; omega
  have S6z : (mkS S6).size = S6.length := rfl
  refine xcal (σ := []) (nl := []) (chas (letL x.k) 102 (letL_len x.k)) ?_
  rintro v h' ⟨rfl, rfl⟩ hcaps
  rw [hasF]
  refine rH15pC0 ?_
  repeat' (first | (fail_if_success (with_reducible refine xstp ?_)); first | ((with_reducible refine And.intro (fun (hb : _ = true) => ?_) (fun (hb : _ = false) => ?_)) <;> replace hb := xnC hb <;> (try first | exact xfC | exact bff hb (by assumption) | exact bff (by assumption) hb)) | (with_reducible refine Both.mk ?_ ?_) | ((with_reducible refine And.intro ?_ ?_); focus exact xoC) | ((with_reducible refine Or.inl ⟨?_, ?_, ?_⟩); (focus rfl); focus exact xaC) | ((with_reducible refine xwB ?_ ?_); focus exact xaC) | ((with_reducible refine xwC ?_ ?_); focus exact xaC) | ((with_reducible refine xwD ?_ ?_); focus exact xaC) | ((with_reducible refine xwE ?_ ?_); focus exact xaC) | (with_reducible intro hc; (try simp only [capsP, and_true] at hc); (try exact xfC)) | ((fail_if_success (with_reducible first | refine xgon ?_ | intro _)); (conv => whnf); (fail_if_success (fail_if_success (with_reducible first | refine xstp ?_ | refine Both.mk ?_ ?_ | refine xgon ?_ | intro _)))))
  refine xcal (σ := []) (nl := []) (cnumber (x.k = 2 ∨ x.k = 3 ∨ x.k = 4) (x.f) (by omega) (by omega)) ?_
  rintro v h' ⟨rfl, rfl⟩ hcaps
  have hN7 := numI_le (x.k = 2 ∨ x.k = 3 ∨ x.k = 4) (x.f)
  generalize eN7 : (if x.k = 2 ∨ x.k = 3 ∨ x.k = 4 then numsL [x.f] else []) = N7 at *
  have N7z : (mkS N7).size = N7.length := rfl
  refine rH15pC0 ?_
  repeat' (first | (fail_if_success (with_reducible refine xstp ?_)); first | ((with_reducible refine And.intro (fun (hb : _ = true) => ?_) (fun (hb : _ = false) => ?_)) <;> replace hb := xnC hb <;> (try first | exact xfC | exact bff hb (by assumption) | exact bff (by assumption) hb)) | (with_reducible refine Both.mk ?_ ?_) | ((with_reducible refine And.intro ?_ ?_); focus exact xoC) | ((with_reducible refine Or.inl ⟨?_, ?_, ?_⟩); (focus rfl); focus exact xaC) | ((with_reducible refine xwB ?_ ?_); focus exact xaC) | ((with_reducible refine xwC ?_ ?_); focus exact xaC) | ((with_reducible refine xwD ?_ ?_); focus exact xaC) | ((with_reducible refine xwE ?_ ?_); focus exact xaC) | (with_reducible intro hc; (try simp only [capsP, and_true] at hc); (try exact xfC)) | ((fail_if_success (with_reducible first | refine xgon ?_ | intro _)); (conv => whnf); (fail_if_success (fail_if_success (with_reducible first | refine xstp ?_ | refine Both.mk ?_ ?_ | refine xgon ?_ | intro _)))))
  rw [mkS_append]
  generalize eS7 : S6 ++ N7 = S7 at *
  have S7l : S7.length ≤ 70 := by rw [← eS7, List.length_append]; omega
  have S7z : (mkS S7).size = S7.length := rfl
  refine xcal (σ := []) (nl := []) (chas (letL x.k) 108 (letL_len x.k)) ?_
  rintro v h' ⟨rfl, rfl⟩ hcaps
  rw [hasL]
  refine rH15pC0 ?_
  repeat' (first | (fail_if_success (with_reducible refine xstp ?_)); first | ((with_reducible refine And.intro (fun (hb : _ = true) => ?_) (fun (hb : _ = false) => ?_)) <;> replace hb := xnC hb <;> (try first | exact xfC | exact bff hb (by assumption) | exact bff (by assumption) hb)) | (with_reducible refine Both.mk ?_ ?_) | ((with_reducible refine And.intro ?_ ?_); focus exact xoC) | ((with_reducible refine Or.inl ⟨?_, ?_, ?_⟩); (focus rfl); focus exact xaC) | ((with_reducible refine xwB ?_ ?_); focus exact xaC) | ((with_reducible refine xwC ?_ ?_); focus exact xaC) | ((with_reducible refine xwD ?_ ?_); focus exact xaC) | ((with_reducible refine xwE ?_ ?_); focus exact xaC) | (with_reducible intro hc; (try simp only [capsP, and_true] at hc); (try exact xfC)) | ((fail_if_success (with_reducible first | refine xgon ?_ | intro _)); (conv => whnf); (fail_if_success (fail_if_success (with_reducible first | refine xstp ?_ | refine Both.mk ?_ ?_ | refine xgon ?_ | intro _)))))
  refine xcal (σ := []) (nl := []) (cnumber (x.k = 2 ∨ x.k = 3 ∨ x.k = 4) (x.la) (by omega) (by omega)) ?_
  rintro v h' ⟨rfl, rfl⟩ hcaps
  have hN8 := numI_le (x.k = 2 ∨ x.k = 3 ∨ x.k = 4) (x.la)
  generalize eN8 : (if x.k = 2 ∨ x.k = 3 ∨ x.k = 4 then numsL [x.la] else []) = N8 at *
  have N8z : (mkS N8).size = N8.length := rfl
  refine rH15pC0 ?_
  repeat' (first | (fail_if_success (with_reducible refine xstp ?_)); first | ((with_reducible refine And.intro (fun (hb : _ = true) => ?_) (fun (hb : _ = false) => ?_)) <;> replace hb := xnC hb <;> (try first | exact xfC | exact bff hb (by assumption) | exact bff (by assumption) hb)) | (with_reducible refine Both.mk ?_ ?_) | ((with_reducible refine And.intro ?_ ?_); focus exact xoC) | ((with_reducible refine Or.inl ⟨?_, ?_, ?_⟩); (focus rfl); focus exact xaC) | ((with_reducible refine xwB ?_ ?_); focus exact xaC) | ((with_reducible refine xwC ?_ ?_); focus exact xaC) | ((with_reducible refine xwD ?_ ?_); focus exact xaC) | ((with_reducible refine xwE ?_ ?_); focus exact xaC) | (with_reducible intro hc; (try simp only [capsP, and_true] at hc); (try exact xfC)) | ((fail_if_success (with_reducible first | refine xgon ?_ | intro _)); (conv => whnf); (fail_if_success (fail_if_success (with_reducible first | refine xstp ?_ | refine Both.mk ?_ ?_ | refine xgon ?_ | intro _)))))
  rw [mkS_append]
  generalize eS8 : S7 ++ N8 = S8 at *
  have S8l : S8.length ≤ 80 := by rw [← eS8, List.length_append]; omega
  have S8z : (mkS S8).size = S8.length := rfl
  refine xcal (σ := []) (nl := []) (chas (letL x.k) 97 (letL_len x.k)) ?_
  rintro v h' ⟨rfl, rfl⟩ hcaps
  rw [hasA]
  refine rH15pC0 ?_
  repeat' (first | (fail_if_success (with_reducible refine xstp ?_)); first | ((with_reducible refine And.intro (fun (hb : _ = true) => ?_) (fun (hb : _ = false) => ?_)) <;> replace hb := xnC hb <;> (try first | exact xfC | exact bff hb (by assumption) | exact bff (by assumption) hb)) | (with_reducible refine Both.mk ?_ ?_) | ((with_reducible refine And.intro ?_ ?_); focus exact xoC) | ((with_reducible refine Or.inl ⟨?_, ?_, ?_⟩); (focus rfl); focus exact xaC) | ((with_reducible refine xwB ?_ ?_); focus exact xaC) | ((with_reducible refine xwC ?_ ?_); focus exact xaC) | ((with_reducible refine xwD ?_ ?_); focus exact xaC) | ((with_reducible refine xwE ?_ ?_); focus exact xaC) | (with_reducible intro hc; (try simp only [capsP, and_true] at hc); (try exact xfC)) | ((fail_if_success (with_reducible first | refine xgon ?_ | intro _)); (conv => whnf); (fail_if_success (fail_if_success (with_reducible first | refine xstp ?_ | refine Both.mk ?_ ?_ | refine xgon ?_ | intro _)))))
  refine xcal (σ := []) (nl := []) (cnumber (1 ≤ x.k ∧ x.k ≤ 5) (x.at') (by omega) (by omega)) ?_
  rintro v h' ⟨rfl, rfl⟩ hcaps
  have hN9 := numI_le (1 ≤ x.k ∧ x.k ≤ 5) (x.at')
  generalize eN9 : (if 1 ≤ x.k ∧ x.k ≤ 5 then numsL [x.at'] else []) = N9 at *
  have N9z : (mkS N9).size = N9.length := rfl
  refine rH15pC0 ?_
  repeat' (first | (fail_if_success (with_reducible refine xstp ?_)); first | ((with_reducible refine And.intro (fun (hb : _ = true) => ?_) (fun (hb : _ = false) => ?_)) <;> replace hb := xnC hb <;> (try first | exact xfC | exact bff hb (by assumption) | exact bff (by assumption) hb)) | (with_reducible refine Both.mk ?_ ?_) | ((with_reducible refine And.intro ?_ ?_); focus exact xoC) | ((with_reducible refine Or.inl ⟨?_, ?_, ?_⟩); (focus rfl); focus exact xaC) | ((with_reducible refine xwB ?_ ?_); focus exact xaC) | ((with_reducible refine xwC ?_ ?_); focus exact xaC) | ((with_reducible refine xwD ?_ ?_); focus exact xaC) | ((with_reducible refine xwE ?_ ?_); focus exact xaC) | (with_reducible intro hc; (try simp only [capsP, and_true] at hc); (try exact xfC)) | ((fail_if_success (with_reducible first | refine xgon ?_ | intro _)); (conv => whnf); (fail_if_success (fail_if_success (with_reducible first | refine xstp ?_ | refine Both.mk ?_ ?_ | refine xgon ?_ | intro _)))))
  rw [mkS_append]
  generalize eS9 : S8 ++ N9 = S9 at *
  have S9l : S9.length ≤ 90 := by rw [← eS9, List.length_append]; omega
  have S9z : (mkS S9).size = S9.length := rfl
  have key : encL x = S9 ++ ((if x.k = 3 then numsL [(x.m.length : Nat)] ++ numsL x.m else []) ++ (if x.k = 1 ∨ x.k = 5 then textL x.p else [])) := by
    unfold encL
    rw [numsL_cons, numsL_cons, numsL_cons, numsL_cons, ← eS9, ← eS8, ← eS7, ← eS6, ← eS5, ← eS4, ← eS3, ← eS2, ← eN9, ← eN8, ← eN7, ← eN6, ← eN5, ← eN4, ← eN3, ← eN2, ← eN1]
    have e1 : (if x.k = 2 ∨ x.k = 3 ∨ x.k = 4 then numsL [x.f, x.la] else []) = (if x.k = 2 ∨ x.k = 3 ∨ x.k = 4 then numsL [x.f] else []) ++ (if x.k = 2 ∨ x.k = 3 ∨ x.k = 4 then numsL [x.la] else []) := by
      split
      · rw [numsL_cons]
      · rfl
    rw [e1, if_pos hr.1, if_pos hr.1, if_pos hr.1]
    simp only [List.append_assoc]
  refine xcal (σ := []) (nl := []) (chas (letL x.k) 109 (letL_len x.k)) ?_
  rintro v h' ⟨rfl, rfl⟩ hcaps
  rw [hasM]
  refine rH15pC0 ?_
  repeat' (first | (fail_if_success (with_reducible refine xstp ?_)); first | ((with_reducible refine And.intro (fun (hb : _ = true) => ?_) (fun (hb : _ = false) => ?_)) <;> replace hb := xnC hb <;> (try first | exact xfC | exact bff hb (by assumption) | exact bff (by assumption) hb)) | (with_reducible refine Both.mk ?_ ?_) | ((with_reducible refine And.intro ?_ ?_); focus exact xoC) | ((with_reducible refine Or.inl ⟨?_, ?_, ?_⟩); (focus rfl); focus exact xaC) | ((with_reducible refine xwB ?_ ?_); focus exact xaC) | ((with_reducible refine xwC ?_ ?_); focus exact xaC) | ((with_reducible refine xwD ?_ ?_); focus exact xaC) | ((with_reducible refine xwE ?_ ?_); focus exact xaC) | (with_reducible intro hc; (try simp only [capsP, and_true] at hc); (try exact xfC)) | ((fail_if_success (with_reducible first | refine xgon ?_ | intro _)); (conv => whnf); (fail_if_success (fail_if_success (with_reducible first | refine xstp ?_ | refine Both.mk ?_ ?_ | refine xgon ?_ | intro _)))))
  · have h3 : x.k = 3 := hb
    have h9 : ¬ (x.k = 1 ∨ x.k = 5) := by omega
    refine xcal (σ := []) (nl := []) (cnumT ((x.m.length : Nat)) (by omega) (by omega)) ?_
    rintro v h' ⟨rfl, rfl⟩ hcaps
    have hN10 := num_le ((x.m.length : Nat))
    generalize eN10 : numsL [(x.m.length : Nat)] = N10 at hN10 ⊢
    have N10z : (mkS N10).size = N10.length := rfl
    refine rH15pC0 ?_
    repeat' (first | (fail_if_success (with_reducible refine xstp ?_)); first | ((with_reducible refine And.intro (fun (hb : _ = true) => ?_) (fun (hb : _ = false) => ?_)) <;> replace hb := xnC hb <;> (try first | exact xfC | exact bff hb (by assumption) | exact bff (by assumption) hb)) | (with_reducible refine Both.mk ?_ ?_) | ((with_reducible refine And.intro ?_ ?_); focus exact xoC) | ((with_reducible refine Or.inl ⟨?_, ?_, ?_⟩); (focus rfl); focus exact xaC) | ((with_reducible refine xwB ?_ ?_); focus exact xaC) | ((with_reducible refine xwC ?_ ?_); focus exact xaC) | ((with_reducible refine xwD ?_ ?_); focus exact xaC) | ((with_reducible refine xwE ?_ ?_); focus exact xaC) | (with_reducible intro hc; (try simp only [capsP, and_true] at hc); (try exact xfC)) | ((fail_if_success (with_reducible first | refine xgon ?_ | intro _)); (conv => whnf); (fail_if_success (fail_if_success (with_reducible first | refine xstp ?_ | refine Both.mk ?_ ?_ | refine xgon ?_ | intro _)))))
    rw [mkS_append]
    generalize eS10 : S9 ++ N10 = S10 at *
    have S10l : S10.length ≤ 100 := by rw [← eS10, List.length_append]; omega
    have S10z : (mkS S10).size = S10.length := rfl
    refine LoopK.mk' {i : Nat // i ≤ x.m.length}
      (fun ⟨i, _⟩ => ⟨[(1, .c (.p 1 0 0)), (5, .c (.s (mkS (letL x.k)))), (6, .c (.s (mkS (S10 ++ numsL (x.m.take i))))), (7, .c (.i .i64 (i : Nat)))], [.one (ints wa x.m c), .one (.cells true (encP (.sl 0 0 1 0 x.m.length c) x))]⟩) (fun k => x.m.length - k.1)
      ⟨⟨0, Nat.zero_le _⟩, [0, 1], ?_⟩ ?_
    · (repeat' first | refine And.intro ?_ ?_ | exact xeC | fail)
      rw [show numsL (x.m.take 0) = [] by simp [numsL], List.append_nil]
    rintro ⟨i, hi⟩
    have hb1 := numsL_le (x.m.take i)
    rw [List.length_take] at hb1
    have hz : (mkS (S10 ++ numsL (x.m.take i))).size = S10.length + (numsL (x.m.take i)).length := by rw [mkS_size, List.length_append]
    repeat' (first | (fail_if_success (with_reducible refine xstp ?_)); first | ((with_reducible refine And.intro (fun (hb : _ = true) => ?_) (fun (hb : _ = false) => ?_)) <;> replace hb := xnC hb <;> (try first | exact xfC | exact bff hb (by assumption) | exact bff (by assumption) hb)) | (with_reducible refine Both.mk ?_ ?_) | ((with_reducible refine And.intro ?_ ?_); focus exact xoC) | ((with_reducible refine Or.inl ⟨?_, ?_, ?_⟩); (focus rfl); focus exact xaC) | ((with_reducible refine xwB ?_ ?_); focus exact xaC) | ((with_reducible refine xwC ?_ ?_); focus exact xaC) | ((with_reducible refine xwD ?_ ?_); focus exact xaC) | ((with_reducible refine xwE ?_ ?_); focus exact xaC) | (with_reducible intro hc; (try simp only [capsP, and_true] at hc); (try exact xfC)) | ((fail_if_success (with_reducible first | refine xgon ?_ | intro _)); (conv => whnf); (fail_if_success (fail_if_success (with_reducible first | refine xstp ?_ | refine Both.mk ?_ ?_ | refine xgon ?_ | intro _)))))
    · have hx := hem (x.m.getD i default) (by rw [getD_at (by omega)]; exact List.getElem_mem _)
      simp only [Int.toNat_natCast, Nat.zero_add]
      refine xcal (σ := []) (nl := []) (cnumT (x.m.getD i default) (by omega) (by omega)) ?_
      rintro v h' ⟨rfl, rfl⟩ hcaps
      have hN11 := num_le (x.m.getD i default)
      generalize eN11 : numsL [x.m.getD i default] = N11 at hN11 ⊢
      have N11z : (mkS N11).size = N11.length := rfl
      refine rH15pC0 ?_
      repeat' (first | (fail_if_success (with_reducible refine xstp ?_)); first | ((with_reducible refine And.intro (fun (hb : _ = true) => ?_) (fun (hb : _ = false) => ?_)) <;> replace hb := xnC hb <;> (try first | exact xfC | exact bff hb (by assumption) | exact bff (by assumption) hb)) | (with_reducible refine Both.mk ?_ ?_) | ((with_reducible refine And.intro ?_ ?_); focus exact xoC) | ((with_reducible refine Or.inl ⟨?_, ?_, ?_⟩); (focus rfl); focus exact xaC) | ((with_reducible refine xwB ?_ ?_); focus exact xaC) | ((with_reducible refine xwC ?_ ?_); focus exact xaC) | ((with_reducible refine xwD ?_ ?_); focus exact xaC) | ((with_reducible refine xwE ?_ ?_); focus exact xaC) | (with_reducible intro hc; (try simp only [capsP, and_true] at hc); (try exact xfC)) | ((fail_if_success (with_reducible first | refine xgon ?_ | intro _)); (conv => whnf); (fail_if_success (fail_if_success (with_reducible first | refine xstp ?_ | refine Both.mk ?_ ?_ | refine xgon ?_ | intro _)))))
      rw [mkS_append]
      refine ⟨⟨i + 1, by omega⟩, [0, 1], by simp only; omega, ?_⟩
      (repeat' first | refine And.intro ?_ ?_ | exact xeC | fail)
      rw [numsL_snoc _ (by omega), ← eN11, List.append_assoc]
      simp [numsL]
    · have hfin : encL x = S10 ++ numsL (x.m.take i) := by
        rw [List.take_of_length_le (by omega), key, if_pos h3, if_neg h9, ← eS10, ← eN10]
        simp only [List.append_assoc, List.append_nil]
      rw [hfin]
      refine xcal (σ := []) (nl := []) (chas (letL x.k) 112 (letL_len x.k)) ?_
      rintro v h' ⟨rfl, rfl⟩ hcaps
      rw [hasP]
      refine rH15pC0 ?_
      repeat' (first | (fail_if_success (with_reducible refine xstp ?_)); first | ((with_reducible refine And.intro (fun (hb : _ = true) => ?_) (fun (hb : _ = false) => ?_)) <;> replace hb := xnC hb <;> (try first | exact xfC | exact bff hb (by assumption) | exact bff (by assumption) hb)) | (with_reducible refine Both.mk ?_ ?_) | ((with_reducible refine And.intro ?_ ?_); focus exact xoC) | ((with_reducible refine Or.inl ⟨?_, ?_, ?_⟩); (focus rfl); focus exact xaC) | ((with_reducible refine xwB ?_ ?_); focus exact xaC) | ((with_reducible refine xwC ?_ ?_); focus exact xaC) | ((with_reducible refine xwD ?_ ?_); focus exact xaC) | ((with_reducible refine xwE ?_ ?_); focus exact xaC) | (with_reducible intro hc; (try simp only [capsP, and_true] at hc); (try exact xfC)) | ((fail_if_success (with_reducible first | refine xgon ?_ | intro _)); (conv => whnf); (fail_if_success (fail_if_success (with_reducible first | refine xstp ?_ | refine Both.mk ?_ ?_ | refine xgon ?_ | intro _)))))
      refine FinK.mk ⟨[0], _, _, ⟨rfl, rfl⟩, ?_⟩; (repeat' first | refine And.intro ?_ ?_ | exact xeC | fail)
      omega
  · have h3 := hb
    refine xcal (σ := []) (nl := []) (chas (letL x.k) 112 (letL_len x.k)) ?_
    rintro v h' ⟨rfl, rfl⟩ hcaps
    rw [hasP]
    refine rH15pC0 ?_
    repeat' (first | (fail_if_success (with_reducible refine xstp ?_)); first | ((with_reducible refine And.intro (fun (hb : _ = true) => ?_) (fun (hb : _ = false) => ?_)) <;> replace hb := xnC hb <;> (try first | exact xfC | exact bff hb (by assumption) | exact bff (by assumption) hb)) | (with_reducible refine Both.mk ?_ ?_) | ((with_reducible refine And.intro ?_ ?_); focus exact xoC) | ((with_reducible refine Or.inl ⟨?_, ?_, ?_⟩); (focus rfl); focus exact xaC) | ((with_reducible refine xwB ?_ ?_); focus exact xaC) | ((with_reducible refine xwC ?_ ?_); focus exact xaC) | ((with_reducible refine xwD ?_ ?_); focus exact xaC) | ((with_reducible refine xwE ?_ ?_); focus exact xaC) | (with_reducible intro hc; (try simp only [capsP, and_true] at hc); (try exact xfC)) | ((fail_if_success (with_reducible first | refine xgon ?_ | intro _)); (conv => whnf); (fail_if_success (fail_if_success (with_reducible first | refine xstp ?_ | refine Both.mk ?_ ?_ | refine xgon ?_ | intro _)))))
    · refine xcal (σ := []) (nl := []) (cTextR x.p (by omega)) ?_
      rintro v h' ⟨rfl, rfl⟩ hcaps
      have hz2 : (mkS (textL x.p)).size ≤ 10000 := by rw [mkS_size]; unfold textL; have := venc_le x.p.length; simp only [List.length_append]; omega
      refine rH15pC0 ?_
      repeat' (first | (fail_if_success (with_reducible refine xstp ?_)); first | ((with_reducible refine And.intro (fun (hb : _ = true) => ?_) (fun (hb : _ = false) => ?_)) <;> replace hb := xnC hb <;> (try first | exact xfC | exact bff hb (by assumption) | exact bff (by assumption) hb)) | (with_reducible refine Both.mk ?_ ?_) | ((with_reducible refine And.intro ?_ ?_); focus exact xoC) | ((with_reducible refine Or.inl ⟨?_, ?_, ?_⟩); (focus rfl); focus exact xaC) | ((with_reducible refine xwB ?_ ?_); focus exact xaC) | ((with_reducible refine xwC ?_ ?_); focus exact xaC) | ((with_reducible refine xwD ?_ ?_); focus exact xaC) | ((with_reducible refine xwE ?_ ?_); focus exact xaC) | (with_reducible intro hc; (try simp only [capsP, and_true] at hc); (try exact xfC)) | ((fail_if_success (with_reducible first | refine xgon ?_ | intro _)); (conv => whnf); (fail_if_success (fail_if_success (with_reducible first | refine xstp ?_ | refine Both.mk ?_ ?_ | refine xgon ?_ | intro _)))))
      rw [mkS_append, key, if_neg h3, if_pos hb]
      refine FinK.mk ⟨[0], _, _, ⟨rfl, rfl⟩, ?_⟩; (repeat' first | refine And.intro ?_ ?_ | exact xeC | fail)
      omega
    · rw [key, if_neg h3, if_neg hb]
      simp only [List.append_nil]
      refine FinK.mk ⟨[0], _, _, ⟨rfl, rfl⟩, ?_⟩; (repeat' first | refine And.intro ?_ ?_ | exact xeC | fail)
      omega
end Go.Proofs.Ytgaodeffbgppmaa
