/- Part 4 of the texts that a walk of this program rests on: an abstract machine, its soundness, contracts of functions. No statement of the seat is proved in this file. -/
import Derived.Test.YtofcadbfjbefkaaGreatZ3
import Derived.Shelf.Sort.Plain
import Derived.Shelf.Slices.In.SortNone
namespace Go.Proofs.YtofcadbfjbefkaaGreat
open Go.X
set_option linter.unusedSimpArgs false
set_option linter.unusedVariables false
structure Pk where
  (k fr to w r q f la at' : Int) (m : List Int) (p : List UInt8)
deriving Inhabited, DecidableEq
def encP (mm : C) (x : Pk) : List C := [.i .i64 x.k, .i .i64 x.fr, .i .i64 x.to, .i .i64 x.w, .i .i64 x.r, .i .i64 x.q, .i .i64 x.f, .i .i64 x.la, .i .i64 x.at', mm, .s (mkS x.p)]
abbrev ints (w : Bool) (l : List Int) (c : Nat) : Ck := .row w false 3 1 l.length c (Go.X.rowOf Go.X.encI l)
/-- The numbers that a kind uses are in range. -/
def rngP (x : Pk) : Prop := (1 ≤ x.k ∧ x.k ≤ 5) ∧ (0 ≤ x.fr ∧ x.fr ≤ 7) ∧ (0 ≤ x.to ∧ x.to ≤ 7) ∧ ((x.k = 5 ∧ 0 ≤ x.w ∨ 1 ≤ x.w) ∧ x.w ≤ 1073741824) ∧ ((x.k = 5 ∧ 0 ≤ x.r ∨ 1 ≤ x.r) ∧ x.r ≤ 1073741824) ∧
  ((x.k = 2 ∨ x.k = 3) ∨ (x.k = 1 ∧ 1 ≤ x.q ∧ x.q ≤ 1099511627776) ∨ (x.k = 5 ∧ 0 ≤ x.q ∧ x.q ≤ 1099511627776) ∨ (x.k = 4 ∧ 0 ≤ x.q ∧ x.q ≤ 1)) ∧
  ((x.k = 1 ∨ x.k = 5) ∨ (1 ≤ x.f ∧ x.f ≤ 1099511627776) ∧ (0 ≤ x.la ∧ x.la ≤ 1099511627776)) ∧ (0 ≤ x.at' ∧ x.at' ≤ 1099511627776)
instance (x : Pk) : Decidable (rngP x) := by unfold rngP; infer_instance

set_option maxRecDepth 10000 in
theorem cwithin (n lo hi : Int) :
    Ctr Tryz.prog 82 [.c (.i .i64 n), .c (.i .i64 lo), .c (.i .i64 hi)] [] fun v h => v = .c (.b (decide (lo ≤ n ∧ n ≤ hi))) ∧ h = [] := by
  refine Ctr.mk' tbv mixed Tryz.func82 rfl rfl rfl (fun _ _ => by kernel_rfl) (by kernel_rfl) (by rfl) (by rfl) (by (repeat' first | refine And.intro ?_ ?_ | exact xeC | fail)) ?_
  repeat' (first | (fail_if_success (with_reducible refine xstp ?_)); first | ((with_reducible refine And.intro (fun (hb : _ = true) => ?_) (fun (hb : _ = false) => ?_)) <;> replace hb := xnC hb <;> (try first | exact xfC | exact bff hb (by assumption) | exact bff (by assumption) hb)) | (with_reducible intro hc; (try simp only [capsP, and_true] at hc); (try exact xfC)) | ((fail_if_success (with_reducible first | refine xgon ?_ | intro _)); (conv => whnf); (fail_if_success (fail_if_success (with_reducible first | refine xstp ?_ | refine xgon ?_ | intro _)))))
  · refine FinK.mk ⟨[], _, _, ⟨rfl, rfl⟩, ?_⟩; (repeat' first | refine And.intro ?_ ?_ | exact xeC | fail)
    (first | exact decide_eq_true (by omega) | exact decide_eq_false (by omega) | exact (decide_eq_true (by omega)).symm | exact (decide_eq_false (by omega)).symm | exact decide_eq_decide.2 (by omega))
  · refine FinK.mk ⟨[], _, _, ⟨rfl, rfl⟩, ?_⟩; (repeat' first | refine And.intro ?_ ?_ | exact xeC | fail)
    (first | exact decide_eq_true (by omega) | exact decide_eq_false (by omega) | exact (decide_eq_true (by omega)).symm | exact (decide_eq_false (by omega)).symm | exact decide_eq_decide.2 (by omega))

/-- Which fields a kind uses: ends, seq, first, missing, payload. -/
def usesL (k : Int) : List C := [.b (decide (1 ≤ k ∧ k ≤ 5)), .b (decide (k = 1 ∨ k = 4 ∨ k = 5)), .b (decide (k = 2 ∨ k = 3 ∨ k = 4)), .b (decide (k = 3)), .b (decide (k = 1 ∨ k = 5))]
set_option maxRecDepth 10000 in
theorem cuses (k : Int) :
    Ctr Tryz.prog 65 [.c (.i .i64 k)] [] fun v h => v = .t [.a (usesL k), .c (.b (decide (1 ≤ k ∧ k ≤ 5)))] ∧ h = [] := by
  refine Ctr.mk' tbv mixed Tryz.func65 rfl rfl rfl (fun _ _ => by kernel_rfl) (by kernel_rfl) (by rfl) (by rfl) (by (repeat' first | refine And.intro ?_ ?_ | exact xeC | fail)) ?_
  repeat' (first | (fail_if_success (with_reducible refine xstp ?_)); first | ((with_reducible refine And.intro (fun (hb : _ = true) => ?_) (fun (hb : _ = false) => ?_)) <;> replace hb := xnC hb <;> (try first | exact xfC | exact bff hb (by assumption) | exact bff (by assumption) hb)) | (with_reducible intro hc; (try simp only [capsP, and_true] at hc); (try exact xfC)) | ((fail_if_success (with_reducible first | refine xgon ?_ | intro _)); (conv => whnf); (fail_if_success (fail_if_success (with_reducible first | refine xstp ?_ | refine xgon ?_ | intro _)))))
  all_goals (
    refine FinK.mk ⟨[], _, _, ⟨rfl, rfl⟩, ?_⟩; (repeat' first | refine And.intro ?_ ?_ | exact xeC | fail)
    all_goals (first | exact decide_eq_true (by omega) | exact decide_eq_false (by omega) | exact (decide_eq_true (by omega)).symm | exact (decide_eq_false (by omega)).symm | exact decide_eq_decide.2 (by omega)))

theorem rH18zpA0 {σ : List Sg} {H h' : List Fam} {v : T} {K : T → List Fam → Prop} {H' : List Fam} {v' : T} {N : Nat} (hk : K v' H') (hN : H.length = N := by (try simp only [↓List.length_cons, ↓List.length_nil, Nat.reduceAdd]) <;> rfl) (h : givesF σ N H σ h' = some H' := by (try simp (maxSteps := 1000000) only [givesF, setF, updF, Fam.zeroth, Fam.rk, Ck.rk, C.rk, E.rk, T.rk, key, List.map_cons, List.map_nil, List.cons_append, List.nil_append, List.length_cons, List.length_nil, Option.map_some, Option.bind_some, Nat.reduceAdd, Nat.zero_add, Nat.add_zero, Nat.add_sub_cancel_left, Int.toNat_natCast, reps, List.all_cons, List.all_nil, C.flat, List.append_eq, Bool.not_true, Bool.and_true, Bool.or_false, Bool.or_self, Bool.not_false, List.append_nil, Bool.and_self, encP, usesL]) <;> rfl) (hv : v.rk σ N = v' := by (try simp only [givesF, setF, updF, Fam.zeroth, Fam.rk, Ck.rk, C.rk, E.rk, T.rk, key, List.map_cons, List.map_nil, List.cons_append, List.nil_append, List.length_cons, List.length_nil, Option.map_some, Option.bind_some, Nat.reduceAdd, Nat.zero_add, Nat.add_zero, Nat.add_sub_cancel_left, Int.toNat_natCast, reps, List.all_cons, List.all_nil, C.flat, List.append_eq, Bool.not_true, Bool.and_true, Bool.or_false, Bool.or_self, Bool.not_false, List.append_nil, Bool.and_self, encP, usesL]) <;> rfl) : RetG σ H h' v K := ret_mk3 hN h hv hk
set_option maxRecDepth 10000 in
theorem cinRange (x : Pk) (n c : Nat) (hk : 1 ≤ x.k ∧ x.k ≤ 5) :
    Ctr Tryz.prog 66 [.a (encP (.sl 0 0 1 0 n c) x), .a (usesL x.k)] [.one .no] fun v h => v = .c (.b (decide (rngP x))) ∧ h = [.one .no] := by
  refine Ctr.mk' tbv mixed Tryz.func66 rfl rfl rfl (fun _ _ => by kernel_rfl) (by kernel_rfl) (by rfl) (by rfl) (by (repeat' first | refine And.intro ?_ ?_ | exact xeC | fail)) ?_
  repeat' (first | (fail_if_success (with_reducible refine xstp ?_)); first | ((with_reducible refine And.intro (fun (hb : _ = true) => ?_) (fun (hb : _ = false) => ?_)) <;> replace hb := xnC hb <;> (try first | exact xfC | exact bff hb (by assumption) | exact bff (by assumption) hb)) | (with_reducible intro hc; (try simp only [capsP, and_true] at hc); (try exact xfC)) | ((fail_if_success (with_reducible first | refine xgon ?_ | intro _)); (conv => whnf); (fail_if_success (fail_if_success (with_reducible first | refine xstp ?_ | refine xgon ?_ | intro _)))))
  · skip
    refine xcal (σ := []) (nl := []) (cwithin (x.fr) (0) (7)) ?_
    rintro v h' ⟨rfl, rfl⟩ hcaps
    refine rH18zpA0 ?_
    repeat' (first | (fail_if_success (with_reducible refine xstp ?_)); first | ((with_reducible refine And.intro (fun (hb : _ = true) => ?_) (fun (hb : _ = false) => ?_)) <;> replace hb := xnC hb <;> (try first | exact xfC | exact bff hb (by assumption) | exact bff (by assumption) hb)) | ((fail_if_success (with_reducible first | refine xgon ?_ | intro _)); (conv => whnf); (fail_if_success (fail_if_success (with_reducible first | refine xstp ?_ | refine xgon ?_ | intro _)))))
    · refine FinK.mk ⟨[0], _, _, ⟨rfl, rfl⟩, ?_⟩; (repeat' first | refine And.intro ?_ ?_ | exact xeC | fail)
      all_goals (first | exact decide_eq_true (by unfold rngP; omega) | exact decide_eq_false (by unfold rngP; omega) | exact (decide_eq_true (by unfold rngP; omega)).symm | exact (decide_eq_false (by unfold rngP; omega)).symm | exact decide_eq_decide.2 (by unfold rngP; omega))
    refine xcal (σ := []) (nl := []) (cwithin (x.to) (0) (7)) ?_
    rintro v h' ⟨rfl, rfl⟩ hcaps
    refine rH18zpA0 ?_
    repeat' (first | (fail_if_success (with_reducible refine xstp ?_)); first | ((with_reducible refine And.intro (fun (hb : _ = true) => ?_) (fun (hb : _ = false) => ?_)) <;> replace hb := xnC hb <;> (try first | exact xfC | exact bff hb (by assumption) | exact bff (by assumption) hb)) | ((fail_if_success (with_reducible first | refine xgon ?_ | intro _)); (conv => whnf); (fail_if_success (fail_if_success (with_reducible first | refine xstp ?_ | refine xgon ?_ | intro _)))))
    · refine FinK.mk ⟨[0], _, _, ⟨rfl, rfl⟩, ?_⟩; (repeat' first | refine And.intro ?_ ?_ | exact xeC | fail)
      all_goals (first | exact decide_eq_true (by unfold rngP; omega) | exact decide_eq_false (by unfold rngP; omega) | exact (decide_eq_true (by unfold rngP; omega)).symm | exact (decide_eq_false (by unfold rngP; omega)).symm | exact decide_eq_decide.2 (by unfold rngP; omega))
    refine xcal (σ := []) (nl := []) (cwithin (x.w) (0) (1073741824)) ?_
    rintro v h' ⟨rfl, rfl⟩ hcaps
    refine rH18zpA0 ?_
    repeat' (first | (fail_if_success (with_reducible refine xstp ?_)); first | ((with_reducible refine And.intro (fun (hb : _ = true) => ?_) (fun (hb : _ = false) => ?_)) <;> replace hb := xnC hb <;> (try first | exact xfC | exact bff hb (by assumption) | exact bff (by assumption) hb)) | ((fail_if_success (with_reducible first | refine xgon ?_ | intro _)); (conv => whnf); (fail_if_success (fail_if_success (with_reducible first | refine xstp ?_ | refine xgon ?_ | intro _)))))
    · refine FinK.mk ⟨[0], _, _, ⟨rfl, rfl⟩, ?_⟩; (repeat' first | refine And.intro ?_ ?_ | exact xeC | fail)
      all_goals (first | exact decide_eq_true (by unfold rngP; omega) | exact decide_eq_false (by unfold rngP; omega) | exact (decide_eq_true (by unfold rngP; omega)).symm | exact (decide_eq_false (by unfold rngP; omega)).symm | exact decide_eq_decide.2 (by unfold rngP; omega))
    refine xcal (σ := []) (nl := []) (cwithin (x.r) (0) (1073741824)) ?_
    rintro v h' ⟨rfl, rfl⟩ hcaps
    refine rH18zpA0 ?_
    repeat' (first | (fail_if_success (with_reducible refine xstp ?_)); first | ((with_reducible refine And.intro (fun (hb : _ = true) => ?_) (fun (hb : _ = false) => ?_)) <;> replace hb := xnC hb <;> (try first | exact xfC | exact bff hb (by assumption) | exact bff (by assumption) hb)) | ((fail_if_success (with_reducible first | refine xgon ?_ | intro _)); (conv => whnf); (fail_if_success (fail_if_success (with_reducible first | refine xstp ?_ | refine xgon ?_ | intro _)))))
    · refine FinK.mk ⟨[0], _, _, ⟨rfl, rfl⟩, ?_⟩; (repeat' first | refine And.intro ?_ ?_ | exact xeC | fail)
      all_goals (first | exact decide_eq_true (by unfold rngP; omega) | exact decide_eq_false (by unfold rngP; omega) | exact (decide_eq_true (by unfold rngP; omega)).symm | exact (decide_eq_false (by unfold rngP; omega)).symm | exact decide_eq_decide.2 (by unfold rngP; omega))
    refine xcal (σ := []) (nl := []) (cwithin (x.q) (0) (1099511627776)) ?_
    rintro v h' ⟨rfl, rfl⟩ hcaps
    refine rH18zpA0 ?_
    repeat' (first | (fail_if_success (with_reducible refine xstp ?_)); first | ((with_reducible refine And.intro (fun (hb : _ = true) => ?_) (fun (hb : _ = false) => ?_)) <;> replace hb := xnC hb <;> (try first | exact xfC | exact bff hb (by assumption) | exact bff (by assumption) hb)) | ((fail_if_success (with_reducible first | refine xgon ?_ | intro _)); (conv => whnf); (fail_if_success (fail_if_success (with_reducible first | refine xstp ?_ | refine xgon ?_ | intro _)))))
    · refine FinK.mk ⟨[0], _, _, ⟨rfl, rfl⟩, ?_⟩; (repeat' first | refine And.intro ?_ ?_ | exact xeC | fail)
      all_goals (first | exact decide_eq_true (by unfold rngP; omega) | exact decide_eq_false (by unfold rngP; omega) | exact (decide_eq_true (by unfold rngP; omega)).symm | exact (decide_eq_false (by unfold rngP; omega)).symm | exact decide_eq_decide.2 (by unfold rngP; omega))
    refine xcal (σ := []) (nl := []) (cwithin (x.at') (0) (1099511627776)) ?_
    rintro v h' ⟨rfl, rfl⟩ hcaps
    refine rH18zpA0 ?_
    repeat' (first | (fail_if_success (with_reducible refine xstp ?_)); first | ((fail_if_success (with_reducible first | refine xgon ?_ | intro _)); (conv => whnf); (fail_if_success (fail_if_success (with_reducible first | refine xstp ?_ | refine xgon ?_ | intro _)))))
    refine FinK.mk ⟨[0], _, _, ⟨rfl, rfl⟩, ?_⟩; (repeat' first | refine And.intro ?_ ?_ | exact xeC | fail)
    all_goals (first | exact decide_eq_true (by unfold rngP; omega) | exact decide_eq_false (by unfold rngP; omega) | exact (decide_eq_true (by unfold rngP; omega)).symm | exact (decide_eq_false (by unfold rngP; omega)).symm | exact decide_eq_decide.2 (by unfold rngP; omega))
  · skip
    refine xcal (σ := []) (nl := []) (cwithin (x.fr) (0) (7)) ?_
    rintro v h' ⟨rfl, rfl⟩ hcaps
    refine rH18zpA0 ?_
    repeat' (first | (fail_if_success (with_reducible refine xstp ?_)); first | ((with_reducible refine And.intro (fun (hb : _ = true) => ?_) (fun (hb : _ = false) => ?_)) <;> replace hb := xnC hb <;> (try first | exact xfC | exact bff hb (by assumption) | exact bff (by assumption) hb)) | ((fail_if_success (with_reducible first | refine xgon ?_ | intro _)); (conv => whnf); (fail_if_success (fail_if_success (with_reducible first | refine xstp ?_ | refine xgon ?_ | intro _)))))
    · refine FinK.mk ⟨[0], _, _, ⟨rfl, rfl⟩, ?_⟩; (repeat' first | refine And.intro ?_ ?_ | exact xeC | fail)
      all_goals (first | exact decide_eq_true (by unfold rngP; omega) | exact decide_eq_false (by unfold rngP; omega) | exact (decide_eq_true (by unfold rngP; omega)).symm | exact (decide_eq_false (by unfold rngP; omega)).symm | exact decide_eq_decide.2 (by unfold rngP; omega))
    refine xcal (σ := []) (nl := []) (cwithin (x.to) (0) (7)) ?_
    rintro v h' ⟨rfl, rfl⟩ hcaps
    refine rH18zpA0 ?_
    repeat' (first | (fail_if_success (with_reducible refine xstp ?_)); first | ((with_reducible refine And.intro (fun (hb : _ = true) => ?_) (fun (hb : _ = false) => ?_)) <;> replace hb := xnC hb <;> (try first | exact xfC | exact bff hb (by assumption) | exact bff (by assumption) hb)) | ((fail_if_success (with_reducible first | refine xgon ?_ | intro _)); (conv => whnf); (fail_if_success (fail_if_success (with_reducible first | refine xstp ?_ | refine xgon ?_ | intro _)))))
    · refine FinK.mk ⟨[0], _, _, ⟨rfl, rfl⟩, ?_⟩; (repeat' first | refine And.intro ?_ ?_ | exact xeC | fail)
      all_goals (first | exact decide_eq_true (by unfold rngP; omega) | exact decide_eq_false (by unfold rngP; omega) | exact (decide_eq_true (by unfold rngP; omega)).symm | exact (decide_eq_false (by unfold rngP; omega)).symm | exact decide_eq_decide.2 (by unfold rngP; omega))
    refine xcal (σ := []) (nl := []) (cwithin (x.w) (1) (1073741824)) ?_
    rintro v h' ⟨rfl, rfl⟩ hcaps
    refine rH18zpA0 ?_
    repeat' (first | (fail_if_success (with_reducible refine xstp ?_)); first | ((with_reducible refine And.intro (fun (hb : _ = true) => ?_) (fun (hb : _ = false) => ?_)) <;> replace hb := xnC hb <;> (try first | exact xfC | exact bff hb (by assumption) | exact bff (by assumption) hb)) | ((fail_if_success (with_reducible first | refine xgon ?_ | intro _)); (conv => whnf); (fail_if_success (fail_if_success (with_reducible first | refine xstp ?_ | refine xgon ?_ | intro _)))))
    · refine FinK.mk ⟨[0], _, _, ⟨rfl, rfl⟩, ?_⟩; (repeat' first | refine And.intro ?_ ?_ | exact xeC | fail)
      all_goals (first | exact decide_eq_true (by unfold rngP; omega) | exact decide_eq_false (by unfold rngP; omega) | exact (decide_eq_true (by unfold rngP; omega)).symm | exact (decide_eq_false (by unfold rngP; omega)).symm | exact decide_eq_decide.2 (by unfold rngP; omega))
    refine xcal (σ := []) (nl := []) (cwithin (x.r) (1) (1073741824)) ?_
    rintro v h' ⟨rfl, rfl⟩ hcaps
    refine rH18zpA0 ?_
    repeat' (first | (fail_if_success (with_reducible refine xstp ?_)); first | ((with_reducible refine And.intro (fun (hb : _ = true) => ?_) (fun (hb : _ = false) => ?_)) <;> replace hb := xnC hb <;> (try first | exact xfC | exact bff hb (by assumption) | exact bff (by assumption) hb)) | ((fail_if_success (with_reducible first | refine xgon ?_ | intro _)); (conv => whnf); (fail_if_success (fail_if_success (with_reducible first | refine xstp ?_ | refine xgon ?_ | intro _)))))
    · refine FinK.mk ⟨[0], _, _, ⟨rfl, rfl⟩, ?_⟩; (repeat' first | refine And.intro ?_ ?_ | exact xeC | fail)
      all_goals (first | exact decide_eq_true (by unfold rngP; omega) | exact decide_eq_false (by unfold rngP; omega) | exact (decide_eq_true (by unfold rngP; omega)).symm | exact (decide_eq_false (by unfold rngP; omega)).symm | exact decide_eq_decide.2 (by unfold rngP; omega))
    refine xcal (σ := []) (nl := []) (cwithin (x.q) (0) (1)) ?_
    rintro v h' ⟨rfl, rfl⟩ hcaps
    refine rH18zpA0 ?_
    repeat' (first | (fail_if_success (with_reducible refine xstp ?_)); first | ((with_reducible refine And.intro (fun (hb : _ = true) => ?_) (fun (hb : _ = false) => ?_)) <;> replace hb := xnC hb <;> (try first | exact xfC | exact bff hb (by assumption) | exact bff (by assumption) hb)) | ((fail_if_success (with_reducible first | refine xgon ?_ | intro _)); (conv => whnf); (fail_if_success (fail_if_success (with_reducible first | refine xstp ?_ | refine xgon ?_ | intro _)))))
    · refine FinK.mk ⟨[0], _, _, ⟨rfl, rfl⟩, ?_⟩; (repeat' first | refine And.intro ?_ ?_ | exact xeC | fail)
      all_goals (first | exact decide_eq_true (by unfold rngP; omega) | exact decide_eq_false (by unfold rngP; omega) | exact (decide_eq_true (by unfold rngP; omega)).symm | exact (decide_eq_false (by unfold rngP; omega)).symm | exact decide_eq_decide.2 (by unfold rngP; omega))
    refine xcal (σ := []) (nl := []) (cwithin (x.f) (1) (1099511627776)) ?_
    rintro v h' ⟨rfl, rfl⟩ hcaps
    refine rH18zpA0 ?_
    repeat' (first | (fail_if_success (with_reducible refine xstp ?_)); first | ((with_reducible refine And.intro (fun (hb : _ = true) => ?_) (fun (hb : _ = false) => ?_)) <;> replace hb := xnC hb <;> (try first | exact xfC | exact bff hb (by assumption) | exact bff (by assumption) hb)) | ((fail_if_success (with_reducible first | refine xgon ?_ | intro _)); (conv => whnf); (fail_if_success (fail_if_success (with_reducible first | refine xstp ?_ | refine xgon ?_ | intro _)))))
    · refine FinK.mk ⟨[0], _, _, ⟨rfl, rfl⟩, ?_⟩; (repeat' first | refine And.intro ?_ ?_ | exact xeC | fail)
      all_goals (first | exact decide_eq_true (by unfold rngP; omega) | exact decide_eq_false (by unfold rngP; omega) | exact (decide_eq_true (by unfold rngP; omega)).symm | exact (decide_eq_false (by unfold rngP; omega)).symm | exact decide_eq_decide.2 (by unfold rngP; omega))
    refine xcal (σ := []) (nl := []) (cwithin (x.la) (0) (1099511627776)) ?_
    rintro v h' ⟨rfl, rfl⟩ hcaps
    refine rH18zpA0 ?_
    repeat' (first | (fail_if_success (with_reducible refine xstp ?_)); first | ((with_reducible refine And.intro (fun (hb : _ = true) => ?_) (fun (hb : _ = false) => ?_)) <;> replace hb := xnC hb <;> (try first | exact xfC | exact bff hb (by assumption) | exact bff (by assumption) hb)) | ((fail_if_success (with_reducible first | refine xgon ?_ | intro _)); (conv => whnf); (fail_if_success (fail_if_success (with_reducible first | refine xstp ?_ | refine xgon ?_ | intro _)))))
    · refine FinK.mk ⟨[0], _, _, ⟨rfl, rfl⟩, ?_⟩; (repeat' first | refine And.intro ?_ ?_ | exact xeC | fail)
      all_goals (first | exact decide_eq_true (by unfold rngP; omega) | exact decide_eq_false (by unfold rngP; omega) | exact (decide_eq_true (by unfold rngP; omega)).symm | exact (decide_eq_false (by unfold rngP; omega)).symm | exact decide_eq_decide.2 (by unfold rngP; omega))
    refine xcal (σ := []) (nl := []) (cwithin (x.at') (0) (1099511627776)) ?_
    rintro v h' ⟨rfl, rfl⟩ hcaps
    refine rH18zpA0 ?_
    repeat' (first | (fail_if_success (with_reducible refine xstp ?_)); first | ((fail_if_success (with_reducible first | refine xgon ?_ | intro _)); (conv => whnf); (fail_if_success (fail_if_success (with_reducible first | refine xstp ?_ | refine xgon ?_ | intro _)))))
    refine FinK.mk ⟨[0], _, _, ⟨rfl, rfl⟩, ?_⟩; (repeat' first | refine And.intro ?_ ?_ | exact xeC | fail)
    all_goals (first | exact decide_eq_true (by unfold rngP; omega) | exact decide_eq_false (by unfold rngP; omega) | exact (decide_eq_true (by unfold rngP; omega)).symm | exact (decide_eq_false (by unfold rngP; omega)).symm | exact decide_eq_decide.2 (by unfold rngP; omega))
  · skip
    refine xcal (σ := []) (nl := []) (cwithin (x.fr) (0) (7)) ?_
    rintro v h' ⟨rfl, rfl⟩ hcaps
    refine rH18zpA0 ?_
    repeat' (first | (fail_if_success (with_reducible refine xstp ?_)); first | ((with_reducible refine And.intro (fun (hb : _ = true) => ?_) (fun (hb : _ = false) => ?_)) <;> replace hb := xnC hb <;> (try first | exact xfC | exact bff hb (by assumption) | exact bff (by assumption) hb)) | ((fail_if_success (with_reducible first | refine xgon ?_ | intro _)); (conv => whnf); (fail_if_success (fail_if_success (with_reducible first | refine xstp ?_ | refine xgon ?_ | intro _)))))
    · refine FinK.mk ⟨[0], _, _, ⟨rfl, rfl⟩, ?_⟩; (repeat' first | refine And.intro ?_ ?_ | exact xeC | fail)
      all_goals (first | exact decide_eq_true (by unfold rngP; omega) | exact decide_eq_false (by unfold rngP; omega) | exact (decide_eq_true (by unfold rngP; omega)).symm | exact (decide_eq_false (by unfold rngP; omega)).symm | exact decide_eq_decide.2 (by unfold rngP; omega))
    refine xcal (σ := []) (nl := []) (cwithin (x.to) (0) (7)) ?_
    rintro v h' ⟨rfl, rfl⟩ hcaps
    refine rH18zpA0 ?_
    repeat' (first | (fail_if_success (with_reducible refine xstp ?_)); first | ((with_reducible refine And.intro (fun (hb : _ = true) => ?_) (fun (hb : _ = false) => ?_)) <;> replace hb := xnC hb <;> (try first | exact xfC | exact bff hb (by assumption) | exact bff (by assumption) hb)) | ((fail_if_success (with_reducible first | refine xgon ?_ | intro _)); (conv => whnf); (fail_if_success (fail_if_success (with_reducible first | refine xstp ?_ | refine xgon ?_ | intro _)))))
    · refine FinK.mk ⟨[0], _, _, ⟨rfl, rfl⟩, ?_⟩; (repeat' first | refine And.intro ?_ ?_ | exact xeC | fail)
      all_goals (first | exact decide_eq_true (by unfold rngP; omega) | exact decide_eq_false (by unfold rngP; omega) | exact (decide_eq_true (by unfold rngP; omega)).symm | exact (decide_eq_false (by unfold rngP; omega)).symm | exact decide_eq_decide.2 (by unfold rngP; omega))
    refine xcal (σ := []) (nl := []) (cwithin (x.w) (1) (1073741824)) ?_
    rintro v h' ⟨rfl, rfl⟩ hcaps
    refine rH18zpA0 ?_
    repeat' (first | (fail_if_success (with_reducible refine xstp ?_)); first | ((with_reducible refine And.intro (fun (hb : _ = true) => ?_) (fun (hb : _ = false) => ?_)) <;> replace hb := xnC hb <;> (try first | exact xfC | exact bff hb (by assumption) | exact bff (by assumption) hb)) | ((fail_if_success (with_reducible first | refine xgon ?_ | intro _)); (conv => whnf); (fail_if_success (fail_if_success (with_reducible first | refine xstp ?_ | refine xgon ?_ | intro _)))))
    · refine FinK.mk ⟨[0], _, _, ⟨rfl, rfl⟩, ?_⟩; (repeat' first | refine And.intro ?_ ?_ | exact xeC | fail)
      all_goals (first | exact decide_eq_true (by unfold rngP; omega) | exact decide_eq_false (by unfold rngP; omega) | exact (decide_eq_true (by unfold rngP; omega)).symm | exact (decide_eq_false (by unfold rngP; omega)).symm | exact decide_eq_decide.2 (by unfold rngP; omega))
    refine xcal (σ := []) (nl := []) (cwithin (x.r) (1) (1073741824)) ?_
    rintro v h' ⟨rfl, rfl⟩ hcaps
    refine rH18zpA0 ?_
    repeat' (first | (fail_if_success (with_reducible refine xstp ?_)); first | ((with_reducible refine And.intro (fun (hb : _ = true) => ?_) (fun (hb : _ = false) => ?_)) <;> replace hb := xnC hb <;> (try first | exact xfC | exact bff hb (by assumption) | exact bff (by assumption) hb)) | ((fail_if_success (with_reducible first | refine xgon ?_ | intro _)); (conv => whnf); (fail_if_success (fail_if_success (with_reducible first | refine xstp ?_ | refine xgon ?_ | intro _)))))
    · refine FinK.mk ⟨[0], _, _, ⟨rfl, rfl⟩, ?_⟩; (repeat' first | refine And.intro ?_ ?_ | exact xeC | fail)
      all_goals (first | exact decide_eq_true (by unfold rngP; omega) | exact decide_eq_false (by unfold rngP; omega) | exact (decide_eq_true (by unfold rngP; omega)).symm | exact (decide_eq_false (by unfold rngP; omega)).symm | exact decide_eq_decide.2 (by unfold rngP; omega))
    · skip
      refine xcal (σ := []) (nl := []) (cwithin (x.q) (1) (1099511627776)) ?_
      rintro v h' ⟨rfl, rfl⟩ hcaps
      refine rH18zpA0 ?_
      repeat' (first | (fail_if_success (with_reducible refine xstp ?_)); first | ((with_reducible refine And.intro (fun (hb : _ = true) => ?_) (fun (hb : _ = false) => ?_)) <;> replace hb := xnC hb <;> (try first | exact xfC | exact bff hb (by assumption) | exact bff (by assumption) hb)) | ((fail_if_success (with_reducible first | refine xgon ?_ | intro _)); (conv => whnf); (fail_if_success (fail_if_success (with_reducible first | refine xstp ?_ | refine xgon ?_ | intro _)))))
      · refine FinK.mk ⟨[0], _, _, ⟨rfl, rfl⟩, ?_⟩; (repeat' first | refine And.intro ?_ ?_ | exact xeC | fail)
        all_goals (first | exact decide_eq_true (by unfold rngP; omega) | exact decide_eq_false (by unfold rngP; omega) | exact (decide_eq_true (by unfold rngP; omega)).symm | exact (decide_eq_false (by unfold rngP; omega)).symm | exact decide_eq_decide.2 (by unfold rngP; omega))
      refine xcal (σ := []) (nl := []) (cwithin (x.at') (0) (1099511627776)) ?_
      rintro v h' ⟨rfl, rfl⟩ hcaps
      refine rH18zpA0 ?_
      repeat' (first | (fail_if_success (with_reducible refine xstp ?_)); first | ((fail_if_success (with_reducible first | refine xgon ?_ | intro _)); (conv => whnf); (fail_if_success (fail_if_success (with_reducible first | refine xstp ?_ | refine xgon ?_ | intro _)))))
      refine FinK.mk ⟨[0], _, _, ⟨rfl, rfl⟩, ?_⟩; (repeat' first | refine And.intro ?_ ?_ | exact xeC | fail)
      all_goals (first | exact decide_eq_true (by unfold rngP; omega) | exact decide_eq_false (by unfold rngP; omega) | exact (decide_eq_true (by unfold rngP; omega)).symm | exact (decide_eq_false (by unfold rngP; omega)).symm | exact decide_eq_decide.2 (by unfold rngP; omega))
    · skip
      refine xcal (σ := []) (nl := []) (cwithin (x.f) (1) (1099511627776)) ?_
      rintro v h' ⟨rfl, rfl⟩ hcaps
      refine rH18zpA0 ?_
      repeat' (first | (fail_if_success (with_reducible refine xstp ?_)); first | ((with_reducible refine And.intro (fun (hb : _ = true) => ?_) (fun (hb : _ = false) => ?_)) <;> replace hb := xnC hb <;> (try first | exact xfC | exact bff hb (by assumption) | exact bff (by assumption) hb)) | ((fail_if_success (with_reducible first | refine xgon ?_ | intro _)); (conv => whnf); (fail_if_success (fail_if_success (with_reducible first | refine xstp ?_ | refine xgon ?_ | intro _)))))
      · refine FinK.mk ⟨[0], _, _, ⟨rfl, rfl⟩, ?_⟩; (repeat' first | refine And.intro ?_ ?_ | exact xeC | fail)
        all_goals (first | exact decide_eq_true (by unfold rngP; omega) | exact decide_eq_false (by unfold rngP; omega) | exact (decide_eq_true (by unfold rngP; omega)).symm | exact (decide_eq_false (by unfold rngP; omega)).symm | exact decide_eq_decide.2 (by unfold rngP; omega))
      refine xcal (σ := []) (nl := []) (cwithin (x.la) (0) (1099511627776)) ?_
      rintro v h' ⟨rfl, rfl⟩ hcaps
      refine rH18zpA0 ?_
      repeat' (first | (fail_if_success (with_reducible refine xstp ?_)); first | ((with_reducible refine And.intro (fun (hb : _ = true) => ?_) (fun (hb : _ = false) => ?_)) <;> replace hb := xnC hb <;> (try first | exact xfC | exact bff hb (by assumption) | exact bff (by assumption) hb)) | ((fail_if_success (with_reducible first | refine xgon ?_ | intro _)); (conv => whnf); (fail_if_success (fail_if_success (with_reducible first | refine xstp ?_ | refine xgon ?_ | intro _)))))
      · refine FinK.mk ⟨[0], _, _, ⟨rfl, rfl⟩, ?_⟩; (repeat' first | refine And.intro ?_ ?_ | exact xeC | fail)
        all_goals (first | exact decide_eq_true (by unfold rngP; omega) | exact decide_eq_false (by unfold rngP; omega) | exact (decide_eq_true (by unfold rngP; omega)).symm | exact (decide_eq_false (by unfold rngP; omega)).symm | exact decide_eq_decide.2 (by unfold rngP; omega))
      refine xcal (σ := []) (nl := []) (cwithin (x.at') (0) (1099511627776)) ?_
      rintro v h' ⟨rfl, rfl⟩ hcaps
      refine rH18zpA0 ?_
      repeat' (first | (fail_if_success (with_reducible refine xstp ?_)); first | ((fail_if_success (with_reducible first | refine xgon ?_ | intro _)); (conv => whnf); (fail_if_success (fail_if_success (with_reducible first | refine xstp ?_ | refine xgon ?_ | intro _)))))
      refine FinK.mk ⟨[0], _, _, ⟨rfl, rfl⟩, ?_⟩; (repeat' first | refine And.intro ?_ ?_ | exact xeC | fail)
      all_goals (first | exact decide_eq_true (by unfold rngP; omega) | exact decide_eq_false (by unfold rngP; omega) | exact (decide_eq_true (by unfold rngP; omega)).symm | exact (decide_eq_false (by unfold rngP; omega)).symm | exact decide_eq_decide.2 (by unfold rngP; omega))

/-- What a kind does not use is not zero. -/
def unuP (x : Pk) : Prop := ((x.k = 2 ∨ x.k = 3) ∧ x.q ≠ 0) ∨ ((x.k = 1 ∨ x.k = 5) ∧ (x.f ≠ 0 ∨ x.la ≠ 0)) ∨ (x.k ≠ 3 ∧ 0 < x.m.length) ∨ ((x.k = 2 ∨ x.k = 3 ∨ x.k = 4) ∧ x.p ≠ [])
instance (x : Pk) : Decidable (unuP x) := by unfold unuP; infer_instance
/-- A missing number is out of range, or not above the one before. -/
def badA (x : Pk) (i : Nat) : Prop := x.m.getD i default < x.f ∨ x.la < x.m.getD i default ∨ (0 < i ∧ x.m.getD i default ≤ x.m.getD (i - 1) default)
instance (x : Pk) (i : Nat) : Decidable (badA x i) := by unfold badA; infer_instance
def badP (x : Pk) : Prop := ∃ i, i < x.m.length ∧ badA x i
instance (x : Pk) : Decidable (badP x) := by unfold badP; infer_instance
def chk (x : Pk) : Nat := if ¬ rngP x then 4 else if 2000 < x.p.length ∨ 32 < x.m.length then 3 else if unuP x then 2 else if badP x then 2 else 0

set_option maxRecDepth 10000 in
theorem cCheck (x : Pk) (wa : Bool) (c : Nat) (hp : x.p.length ≤ 1000000) (hm : x.m.length ≤ 1000000) :
    Ctr Tryz.prog 43 [.a (encP (.sl 0 0 1 0 x.m.length c) x)] [.one (ints wa x.m c)] fun v h => v = .c (.i .i64 (chk x : Nat)) ∧ h = [.one (ints wa x.m c)] := by
  refine Ctr.mk' tbv mixed Tryz.func43 rfl rfl rfl (fun _ _ => by kernel_rfl) (by kernel_rfl) (by rfl) (by rfl) (by (repeat' first | refine And.intro ?_ ?_ | exact xeC | fail)) ?_
  repeat' (first | (fail_if_success (with_reducible refine xstp ?_)); first | (with_reducible intro hc; (try simp only [capsP, and_true] at hc); (try exact xfC)) | ((fail_if_success (with_reducible first | refine xgon ?_ | intro _)); (conv => whnf); (fail_if_success (fail_if_success (with_reducible first | refine xstp ?_ | refine xgon ?_ | intro _)))))
  refine xcal (σ := []) (nl := []) (cuses x.k) ?_
  rintro v h' ⟨rfl, rfl⟩ hcaps
  refine rH18zpA0 ?_
  repeat' (first | (fail_if_success (with_reducible refine xstp ?_)); first | ((with_reducible refine And.intro (fun (hb : _ = true) => ?_) (fun (hb : _ = false) => ?_)) <;> replace hb := xnC hb <;> (try first | exact xfC | exact bff hb (by assumption) | exact bff (by assumption) hb)) | ((fail_if_success (with_reducible first | refine xgon ?_ | intro _)); (conv => whnf); (fail_if_success (fail_if_success (with_reducible first | refine xstp ?_ | refine xgon ?_ | intro _)))))
  · have hr : ¬ rngP x := fun h => hb h.1
    rw [show chk x = 4 from if_pos hr]
    refine FinK.mk ⟨[0], _, _, ⟨rfl, rfl⟩, ?_⟩; (repeat' first | refine And.intro ?_ ?_ | exact xeC | fail)
  have hz : (mkS x.p).size = x.p.length := rfl
  refine xcal (σ := [.name 0]) (nl := []) (cinRange x x.m.length c hb) ?_
  rintro v h' ⟨rfl, rfl⟩ hcaps
  refine rH18zpA0 ?_
  repeat' (first | (fail_if_success (with_reducible refine xstp ?_)); first | ((with_reducible refine And.intro (fun (hb : _ = true) => ?_) (fun (hb : _ = false) => ?_)) <;> replace hb := xnC hb <;> (try first | exact xfC | exact bff hb (by assumption) | exact bff (by assumption) hb)) | ((fail_if_success (with_reducible first | refine xgon ?_ | intro _)); (conv => whnf); (fail_if_success (fail_if_success (with_reducible first | refine xstp ?_ | refine xgon ?_ | intro _)))))
  · rw [show chk x = 4 from if_pos hb]
    refine FinK.mk ⟨[0], _, _, ⟨rfl, rfl⟩, ?_⟩; (repeat' first | refine And.intro ?_ ?_ | exact xeC | fail)
  · have hr : rngP x := by assumption
    rw [show chk x = 3 by unfold chk; rw [if_neg (by simpa using hr), if_pos (by omega)]]
    refine FinK.mk ⟨[0], _, _, ⟨rfl, rfl⟩, ?_⟩; (repeat' first | refine And.intro ?_ ?_ | exact xeC | fail)
  · have hr : rngP x := by assumption
    rw [show chk x = 3 by unfold chk; rw [if_neg (by simpa using hr), if_pos (by omega)]]
    refine FinK.mk ⟨[0], _, _, ⟨rfl, rfl⟩, ?_⟩; (repeat' first | refine And.intro ?_ ?_ | exact xeC | fail)
  all_goals try (
    have hr : rngP x := by assumption
    have hun : unuP x := by
      unfold unuP
      first
        | omega
        | (have hpn : x.p ≠ [] := fun h => by simp_all [mkS]
           simp only [hpn, ne_eq, not_false_eq_true, and_true]
           omega)
    rw [show chk x = 2 by unfold chk; rw [if_neg (by simpa using hr), if_neg (by omega), if_pos hun]]
    refine FinK.mk ⟨[0], _, _, ⟨rfl, rfl⟩, ?_⟩; (repeat' first | refine And.intro ?_ ?_ | exact xeC | fail))
  · skip
    have hr : rngP x := by assumption
    have hp0 : x.p = [] ∨ (x.k = 1 ∨ x.k = 5) := by
      first
        | (right; assumption)
        | (left; exact mkS_inj.1 (by assumption))
    have hun : ¬ unuP x := by
      unfold unuP
      rcases hp0 with h | h
      · simp only [h, ne_eq, not_true_eq_false, and_false, or_false]
        omega
      · omega
    refine LoopK.mk' {i : Nat // i ≤ x.m.length ∧ ∀ j, j < i → ¬ badA x j}
      (fun ⟨i, _⟩ => ⟨[(1, .c (.p 1 0 0)), (73, .c (.sl 0 0 1 0 x.m.length c)), (74, .c (.i .i64 x.m.length)), (75, .c (.i .i64 (i : Nat)))], [.one (ints wa x.m c), .one (.cells true (encP (.sl 0 0 1 0 x.m.length c) x))]⟩) (fun k => x.m.length - k.1)
      ⟨⟨0, Nat.zero_le _, by intro j h; omega⟩, [0, 1], ?_⟩ ?_
    · (repeat' first | refine And.intro ?_ ?_ | exact xeC | fail)
    rintro ⟨i, hi, hno⟩
    repeat' (first | (fail_if_success (with_reducible refine xstp ?_)); first | ((with_reducible refine And.intro (fun (hb : _ = true) => ?_) (fun (hb : _ = false) => ?_)) <;> replace hb := xnC hb <;> (try first | exact xfC | exact bff hb (by assumption) | exact bff (by assumption) hb)) | (with_reducible intro hc; (try simp only [capsP, and_true] at hc); (try exact xfC)) | ((fail_if_success (with_reducible first | refine xgon ?_ | intro _)); (conv => whnf); (fail_if_success (fail_if_success (with_reducible first | refine xstp ?_ | refine xgon ?_ | intro _)))))
    all_goals try simp only [show ((i : Int) - 1).toNat = i - 1 by omega] at *
    all_goals first
      | (have hbad : badA x i := by unfold badA; omega
         have hil : i < x.m.length := by omega
         rw [show chk x = 2 by unfold chk; rw [if_neg (by simpa using hr), if_neg (by omega), if_neg hun, if_pos ⟨i, hil, hbad⟩]]
         refine FinK.mk ⟨[0], _, _, ⟨rfl, rfl⟩, ?_⟩; (repeat' first | refine And.intro ?_ ?_ | exact xeC | fail)
         done)
      | (have hil : i < x.m.length := by omega
         have hbad : ¬ badA x i := by unfold badA; omega
         refine ⟨⟨i + 1, by omega, fun j hj => by
           rcases (by omega : j < i ∨ j = i) with h | rfl
           · exact hno j h
           · exact hbad⟩, [0, 1], by simp only; omega, ?_⟩
         (repeat' first | refine And.intro ?_ ?_ | exact xeC | fail)
         done)
      | (have hil : i = x.m.length := by omega
         rw [show chk x = 0 by unfold chk; rw [if_neg (by simpa using hr), if_neg (by omega), if_neg hun, if_neg (fun ⟨j, h1, h2⟩ => hno j (by omega) h2)]]
         refine FinK.mk ⟨[0], _, _, ⟨rfl, rfl⟩, ?_⟩; (repeat' first | refine And.intro ?_ ?_ | exact xeC | fail)
         done)
  · skip
    have hr : rngP x := by assumption
    have hp0 : x.p = [] ∨ (x.k = 1 ∨ x.k = 5) := by
      first
        | (right; assumption)
        | (left; exact mkS_inj.1 (by assumption))
    have hun : ¬ unuP x := by
      unfold unuP
      rcases hp0 with h | h
      · simp only [h, ne_eq, not_true_eq_false, and_false, or_false]
        omega
      · omega
    refine LoopK.mk' {i : Nat // i ≤ x.m.length ∧ ∀ j, j < i → ¬ badA x j}
      (fun ⟨i, _⟩ => ⟨[(1, .c (.p 1 0 0)), (73, .c (.sl 0 0 1 0 x.m.length c)), (74, .c (.i .i64 x.m.length)), (75, .c (.i .i64 (i : Nat)))], [.one (ints wa x.m c), .one (.cells true (encP (.sl 0 0 1 0 x.m.length c) x))]⟩) (fun k => x.m.length - k.1)
      ⟨⟨0, Nat.zero_le _, by intro j h; omega⟩, [0, 1], ?_⟩ ?_
    · (repeat' first | refine And.intro ?_ ?_ | exact xeC | fail)
    rintro ⟨i, hi, hno⟩
    repeat' (first | (fail_if_success (with_reducible refine xstp ?_)); first | ((with_reducible refine And.intro (fun (hb : _ = true) => ?_) (fun (hb : _ = false) => ?_)) <;> replace hb := xnC hb <;> (try first | exact xfC | exact bff hb (by assumption) | exact bff (by assumption) hb)) | ((with_reducible refine And.intro ?_ ?_); focus exact xoC) | (with_reducible intro hc; (try simp only [capsP, and_true] at hc); (try exact xfC)) | ((fail_if_success (with_reducible first | refine xgon ?_ | intro _)); (conv => whnf); (fail_if_success (fail_if_success (with_reducible first | refine xstp ?_ | refine xgon ?_ | intro _)))))
    all_goals try simp only [show ((i : Int) - 1).toNat = i - 1 by omega] at *
    all_goals first
      | (have hbad : badA x i := by unfold badA; omega
         have hil : i < x.m.length := by omega
         rw [show chk x = 2 by unfold chk; rw [if_neg (by simpa using hr), if_neg (by omega), if_neg hun, if_pos ⟨i, hil, hbad⟩]]
         refine FinK.mk ⟨[0], _, _, ⟨rfl, rfl⟩, ?_⟩; (repeat' first | refine And.intro ?_ ?_ | exact xeC | fail)
         done)
      | (have hil : i < x.m.length := by omega
         have hbad : ¬ badA x i := by unfold badA; omega
         refine ⟨⟨i + 1, by omega, fun j hj => by
           rcases (by omega : j < i ∨ j = i) with h | rfl
           · exact hno j h
           · exact hbad⟩, [0, 1], by simp only; omega, ?_⟩
         (repeat' first | refine And.intro ?_ ?_ | exact xeC | fail)
         done)
      | (have hil : i = x.m.length := by omega
         rw [show chk x = 0 by unfold chk; rw [if_neg (by simpa using hr), if_neg (by omega), if_neg hun, if_neg (fun ⟨j, h1, h2⟩ => hno j (by omega) h2)]]
         refine FinK.mk ⟨[0], _, _, ⟨rfl, rfl⟩, ?_⟩; (repeat' first | refine And.intro ?_ ?_ | exact xeC | fail)
         done)
  · skip
    have hr : rngP x := by assumption
    have hp0 : x.p = [] ∨ (x.k = 1 ∨ x.k = 5) := by
      first
        | (right; assumption)
        | (left; exact mkS_inj.1 (by assumption))
    have hun : ¬ unuP x := by
      unfold unuP
      rcases hp0 with h | h
      · simp only [h, ne_eq, not_true_eq_false, and_false, or_false]
        omega
      · omega
    refine LoopK.mk' {i : Nat // i ≤ x.m.length ∧ ∀ j, j < i → ¬ badA x j}
      (fun ⟨i, _⟩ => ⟨[(1, .c (.p 1 0 0)), (73, .c (.sl 0 0 1 0 x.m.length c)), (74, .c (.i .i64 x.m.length)), (75, .c (.i .i64 (i : Nat)))], [.one (ints wa x.m c), .one (.cells true (encP (.sl 0 0 1 0 x.m.length c) x))]⟩) (fun k => x.m.length - k.1)
      ⟨⟨0, Nat.zero_le _, by intro j h; omega⟩, [0, 1], ?_⟩ ?_
    · (repeat' first | refine And.intro ?_ ?_ | exact xeC | fail)
    rintro ⟨i, hi, hno⟩
    repeat' (first | (fail_if_success (with_reducible refine xstp ?_)); first | ((with_reducible refine And.intro (fun (hb : _ = true) => ?_) (fun (hb : _ = false) => ?_)) <;> replace hb := xnC hb <;> (try first | exact xfC | exact bff hb (by assumption) | exact bff (by assumption) hb)) | (with_reducible intro hc; (try simp only [capsP, and_true] at hc); (try exact xfC)) | ((fail_if_success (with_reducible first | refine xgon ?_ | intro _)); (conv => whnf); (fail_if_success (fail_if_success (with_reducible first | refine xstp ?_ | refine xgon ?_ | intro _)))))
    all_goals try simp only [show ((i : Int) - 1).toNat = i - 1 by omega] at *
    all_goals first
      | (have hbad : badA x i := by unfold badA; omega
         have hil : i < x.m.length := by omega
         rw [show chk x = 2 by unfold chk; rw [if_neg (by simpa using hr), if_neg (by omega), if_neg hun, if_pos ⟨i, hil, hbad⟩]]
         refine FinK.mk ⟨[0], _, _, ⟨rfl, rfl⟩, ?_⟩; (repeat' first | refine And.intro ?_ ?_ | exact xeC | fail)
         done)
      | (have hil : i < x.m.length := by omega
         have hbad : ¬ badA x i := by unfold badA; omega
         refine ⟨⟨i + 1, by omega, fun j hj => by
           rcases (by omega : j < i ∨ j = i) with h | rfl
           · exact hno j h
           · exact hbad⟩, [0, 1], by simp only; omega, ?_⟩
         (repeat' first | refine And.intro ?_ ?_ | exact xeC | fail)
         done)
      | (have hil : i = x.m.length := by omega
         rw [show chk x = 0 by unfold chk; rw [if_neg (by simpa using hr), if_neg (by omega), if_neg hun, if_neg (fun ⟨j, h1, h2⟩ => hno j (by omega) h2)]]
         refine FinK.mk ⟨[0], _, _, ⟨rfl, rfl⟩, ?_⟩; (repeat' first | refine And.intro ?_ ?_ | exact xeC | fail)
         done)
  · skip
    have hr : rngP x := by assumption
    have hp0 : x.p = [] ∨ (x.k = 1 ∨ x.k = 5) := by
      first
        | (right; assumption)
        | (left; exact mkS_inj.1 (by assumption))
    have hun : ¬ unuP x := by
      unfold unuP
      rcases hp0 with h | h
      · simp only [h, ne_eq, not_true_eq_false, and_false, or_false]
        omega
      · omega
    refine LoopK.mk' {i : Nat // i ≤ x.m.length ∧ ∀ j, j < i → ¬ badA x j}
      (fun ⟨i, _⟩ => ⟨[(1, .c (.p 1 0 0)), (73, .c (.sl 0 0 1 0 x.m.length c)), (74, .c (.i .i64 x.m.length)), (75, .c (.i .i64 (i : Nat)))], [.one (ints wa x.m c), .one (.cells true (encP (.sl 0 0 1 0 x.m.length c) x))]⟩) (fun k => x.m.length - k.1)
      ⟨⟨0, Nat.zero_le _, by intro j h; omega⟩, [0, 1], ?_⟩ ?_
    · (repeat' first | refine And.intro ?_ ?_ | exact xeC | fail)
    rintro ⟨i, hi, hno⟩
    repeat' (first | (fail_if_success (with_reducible refine xstp ?_)); first | ((with_reducible refine And.intro (fun (hb : _ = true) => ?_) (fun (hb : _ = false) => ?_)) <;> replace hb := xnC hb <;> (try first | exact xfC | exact bff hb (by assumption) | exact bff (by assumption) hb)) | (with_reducible intro hc; (try simp only [capsP, and_true] at hc); (try exact xfC)) | ((fail_if_success (with_reducible first | refine xgon ?_ | intro _)); (conv => whnf); (fail_if_success (fail_if_success (with_reducible first | refine xstp ?_ | refine xgon ?_ | intro _)))))
    all_goals try simp only [show ((i : Int) - 1).toNat = i - 1 by omega] at *
    all_goals first
      | (have hbad : badA x i := by unfold badA; omega
         have hil : i < x.m.length := by omega
         rw [show chk x = 2 by unfold chk; rw [if_neg (by simpa using hr), if_neg (by omega), if_neg hun, if_pos ⟨i, hil, hbad⟩]]
         refine FinK.mk ⟨[0], _, _, ⟨rfl, rfl⟩, ?_⟩; (repeat' first | refine And.intro ?_ ?_ | exact xeC | fail)
         done)
      | (have hil : i < x.m.length := by omega
         have hbad : ¬ badA x i := by unfold badA; omega
         refine ⟨⟨i + 1, by omega, fun j hj => by
           rcases (by omega : j < i ∨ j = i) with h | rfl
           · exact hno j h
           · exact hbad⟩, [0, 1], by simp only; omega, ?_⟩
         (repeat' first | refine And.intro ?_ ?_ | exact xeC | fail)
         done)
      | (have hil : i = x.m.length := by omega
         rw [show chk x = 0 by unfold chk; rw [if_neg (by simpa using hr), if_neg (by omega), if_neg hun, if_neg (fun ⟨j, h1, h2⟩ => hno j (by omega) h2)]]
         refine FinK.mk ⟨[0], _, _, ⟨rfl, rfl⟩, ?_⟩; (repeat' first | refine And.intro ?_ ?_ | exact xeC | fail)
         done)
end Go.Proofs.YtofcadbfjbefkaaGreat


namespace Go.Proofs.YtofcadbfjbefkaaGreat
open Go.X
set_option linter.unusedSimpArgs false
set_option linter.unusedVariables false
def letL (k : Int) : List UInt8 := if k = 1 ∨ k = 5 then [119, 114, 115, 97, 112] else if k = 2 then [119, 114, 102, 108, 97] else if k = 3 then [119, 114, 102, 108, 97, 109] else if k = 4 then [119, 114, 115, 102, 108, 97] else []
theorem letL_len (k : Int) : (letL k).length ≤ 6 := by
  unfold letL; repeat' split
  all_goals decide
theorem emptyP (l : List UInt8) : (mkS l = { data := #[] }) = (l = []) := propext (show mkS l = mkS [] ↔ _ from mkS_inj)
theorem letE (k : Int) : (mkS (letL k) = { data := #[] }) = ¬ (1 ≤ k ∧ k ≤ 5) := by
  apply propext
  refine (show mkS (letL k) = mkS [] ↔ _ from mkS_inj.trans ?_)
  unfold letL; repeat' split
  all_goals (constructor <;> intro h <;> first | omega | rfl | cases h)
def hasB (l : List UInt8) (c : UInt8) : Bool := l.contains c
theorem hasW (k : Int) : hasB (letL k) 119 = decide (1 ≤ k ∧ k ≤ 5) := by
  unfold letL; repeat' split
  all_goals first | exact (decide_eq_true (by omega)).symm | exact (decide_eq_false (by omega)).symm
theorem hasR (k : Int) : hasB (letL k) 114 = decide (1 ≤ k ∧ k ≤ 5) := by
  unfold letL; repeat' split
  all_goals first | exact (decide_eq_true (by omega)).symm | exact (decide_eq_false (by omega)).symm
theorem hasS (k : Int) : hasB (letL k) 115 = decide (k = 1 ∨ k = 4 ∨ k = 5) := by
  unfold letL; repeat' split
  all_goals first | exact (decide_eq_true (by omega)).symm | exact (decide_eq_false (by omega)).symm
theorem hasF (k : Int) : hasB (letL k) 102 = decide (k = 2 ∨ k = 3 ∨ k = 4) := by
  unfold letL; repeat' split
  all_goals first | exact (decide_eq_true (by omega)).symm | exact (decide_eq_false (by omega)).symm
theorem hasL (k : Int) : hasB (letL k) 108 = decide (k = 2 ∨ k = 3 ∨ k = 4) := by
  unfold letL; repeat' split
  all_goals first | exact (decide_eq_true (by omega)).symm | exact (decide_eq_false (by omega)).symm
theorem hasA (k : Int) : hasB (letL k) 97 = decide (1 ≤ k ∧ k ≤ 5) := by
  unfold letL; repeat' split
  all_goals first | exact (decide_eq_true (by omega)).symm | exact (decide_eq_false (by omega)).symm
theorem hasM (k : Int) : hasB (letL k) 109 = decide (k = 3) := by
  unfold letL; repeat' split
  all_goals first | exact (decide_eq_true (by omega)).symm | exact (decide_eq_false (by omega)).symm
theorem hasP (k : Int) : hasB (letL k) 112 = decide (k = 1 ∨ k = 5) := by
  unfold letL; repeat' split
  all_goals first | exact (decide_eq_true (by omega)).symm | exact (decide_eq_false (by omega)).symm

set_option maxRecDepth 10000 in
theorem cletters (k : Int) :
    Ctr Tryz.prog 83 [.c (.i .i64 k)] [] fun v h => v = .c (.s (mkS (letL k))) ∧ h = [] := by
  by_cases hk : 1 ≤ k ∧ k ≤ 5
  · rcases (by omega : k = 1 ∨ k = 2 ∨ k = 3 ∨ k = 4 ∨ k = 5) with rfl | rfl | rfl | rfl | rfl
    all_goals (
      refine Ctr.mk' tbv mixed Tryz.func83 rfl rfl rfl (fun _ _ => by kernel_rfl) (by kernel_rfl) (by rfl) (by rfl) (by (repeat' first | refine And.intro ?_ ?_ | exact xeC | fail)) ?_
      repeat' (first | (fail_if_success (with_reducible refine xstp ?_)); first | ((with_reducible refine And.intro (fun (hb : _ = true) => ?_) (fun (hb : _ = false) => ?_)) <;> replace hb := xnC hb <;> (try first | exact xfC | exact bff hb (by assumption) | exact bff (by assumption) hb)) | ((with_reducible refine And.intro ?_ ?_); focus exact xoC) | (with_reducible intro hc; (try simp only [capsP, and_true] at hc); (try exact xfC)) | ((fail_if_success (with_reducible first | refine xgon ?_ | intro _)); (conv => whnf); (fail_if_success (fail_if_success (with_reducible first | refine xstp ?_ | refine xgon ?_ | intro _)))))
      refine FinK.mk ⟨[], _, _, ⟨rfl, rfl⟩, ?_⟩; (repeat' first | refine And.intro ?_ ?_ | exact xeC | fail))
  · refine Ctr.mk' tbv mixed Tryz.func83 rfl rfl rfl (fun _ _ => by kernel_rfl) (by kernel_rfl) (by rfl) (by rfl) (by (repeat' first | refine And.intro ?_ ?_ | exact xeC | fail)) ?_
    repeat' (first | (fail_if_success (with_reducible refine xstp ?_)); first | ((with_reducible refine And.intro (fun (hb : _ = true) => ?_) (fun (hb : _ = false) => ?_)) <;> replace hb := xnC hb <;> (try first | exact xfC | exact bff hb (by assumption) | exact bff (by assumption) hb)) | (with_reducible intro hc; (try simp only [capsP, and_true] at hc); (try exact xfC)) | ((fail_if_success (with_reducible first | refine xgon ?_ | intro _)); (conv => whnf); (fail_if_success (fail_if_success (with_reducible first | refine xstp ?_ | refine xgon ?_ | intro _)))))
    · refine FinK.mk ⟨[], _, _, ⟨rfl, rfl⟩, ?_⟩; (repeat' first | refine And.intro ?_ ?_ | exact xeC | fail)
      unfold letL; repeat' split
      all_goals first | rfl | omega
    · refine FinK.mk ⟨[], _, _, ⟨rfl, rfl⟩, ?_⟩; (repeat' first | refine And.intro ?_ ?_ | exact xeC | fail)
      unfold letL; repeat' split
      all_goals first | rfl | omega

set_option maxRecDepth 10000 in
theorem chas (l : List UInt8) (c : UInt8) (hl : l.length ≤ 6) :
    Ctr Tryz.prog 85 [.c (.s (mkS l)), .c (.i .u8 (c.toNat : Nat))] [] fun v h => v = .c (.b (hasB l c)) ∧ h = [] := by
  have hz : (mkS l).size = l.length := rfl
  refine Ctr.mk' tbv mixed Tryz.func85 rfl rfl rfl (fun _ _ => by kernel_rfl) (by kernel_rfl) (by rfl) (by rfl) (by (repeat' first | refine And.intro ?_ ?_ | exact xeC | fail)) ?_
  repeat' (first | (fail_if_success (with_reducible refine xstp ?_)); first | (with_reducible intro hc; (try simp only [capsP, and_true] at hc); (try exact xfC)) | ((fail_if_success (with_reducible first | refine xgon ?_ | intro _)); (conv => whnf); (fail_if_success (fail_if_success (with_reducible first | refine xstp ?_ | refine xgon ?_ | intro _)))))
  refine LoopK.mk' {i : Nat // i ≤ l.length ∧ c ∉ l.take i}
    (fun ⟨i, _⟩ => ⟨[(0, .c (.s (mkS l))), (1, .c (.i .u8 (c.toNat : Nat))), (5, .c (.i .i64 (i : Nat)))], []⟩) (fun k => l.length - k.1)
    ⟨⟨0, Nat.zero_le _, by simp⟩, [], ?_⟩ ?_
  · (repeat' first | refine And.intro ?_ ?_ | exact xeC | fail)
  rintro ⟨i, hi, hno⟩
  have hg : i < l.length → (mkS l).get! (i : Int).toNat = l[i]! := by
    intro h
    simp [ByteArray.get!, mkS, h]
  repeat' (first | (fail_if_success (with_reducible refine xstp ?_)); first | ((with_reducible refine And.intro (fun (hb : _ = true) => ?_) (fun (hb : _ = false) => ?_)) <;> replace hb := xnC hb <;> (try first | exact xfC | exact bff hb (by assumption) | exact bff (by assumption) hb)) | ((with_reducible refine And.intro ?_ ?_); focus exact xoC) | (with_reducible intro hc; (try simp only [capsP, and_true] at hc); (try exact xfC)) | ((fail_if_success (with_reducible first | refine xgon ?_ | intro _)); (conv => whnf); (fail_if_success (fail_if_success (with_reducible first | refine xstp ?_ | refine xgon ?_ | intro _)))))
  · rw [Int.toNat_natCast] at hg
    have h1 := hg (by omega)
    have e : l[i]! = c := by
      rw [← h1]
      apply UInt8.toNat.inj
      exact Int.ofNat_inj.1 hb
    rw [show hasB l c = true by
      unfold hasB
      rw [List.contains_iff_mem, ← e, getElem!_pos l i (by omega)]
      exact List.getElem_mem _]
    refine FinK.mk ⟨[], _, _, ⟨rfl, rfl⟩, ?_⟩; (repeat' first | refine And.intro ?_ ?_ | exact xeC | fail)
  · have h1 := hg (by omega)
    refine ⟨⟨i + 1, by omega, fun hm => ?_⟩, [], by simp only; omega, ?_⟩
    · rw [List.take_succ_eq_append_getElem (by omega), List.mem_append] at hm
      rcases hm with hm | hm
      · exact hno hm
      · refine hb ?_
        rw [List.mem_singleton.1 hm, ← getElem!_pos l i (by omega), ← h1]
        rfl
    · (repeat' first | refine And.intro ?_ ?_ | exact xeC | fail)
  · rw [show hasB l c = false by
      unfold hasB
      rw [List.take_of_length_le (by omega)] at hno
      simpa using hno]
    refine FinK.mk ⟨[], _, _, ⟨rfl, rfl⟩, ?_⟩; (repeat' first | refine And.intro ?_ ?_ | exact xeC | fail)

set_option maxRecDepth 10000 in
theorem cin (U : Prop) [Decidable U] (n lo hi : Int) :
    Ctr Tryz.prog 84 [.c (.b (decide U)), .c (.i .i64 n), .c (.i .i64 lo), .c (.i .i64 hi)] [] fun v h => v = .c (.b (decide (U → lo ≤ n ∧ n ≤ hi))) ∧ h = [] := by
  refine Ctr.mk' tbv mixed Tryz.func84 rfl rfl rfl (fun _ _ => by kernel_rfl) (by kernel_rfl) (by rfl) (by rfl) (by (repeat' first | refine And.intro ?_ ?_ | exact xeC | fail)) ?_
  repeat' (first | (fail_if_success (with_reducible refine xstp ?_)); first | ((with_reducible refine And.intro (fun (hb : _ = true) => ?_) (fun (hb : _ = false) => ?_)) <;> replace hb := xnC hb <;> (try first | exact xfC | exact bff hb (by assumption) | exact bff (by assumption) hb)) | (with_reducible intro hc; (try simp only [capsP, and_true] at hc); (try exact xfC)) | ((fail_if_success (with_reducible first | refine xgon ?_ | intro _)); (conv => whnf); (fail_if_success (fail_if_success (with_reducible first | refine xstp ?_ | refine xgon ?_ | intro _)))))
  · refine FinK.mk ⟨[], _, _, ⟨rfl, rfl⟩, ?_⟩; (repeat' first | refine And.intro ?_ ?_ | exact xeC | fail)
    exact decide_eq_true (fun h => absurd h hb)
  · refine FinK.mk ⟨[], _, _, ⟨rfl, rfl⟩, ?_⟩; (repeat' first | refine And.intro ?_ ?_ | exact xeC | fail)
    have hu : U := by assumption
    exact decide_eq_decide.2 ⟨fun h _ => ⟨by assumption, h⟩, fun h => (h hu).2⟩
  · refine FinK.mk ⟨[], _, _, ⟨rfl, rfl⟩, ?_⟩; (repeat' first | refine And.intro ?_ ?_ | exact xeC | fail)
    have hu : U := by assumption
    exact decide_eq_false (fun h => by have := h hu; omega)

theorem cinT (n lo hi : Int) :
    Ctr Tryz.prog 84 [.c (.b (decide True)), .c (.i .i64 n), .c (.i .i64 lo), .c (.i .i64 hi)] [] fun v h => v = .c (.b (decide (lo ≤ n ∧ n ≤ hi))) ∧ h = [] := by
  refine (cin True n lo hi).mono' ?_
  rintro v h ⟨rfl, rfl⟩
  simp

theorem rH18zpB0 {σ : List Sg} {H h' : List Fam} {v : T} {K : T → List Fam → Prop} {H' : List Fam} {v' : T} {N : Nat} (hk : K v' H') (hN : H.length = N := by (try simp only [↓List.length_cons, ↓List.length_nil, Nat.reduceAdd]) <;> rfl) (h : givesF σ N H σ h' = some H' := by (try simp (maxSteps := 1000000) only [givesF, setF, updF, Fam.zeroth, Fam.rk, Ck.rk, C.rk, E.rk, T.rk, key, List.map_cons, List.map_nil, List.cons_append, List.nil_append, List.length_cons, List.length_nil, Option.map_some, Option.bind_some, Nat.reduceAdd, Nat.zero_add, Nat.add_zero, Nat.add_sub_cancel_left, Int.toNat_natCast, reps, List.all_cons, List.all_nil, C.flat, List.append_eq, Bool.not_true, Bool.and_true, Bool.or_false, Bool.or_self, Bool.not_false, List.append_nil, Bool.and_self, encP]) <;> rfl) (hv : v.rk σ N = v' := by (try simp only [givesF, setF, updF, Fam.zeroth, Fam.rk, Ck.rk, C.rk, E.rk, T.rk, key, List.map_cons, List.map_nil, List.cons_append, List.nil_append, List.length_cons, List.length_nil, Option.map_some, Option.bind_some, Nat.reduceAdd, Nat.zero_add, Nat.add_zero, Nat.add_sub_cancel_left, Int.toNat_natCast, reps, List.all_cons, List.all_nil, C.flat, List.append_eq, Bool.not_true, Bool.and_true, Bool.or_false, Bool.or_self, Bool.not_false, List.append_nil, Bool.and_self, encP]) <;> rfl) : RetG σ H h' v K := ret_mk3 hN h hv hk
set_option maxRecDepth 10000 in
set_option maxHeartbeats 4000000 in
theorem cranges (x : Pk) (n c : Nat) :
    Ctr Tryz.prog 68 [.a (encP (.sl 0 0 1 0 n c) x)] [.one .no] fun v h => v = .c (.b (decide (rngP x))) ∧ h = [.one .no] := by
  refine Ctr.mk' tbv mixed Tryz.func68 rfl rfl rfl (fun _ _ => by kernel_rfl) (by kernel_rfl) (by rfl) (by rfl) (by (repeat' first | refine And.intro ?_ ?_ | exact xeC | fail)) ?_
  repeat' (first | (fail_if_success (with_reducible refine xstp ?_)); first | (with_reducible intro hc; (try simp only [capsP, and_true] at hc); (try exact xfC)) | ((fail_if_success (with_reducible first | refine xgon ?_ | intro _)); (conv => whnf); (fail_if_success (fail_if_success (with_reducible first | refine xstp ?_ | refine xgon ?_ | intro _)))))
  refine xcal (σ := []) (nl := []) (cletters x.k) ?_
  rintro v h' ⟨rfl, rfl⟩ hcaps
  refine rH18zpB0 ?_
  repeat' (first | (fail_if_success (with_reducible refine xstp ?_)); first | ((with_reducible refine And.intro (fun (hb : _ = true) => ?_) (fun (hb : _ = false) => ?_)) <;> replace hb := xnC hb <;> (try first | exact xfC | exact bff hb (by assumption) | exact bff (by assumption) hb)) | ((fail_if_success (with_reducible first | refine xgon ?_ | intro _)); (conv => whnf); (fail_if_success (fail_if_success (with_reducible first | refine xstp ?_ | refine xgon ?_ | intro _)))))
  all_goals rw [letE] at hb
  all_goals first
    | (refine FinK.mk ⟨[0], _, _, ⟨rfl, rfl⟩, ?_⟩; (repeat' first | refine And.intro ?_ ?_ | exact xeC | fail)
       all_goals (first | exact decide_eq_true (by unfold rngP; omega) | exact decide_eq_false (by unfold rngP; omega) | exact (decide_eq_true (by unfold rngP; omega)).symm | exact (decide_eq_false (by unfold rngP; omega)).symm | exact decide_eq_decide.2 (by unfold rngP; omega))
       done)
    | skip
  · skip
    refine xcal (σ := []) (nl := []) (cinT (x.fr) (0) (7)) ?_
    rintro v h' ⟨rfl, rfl⟩ hcaps
    refine rH18zpB0 ?_
    repeat' (first | (fail_if_success (with_reducible refine xstp ?_)); first | ((with_reducible refine And.intro (fun (hb : _ = true) => ?_) (fun (hb : _ = false) => ?_)) <;> replace hb := xnC hb <;> (try first | exact xfC | exact bff hb (by assumption) | exact bff (by assumption) hb)) | ((fail_if_success (with_reducible first | refine xgon ?_ | intro _)); (conv => whnf); (fail_if_success (fail_if_success (with_reducible first | refine xstp ?_ | refine xgon ?_ | intro _)))))
    all_goals first
      | (refine FinK.mk ⟨[0], _, _, ⟨rfl, rfl⟩, ?_⟩; (repeat' first | refine And.intro ?_ ?_ | exact xeC | fail)
         all_goals (first | exact decide_eq_true (by unfold rngP; omega) | exact decide_eq_false (by unfold rngP; omega) | exact (decide_eq_true (by unfold rngP; omega)).symm | exact (decide_eq_false (by unfold rngP; omega)).symm | exact decide_eq_decide.2 (by unfold rngP; omega))
         done)
      | skip
    refine xcal (σ := []) (nl := []) (cinT (x.to) (0) (7)) ?_
    rintro v h' ⟨rfl, rfl⟩ hcaps
    refine rH18zpB0 ?_
    repeat' (first | (fail_if_success (with_reducible refine xstp ?_)); first | ((with_reducible refine And.intro (fun (hb : _ = true) => ?_) (fun (hb : _ = false) => ?_)) <;> replace hb := xnC hb <;> (try first | exact xfC | exact bff hb (by assumption) | exact bff (by assumption) hb)) | ((fail_if_success (with_reducible first | refine xgon ?_ | intro _)); (conv => whnf); (fail_if_success (fail_if_success (with_reducible first | refine xstp ?_ | refine xgon ?_ | intro _)))))
    all_goals first
      | (refine FinK.mk ⟨[0], _, _, ⟨rfl, rfl⟩, ?_⟩; (repeat' first | refine And.intro ?_ ?_ | exact xeC | fail)
         all_goals (first | exact decide_eq_true (by unfold rngP; omega) | exact decide_eq_false (by unfold rngP; omega) | exact (decide_eq_true (by unfold rngP; omega)).symm | exact (decide_eq_false (by unfold rngP; omega)).symm | exact decide_eq_decide.2 (by unfold rngP; omega))
         done)
      | skip
    refine xcal (σ := []) (nl := []) (chas (letL x.k) 119 (letL_len x.k)) ?_
    rintro v h' ⟨rfl, rfl⟩ hcaps
    rw [hasW]
    refine rH18zpB0 ?_
    repeat' (first | (fail_if_success (with_reducible refine xstp ?_)); first | ((with_reducible refine And.intro ?_ ?_); focus exact xoC) | ((fail_if_success (with_reducible first | refine xgon ?_ | intro _)); (conv => whnf); (fail_if_success (fail_if_success (with_reducible first | refine xstp ?_ | refine xgon ?_ | intro _)))))
    refine xcal (σ := []) (nl := []) (cin (1 ≤ x.k ∧ x.k ≤ 5) (x.w) (1) (1073741824)) ?_
    rintro v h' ⟨rfl, rfl⟩ hcaps
    refine rH18zpB0 ?_
    repeat' (first | (fail_if_success (with_reducible refine xstp ?_)); first | ((with_reducible refine And.intro (fun (hb : _ = true) => ?_) (fun (hb : _ = false) => ?_)) <;> replace hb := xnC hb <;> (try first | exact xfC | exact bff hb (by assumption) | exact bff (by assumption) hb)) | ((fail_if_success (with_reducible first | refine xgon ?_ | intro _)); (conv => whnf); (fail_if_success (fail_if_success (with_reducible first | refine xstp ?_ | refine xgon ?_ | intro _)))))
    all_goals first
      | (refine FinK.mk ⟨[0], _, _, ⟨rfl, rfl⟩, ?_⟩; (repeat' first | refine And.intro ?_ ?_ | exact xeC | fail)
         all_goals (first | exact decide_eq_true (by unfold rngP; omega) | exact decide_eq_false (by unfold rngP; omega) | exact (decide_eq_true (by unfold rngP; omega)).symm | exact (decide_eq_false (by unfold rngP; omega)).symm | exact decide_eq_decide.2 (by unfold rngP; omega))
         done)
      | skip
    refine xcal (σ := []) (nl := []) (chas (letL x.k) 114 (letL_len x.k)) ?_
    rintro v h' ⟨rfl, rfl⟩ hcaps
    rw [hasR]
    refine rH18zpB0 ?_
    repeat' (first | (fail_if_success (with_reducible refine xstp ?_)); first | ((with_reducible refine And.intro ?_ ?_); focus exact xoC) | ((fail_if_success (with_reducible first | refine xgon ?_ | intro _)); (conv => whnf); (fail_if_success (fail_if_success (with_reducible first | refine xstp ?_ | refine xgon ?_ | intro _)))))
    refine xcal (σ := []) (nl := []) (cin (1 ≤ x.k ∧ x.k ≤ 5) (x.r) (1) (1073741824)) ?_
    rintro v h' ⟨rfl, rfl⟩ hcaps
    refine rH18zpB0 ?_
    repeat' (first | (fail_if_success (with_reducible refine xstp ?_)); first | ((with_reducible refine And.intro (fun (hb : _ = true) => ?_) (fun (hb : _ = false) => ?_)) <;> replace hb := xnC hb <;> (try first | exact xfC | exact bff hb (by assumption) | exact bff (by assumption) hb)) | ((fail_if_success (with_reducible first | refine xgon ?_ | intro _)); (conv => whnf); (fail_if_success (fail_if_success (with_reducible first | refine xstp ?_ | refine xgon ?_ | intro _)))))
    all_goals first
      | (refine FinK.mk ⟨[0], _, _, ⟨rfl, rfl⟩, ?_⟩; (repeat' first | refine And.intro ?_ ?_ | exact xeC | fail)
         all_goals (first | exact decide_eq_true (by unfold rngP; omega) | exact decide_eq_false (by unfold rngP; omega) | exact (decide_eq_true (by unfold rngP; omega)).symm | exact (decide_eq_false (by unfold rngP; omega)).symm | exact decide_eq_decide.2 (by unfold rngP; omega))
         done)
      | skip
    refine xcal (σ := []) (nl := []) (chas (letL x.k) 115 (letL_len x.k)) ?_
    rintro v h' ⟨rfl, rfl⟩ hcaps
    rw [hasS]
    refine rH18zpB0 ?_
    repeat' (first | (fail_if_success (with_reducible refine xstp ?_)); first | ((with_reducible refine And.intro ?_ ?_); focus exact xoC) | ((fail_if_success (with_reducible first | refine xgon ?_ | intro _)); (conv => whnf); (fail_if_success (fail_if_success (with_reducible first | refine xstp ?_ | refine xgon ?_ | intro _)))))
    refine xcal (σ := []) (nl := []) (cin (x.k = 1 ∨ x.k = 4 ∨ x.k = 5) (x.q) (0) (1)) ?_
    rintro v h' ⟨rfl, rfl⟩ hcaps
    refine rH18zpB0 ?_
    repeat' (first | (fail_if_success (with_reducible refine xstp ?_)); first | ((with_reducible refine And.intro (fun (hb : _ = true) => ?_) (fun (hb : _ = false) => ?_)) <;> replace hb := xnC hb <;> (try first | exact xfC | exact bff hb (by assumption) | exact bff (by assumption) hb)) | ((fail_if_success (with_reducible first | refine xgon ?_ | intro _)); (conv => whnf); (fail_if_success (fail_if_success (with_reducible first | refine xstp ?_ | refine xgon ?_ | intro _)))))
    all_goals first
      | (refine FinK.mk ⟨[0], _, _, ⟨rfl, rfl⟩, ?_⟩; (repeat' first | refine And.intro ?_ ?_ | exact xeC | fail)
         all_goals (first | exact decide_eq_true (by unfold rngP; omega) | exact decide_eq_false (by unfold rngP; omega) | exact (decide_eq_true (by unfold rngP; omega)).symm | exact (decide_eq_false (by unfold rngP; omega)).symm | exact decide_eq_decide.2 (by unfold rngP; omega))
         done)
      | skip
    refine xcal (σ := []) (nl := []) (chas (letL x.k) 102 (letL_len x.k)) ?_
    rintro v h' ⟨rfl, rfl⟩ hcaps
    rw [hasF]
    refine rH18zpB0 ?_
    repeat' (first | (fail_if_success (with_reducible refine xstp ?_)); first | ((with_reducible refine And.intro ?_ ?_); focus exact xoC) | ((fail_if_success (with_reducible first | refine xgon ?_ | intro _)); (conv => whnf); (fail_if_success (fail_if_success (with_reducible first | refine xstp ?_ | refine xgon ?_ | intro _)))))
    refine xcal (σ := []) (nl := []) (cin (x.k = 2 ∨ x.k = 3 ∨ x.k = 4) (x.f) (1) (1099511627776)) ?_
    rintro v h' ⟨rfl, rfl⟩ hcaps
    refine rH18zpB0 ?_
    repeat' (first | (fail_if_success (with_reducible refine xstp ?_)); first | ((with_reducible refine And.intro (fun (hb : _ = true) => ?_) (fun (hb : _ = false) => ?_)) <;> replace hb := xnC hb <;> (try first | exact xfC | exact bff hb (by assumption) | exact bff (by assumption) hb)) | ((fail_if_success (with_reducible first | refine xgon ?_ | intro _)); (conv => whnf); (fail_if_success (fail_if_success (with_reducible first | refine xstp ?_ | refine xgon ?_ | intro _)))))
    all_goals first
      | (refine FinK.mk ⟨[0], _, _, ⟨rfl, rfl⟩, ?_⟩; (repeat' first | refine And.intro ?_ ?_ | exact xeC | fail)
         all_goals (first | exact decide_eq_true (by unfold rngP; omega) | exact decide_eq_false (by unfold rngP; omega) | exact (decide_eq_true (by unfold rngP; omega)).symm | exact (decide_eq_false (by unfold rngP; omega)).symm | exact decide_eq_decide.2 (by unfold rngP; omega))
         done)
      | skip
    refine xcal (σ := []) (nl := []) (chas (letL x.k) 108 (letL_len x.k)) ?_
    rintro v h' ⟨rfl, rfl⟩ hcaps
    rw [hasL]
    refine rH18zpB0 ?_
    repeat' (first | (fail_if_success (with_reducible refine xstp ?_)); first | ((with_reducible refine And.intro ?_ ?_); focus exact xoC) | ((fail_if_success (with_reducible first | refine xgon ?_ | intro _)); (conv => whnf); (fail_if_success (fail_if_success (with_reducible first | refine xstp ?_ | refine xgon ?_ | intro _)))))
    refine xcal (σ := []) (nl := []) (cin (x.k = 2 ∨ x.k = 3 ∨ x.k = 4) (x.la) (0) (1099511627776)) ?_
    rintro v h' ⟨rfl, rfl⟩ hcaps
    refine rH18zpB0 ?_
    repeat' (first | (fail_if_success (with_reducible refine xstp ?_)); first | ((with_reducible refine And.intro (fun (hb : _ = true) => ?_) (fun (hb : _ = false) => ?_)) <;> replace hb := xnC hb <;> (try first | exact xfC | exact bff hb (by assumption) | exact bff (by assumption) hb)) | ((fail_if_success (with_reducible first | refine xgon ?_ | intro _)); (conv => whnf); (fail_if_success (fail_if_success (with_reducible first | refine xstp ?_ | refine xgon ?_ | intro _)))))
    all_goals first
      | (refine FinK.mk ⟨[0], _, _, ⟨rfl, rfl⟩, ?_⟩; (repeat' first | refine And.intro ?_ ?_ | exact xeC | fail)
         all_goals (first | exact decide_eq_true (by unfold rngP; omega) | exact decide_eq_false (by unfold rngP; omega) | exact (decide_eq_true (by unfold rngP; omega)).symm | exact (decide_eq_false (by unfold rngP; omega)).symm | exact decide_eq_decide.2 (by unfold rngP; omega))
         done)
      | skip
    refine xcal (σ := []) (nl := []) (chas (letL x.k) 97 (letL_len x.k)) ?_
    rintro v h' ⟨rfl, rfl⟩ hcaps
    rw [hasA]
    refine rH18zpB0 ?_
    repeat' (first | (fail_if_success (with_reducible refine xstp ?_)); first | ((with_reducible refine And.intro ?_ ?_); focus exact xoC) | ((fail_if_success (with_reducible first | refine xgon ?_ | intro _)); (conv => whnf); (fail_if_success (fail_if_success (with_reducible first | refine xstp ?_ | refine xgon ?_ | intro _)))))
    refine xcal (σ := []) (nl := []) (cin (1 ≤ x.k ∧ x.k ≤ 5) (x.at') (0) (1099511627776)) ?_
    rintro v h' ⟨rfl, rfl⟩ hcaps
    refine rH18zpB0 ?_
    repeat' (first | (fail_if_success (with_reducible refine xstp ?_)); first | ((fail_if_success (with_reducible first | refine xgon ?_ | intro _)); (conv => whnf); (fail_if_success (fail_if_success (with_reducible first | refine xstp ?_ | refine xgon ?_ | intro _)))))
    refine FinK.mk ⟨[0], _, _, ⟨rfl, rfl⟩, ?_⟩; (repeat' first | refine And.intro ?_ ?_ | exact xeC | fail)
    all_goals (first | exact decide_eq_true (by unfold rngP; omega) | exact decide_eq_false (by unfold rngP; omega) | exact (decide_eq_true (by unfold rngP; omega)).symm | exact (decide_eq_false (by unfold rngP; omega)).symm | exact decide_eq_decide.2 (by unfold rngP; omega))
  · skip
    refine xcal (σ := []) (nl := []) (cinT (x.fr) (0) (7)) ?_
    rintro v h' ⟨rfl, rfl⟩ hcaps
    refine rH18zpB0 ?_
    repeat' (first | (fail_if_success (with_reducible refine xstp ?_)); first | ((with_reducible refine And.intro (fun (hb : _ = true) => ?_) (fun (hb : _ = false) => ?_)) <;> replace hb := xnC hb <;> (try first | exact xfC | exact bff hb (by assumption) | exact bff (by assumption) hb)) | ((fail_if_success (with_reducible first | refine xgon ?_ | intro _)); (conv => whnf); (fail_if_success (fail_if_success (with_reducible first | refine xstp ?_ | refine xgon ?_ | intro _)))))
    all_goals first
      | (refine FinK.mk ⟨[0], _, _, ⟨rfl, rfl⟩, ?_⟩; (repeat' first | refine And.intro ?_ ?_ | exact xeC | fail)
         all_goals (first | exact decide_eq_true (by unfold rngP; omega) | exact decide_eq_false (by unfold rngP; omega) | exact (decide_eq_true (by unfold rngP; omega)).symm | exact (decide_eq_false (by unfold rngP; omega)).symm | exact decide_eq_decide.2 (by unfold rngP; omega))
         done)
      | skip
    refine xcal (σ := []) (nl := []) (cinT (x.to) (0) (7)) ?_
    rintro v h' ⟨rfl, rfl⟩ hcaps
    refine rH18zpB0 ?_
    repeat' (first | (fail_if_success (with_reducible refine xstp ?_)); first | ((with_reducible refine And.intro (fun (hb : _ = true) => ?_) (fun (hb : _ = false) => ?_)) <;> replace hb := xnC hb <;> (try first | exact xfC | exact bff hb (by assumption) | exact bff (by assumption) hb)) | ((fail_if_success (with_reducible first | refine xgon ?_ | intro _)); (conv => whnf); (fail_if_success (fail_if_success (with_reducible first | refine xstp ?_ | refine xgon ?_ | intro _)))))
    all_goals first
      | (refine FinK.mk ⟨[0], _, _, ⟨rfl, rfl⟩, ?_⟩; (repeat' first | refine And.intro ?_ ?_ | exact xeC | fail)
         all_goals (first | exact decide_eq_true (by unfold rngP; omega) | exact decide_eq_false (by unfold rngP; omega) | exact (decide_eq_true (by unfold rngP; omega)).symm | exact (decide_eq_false (by unfold rngP; omega)).symm | exact decide_eq_decide.2 (by unfold rngP; omega))
         done)
      | skip
    refine xcal (σ := []) (nl := []) (chas (letL x.k) 119 (letL_len x.k)) ?_
    rintro v h' ⟨rfl, rfl⟩ hcaps
    rw [hasW]
    refine rH18zpB0 ?_
    repeat' (first | (fail_if_success (with_reducible refine xstp ?_)); first | ((with_reducible refine And.intro ?_ ?_); focus exact xoC) | ((fail_if_success (with_reducible first | refine xgon ?_ | intro _)); (conv => whnf); (fail_if_success (fail_if_success (with_reducible first | refine xstp ?_ | refine xgon ?_ | intro _)))))
    refine xcal (σ := []) (nl := []) (cin (1 ≤ x.k ∧ x.k ≤ 5) (x.w) (0) (1073741824)) ?_
    rintro v h' ⟨rfl, rfl⟩ hcaps
    refine rH18zpB0 ?_
    repeat' (first | (fail_if_success (with_reducible refine xstp ?_)); first | ((with_reducible refine And.intro (fun (hb : _ = true) => ?_) (fun (hb : _ = false) => ?_)) <;> replace hb := xnC hb <;> (try first | exact xfC | exact bff hb (by assumption) | exact bff (by assumption) hb)) | ((fail_if_success (with_reducible first | refine xgon ?_ | intro _)); (conv => whnf); (fail_if_success (fail_if_success (with_reducible first | refine xstp ?_ | refine xgon ?_ | intro _)))))
    all_goals first
      | (refine FinK.mk ⟨[0], _, _, ⟨rfl, rfl⟩, ?_⟩; (repeat' first | refine And.intro ?_ ?_ | exact xeC | fail)
         all_goals (first | exact decide_eq_true (by unfold rngP; omega) | exact decide_eq_false (by unfold rngP; omega) | exact (decide_eq_true (by unfold rngP; omega)).symm | exact (decide_eq_false (by unfold rngP; omega)).symm | exact decide_eq_decide.2 (by unfold rngP; omega))
         done)
      | skip
    refine xcal (σ := []) (nl := []) (chas (letL x.k) 114 (letL_len x.k)) ?_
    rintro v h' ⟨rfl, rfl⟩ hcaps
    rw [hasR]
    refine rH18zpB0 ?_
    repeat' (first | (fail_if_success (with_reducible refine xstp ?_)); first | ((with_reducible refine And.intro ?_ ?_); focus exact xoC) | ((fail_if_success (with_reducible first | refine xgon ?_ | intro _)); (conv => whnf); (fail_if_success (fail_if_success (with_reducible first | refine xstp ?_ | refine xgon ?_ | intro _)))))
    refine xcal (σ := []) (nl := []) (cin (1 ≤ x.k ∧ x.k ≤ 5) (x.r) (0) (1073741824)) ?_
    rintro v h' ⟨rfl, rfl⟩ hcaps
    refine rH18zpB0 ?_
    repeat' (first | (fail_if_success (with_reducible refine xstp ?_)); first | ((with_reducible refine And.intro (fun (hb : _ = true) => ?_) (fun (hb : _ = false) => ?_)) <;> replace hb := xnC hb <;> (try first | exact xfC | exact bff hb (by assumption) | exact bff (by assumption) hb)) | ((fail_if_success (with_reducible first | refine xgon ?_ | intro _)); (conv => whnf); (fail_if_success (fail_if_success (with_reducible first | refine xstp ?_ | refine xgon ?_ | intro _)))))
    all_goals first
      | (refine FinK.mk ⟨[0], _, _, ⟨rfl, rfl⟩, ?_⟩; (repeat' first | refine And.intro ?_ ?_ | exact xeC | fail)
         all_goals (first | exact decide_eq_true (by unfold rngP; omega) | exact decide_eq_false (by unfold rngP; omega) | exact (decide_eq_true (by unfold rngP; omega)).symm | exact (decide_eq_false (by unfold rngP; omega)).symm | exact decide_eq_decide.2 (by unfold rngP; omega))
         done)
      | skip
    refine xcal (σ := []) (nl := []) (chas (letL x.k) 115 (letL_len x.k)) ?_
    rintro v h' ⟨rfl, rfl⟩ hcaps
    rw [hasS]
    refine rH18zpB0 ?_
    repeat' (first | (fail_if_success (with_reducible refine xstp ?_)); first | ((with_reducible refine And.intro ?_ ?_); focus exact xoC) | ((fail_if_success (with_reducible first | refine xgon ?_ | intro _)); (conv => whnf); (fail_if_success (fail_if_success (with_reducible first | refine xstp ?_ | refine xgon ?_ | intro _)))))
    refine xcal (σ := []) (nl := []) (cin (x.k = 1 ∨ x.k = 4 ∨ x.k = 5) (x.q) (0) (1099511627776)) ?_
    rintro v h' ⟨rfl, rfl⟩ hcaps
    refine rH18zpB0 ?_
    repeat' (first | (fail_if_success (with_reducible refine xstp ?_)); first | ((with_reducible refine And.intro (fun (hb : _ = true) => ?_) (fun (hb : _ = false) => ?_)) <;> replace hb := xnC hb <;> (try first | exact xfC | exact bff hb (by assumption) | exact bff (by assumption) hb)) | ((fail_if_success (with_reducible first | refine xgon ?_ | intro _)); (conv => whnf); (fail_if_success (fail_if_success (with_reducible first | refine xstp ?_ | refine xgon ?_ | intro _)))))
    all_goals first
      | (refine FinK.mk ⟨[0], _, _, ⟨rfl, rfl⟩, ?_⟩; (repeat' first | refine And.intro ?_ ?_ | exact xeC | fail)
         all_goals (first | exact decide_eq_true (by unfold rngP; omega) | exact decide_eq_false (by unfold rngP; omega) | exact (decide_eq_true (by unfold rngP; omega)).symm | exact (decide_eq_false (by unfold rngP; omega)).symm | exact decide_eq_decide.2 (by unfold rngP; omega))
         done)
      | skip
    refine xcal (σ := []) (nl := []) (chas (letL x.k) 102 (letL_len x.k)) ?_
    rintro v h' ⟨rfl, rfl⟩ hcaps
    rw [hasF]
    refine rH18zpB0 ?_
    repeat' (first | (fail_if_success (with_reducible refine xstp ?_)); first | ((with_reducible refine And.intro ?_ ?_); focus exact xoC) | ((fail_if_success (with_reducible first | refine xgon ?_ | intro _)); (conv => whnf); (fail_if_success (fail_if_success (with_reducible first | refine xstp ?_ | refine xgon ?_ | intro _)))))
    refine xcal (σ := []) (nl := []) (cin (x.k = 2 ∨ x.k = 3 ∨ x.k = 4) (x.f) (1) (1099511627776)) ?_
    rintro v h' ⟨rfl, rfl⟩ hcaps
    refine rH18zpB0 ?_
    repeat' (first | (fail_if_success (with_reducible refine xstp ?_)); first | ((with_reducible refine And.intro (fun (hb : _ = true) => ?_) (fun (hb : _ = false) => ?_)) <;> replace hb := xnC hb <;> (try first | exact xfC | exact bff hb (by assumption) | exact bff (by assumption) hb)) | ((fail_if_success (with_reducible first | refine xgon ?_ | intro _)); (conv => whnf); (fail_if_success (fail_if_success (with_reducible first | refine xstp ?_ | refine xgon ?_ | intro _)))))
    all_goals first
      | (refine FinK.mk ⟨[0], _, _, ⟨rfl, rfl⟩, ?_⟩; (repeat' first | refine And.intro ?_ ?_ | exact xeC | fail)
         all_goals (first | exact decide_eq_true (by unfold rngP; omega) | exact decide_eq_false (by unfold rngP; omega) | exact (decide_eq_true (by unfold rngP; omega)).symm | exact (decide_eq_false (by unfold rngP; omega)).symm | exact decide_eq_decide.2 (by unfold rngP; omega))
         done)
      | skip
    refine xcal (σ := []) (nl := []) (chas (letL x.k) 108 (letL_len x.k)) ?_
    rintro v h' ⟨rfl, rfl⟩ hcaps
    rw [hasL]
    refine rH18zpB0 ?_
    repeat' (first | (fail_if_success (with_reducible refine xstp ?_)); first | ((with_reducible refine And.intro ?_ ?_); focus exact xoC) | ((fail_if_success (with_reducible first | refine xgon ?_ | intro _)); (conv => whnf); (fail_if_success (fail_if_success (with_reducible first | refine xstp ?_ | refine xgon ?_ | intro _)))))
    refine xcal (σ := []) (nl := []) (cin (x.k = 2 ∨ x.k = 3 ∨ x.k = 4) (x.la) (0) (1099511627776)) ?_
    rintro v h' ⟨rfl, rfl⟩ hcaps
    refine rH18zpB0 ?_
    repeat' (first | (fail_if_success (with_reducible refine xstp ?_)); first | ((with_reducible refine And.intro (fun (hb : _ = true) => ?_) (fun (hb : _ = false) => ?_)) <;> replace hb := xnC hb <;> (try first | exact xfC | exact bff hb (by assumption) | exact bff (by assumption) hb)) | ((fail_if_success (with_reducible first | refine xgon ?_ | intro _)); (conv => whnf); (fail_if_success (fail_if_success (with_reducible first | refine xstp ?_ | refine xgon ?_ | intro _)))))
    all_goals first
      | (refine FinK.mk ⟨[0], _, _, ⟨rfl, rfl⟩, ?_⟩; (repeat' first | refine And.intro ?_ ?_ | exact xeC | fail)
         all_goals (first | exact decide_eq_true (by unfold rngP; omega) | exact decide_eq_false (by unfold rngP; omega) | exact (decide_eq_true (by unfold rngP; omega)).symm | exact (decide_eq_false (by unfold rngP; omega)).symm | exact decide_eq_decide.2 (by unfold rngP; omega))
         done)
      | skip
    refine xcal (σ := []) (nl := []) (chas (letL x.k) 97 (letL_len x.k)) ?_
    rintro v h' ⟨rfl, rfl⟩ hcaps
    rw [hasA]
    refine rH18zpB0 ?_
    repeat' (first | (fail_if_success (with_reducible refine xstp ?_)); first | ((with_reducible refine And.intro ?_ ?_); focus exact xoC) | ((fail_if_success (with_reducible first | refine xgon ?_ | intro _)); (conv => whnf); (fail_if_success (fail_if_success (with_reducible first | refine xstp ?_ | refine xgon ?_ | intro _)))))
    refine xcal (σ := []) (nl := []) (cin (1 ≤ x.k ∧ x.k ≤ 5) (x.at') (0) (1099511627776)) ?_
    rintro v h' ⟨rfl, rfl⟩ hcaps
    refine rH18zpB0 ?_
    repeat' (first | (fail_if_success (with_reducible refine xstp ?_)); first | ((fail_if_success (with_reducible first | refine xgon ?_ | intro _)); (conv => whnf); (fail_if_success (fail_if_success (with_reducible first | refine xstp ?_ | refine xgon ?_ | intro _)))))
    refine FinK.mk ⟨[0], _, _, ⟨rfl, rfl⟩, ?_⟩; (repeat' first | refine And.intro ?_ ?_ | exact xeC | fail)
    all_goals (first | exact decide_eq_true (by unfold rngP; omega) | exact decide_eq_false (by unfold rngP; omega) | exact (decide_eq_true (by unfold rngP; omega)).symm | exact (decide_eq_false (by unfold rngP; omega)).symm | exact decide_eq_decide.2 (by unfold rngP; omega))
  · skip
    refine xcal (σ := []) (nl := []) (cinT (x.fr) (0) (7)) ?_
    rintro v h' ⟨rfl, rfl⟩ hcaps
    refine rH18zpB0 ?_
    repeat' (first | (fail_if_success (with_reducible refine xstp ?_)); first | ((with_reducible refine And.intro (fun (hb : _ = true) => ?_) (fun (hb : _ = false) => ?_)) <;> replace hb := xnC hb <;> (try first | exact xfC | exact bff hb (by assumption) | exact bff (by assumption) hb)) | ((fail_if_success (with_reducible first | refine xgon ?_ | intro _)); (conv => whnf); (fail_if_success (fail_if_success (with_reducible first | refine xstp ?_ | refine xgon ?_ | intro _)))))
    all_goals first
      | (refine FinK.mk ⟨[0], _, _, ⟨rfl, rfl⟩, ?_⟩; (repeat' first | refine And.intro ?_ ?_ | exact xeC | fail)
         all_goals (first | exact decide_eq_true (by unfold rngP; omega) | exact decide_eq_false (by unfold rngP; omega) | exact (decide_eq_true (by unfold rngP; omega)).symm | exact (decide_eq_false (by unfold rngP; omega)).symm | exact decide_eq_decide.2 (by unfold rngP; omega))
         done)
      | skip
    refine xcal (σ := []) (nl := []) (cinT (x.to) (0) (7)) ?_
    rintro v h' ⟨rfl, rfl⟩ hcaps
    refine rH18zpB0 ?_
    repeat' (first | (fail_if_success (with_reducible refine xstp ?_)); first | ((with_reducible refine And.intro (fun (hb : _ = true) => ?_) (fun (hb : _ = false) => ?_)) <;> replace hb := xnC hb <;> (try first | exact xfC | exact bff hb (by assumption) | exact bff (by assumption) hb)) | ((fail_if_success (with_reducible first | refine xgon ?_ | intro _)); (conv => whnf); (fail_if_success (fail_if_success (with_reducible first | refine xstp ?_ | refine xgon ?_ | intro _)))))
    all_goals first
      | (refine FinK.mk ⟨[0], _, _, ⟨rfl, rfl⟩, ?_⟩; (repeat' first | refine And.intro ?_ ?_ | exact xeC | fail)
         all_goals (first | exact decide_eq_true (by unfold rngP; omega) | exact decide_eq_false (by unfold rngP; omega) | exact (decide_eq_true (by unfold rngP; omega)).symm | exact (decide_eq_false (by unfold rngP; omega)).symm | exact decide_eq_decide.2 (by unfold rngP; omega))
         done)
      | skip
    refine xcal (σ := []) (nl := []) (chas (letL x.k) 119 (letL_len x.k)) ?_
    rintro v h' ⟨rfl, rfl⟩ hcaps
    rw [hasW]
    refine rH18zpB0 ?_
    repeat' (first | (fail_if_success (with_reducible refine xstp ?_)); first | ((with_reducible refine And.intro ?_ ?_); focus exact xoC) | ((fail_if_success (with_reducible first | refine xgon ?_ | intro _)); (conv => whnf); (fail_if_success (fail_if_success (with_reducible first | refine xstp ?_ | refine xgon ?_ | intro _)))))
    refine xcal (σ := []) (nl := []) (cin (1 ≤ x.k ∧ x.k ≤ 5) (x.w) (1) (1073741824)) ?_
    rintro v h' ⟨rfl, rfl⟩ hcaps
    refine rH18zpB0 ?_
    repeat' (first | (fail_if_success (with_reducible refine xstp ?_)); first | ((with_reducible refine And.intro (fun (hb : _ = true) => ?_) (fun (hb : _ = false) => ?_)) <;> replace hb := xnC hb <;> (try first | exact xfC | exact bff hb (by assumption) | exact bff (by assumption) hb)) | ((fail_if_success (with_reducible first | refine xgon ?_ | intro _)); (conv => whnf); (fail_if_success (fail_if_success (with_reducible first | refine xstp ?_ | refine xgon ?_ | intro _)))))
    all_goals first
      | (refine FinK.mk ⟨[0], _, _, ⟨rfl, rfl⟩, ?_⟩; (repeat' first | refine And.intro ?_ ?_ | exact xeC | fail)
         all_goals (first | exact decide_eq_true (by unfold rngP; omega) | exact decide_eq_false (by unfold rngP; omega) | exact (decide_eq_true (by unfold rngP; omega)).symm | exact (decide_eq_false (by unfold rngP; omega)).symm | exact decide_eq_decide.2 (by unfold rngP; omega))
         done)
      | skip
    refine xcal (σ := []) (nl := []) (chas (letL x.k) 114 (letL_len x.k)) ?_
    rintro v h' ⟨rfl, rfl⟩ hcaps
    rw [hasR]
    refine rH18zpB0 ?_
    repeat' (first | (fail_if_success (with_reducible refine xstp ?_)); first | ((with_reducible refine And.intro ?_ ?_); focus exact xoC) | ((fail_if_success (with_reducible first | refine xgon ?_ | intro _)); (conv => whnf); (fail_if_success (fail_if_success (with_reducible first | refine xstp ?_ | refine xgon ?_ | intro _)))))
    refine xcal (σ := []) (nl := []) (cin (1 ≤ x.k ∧ x.k ≤ 5) (x.r) (1) (1073741824)) ?_
    rintro v h' ⟨rfl, rfl⟩ hcaps
    refine rH18zpB0 ?_
    repeat' (first | (fail_if_success (with_reducible refine xstp ?_)); first | ((with_reducible refine And.intro (fun (hb : _ = true) => ?_) (fun (hb : _ = false) => ?_)) <;> replace hb := xnC hb <;> (try first | exact xfC | exact bff hb (by assumption) | exact bff (by assumption) hb)) | ((fail_if_success (with_reducible first | refine xgon ?_ | intro _)); (conv => whnf); (fail_if_success (fail_if_success (with_reducible first | refine xstp ?_ | refine xgon ?_ | intro _)))))
    all_goals first
      | (refine FinK.mk ⟨[0], _, _, ⟨rfl, rfl⟩, ?_⟩; (repeat' first | refine And.intro ?_ ?_ | exact xeC | fail)
         all_goals (first | exact decide_eq_true (by unfold rngP; omega) | exact decide_eq_false (by unfold rngP; omega) | exact (decide_eq_true (by unfold rngP; omega)).symm | exact (decide_eq_false (by unfold rngP; omega)).symm | exact decide_eq_decide.2 (by unfold rngP; omega))
         done)
      | skip
    refine xcal (σ := []) (nl := []) (chas (letL x.k) 115 (letL_len x.k)) ?_
    rintro v h' ⟨rfl, rfl⟩ hcaps
    rw [hasS]
    refine rH18zpB0 ?_
    repeat' (first | (fail_if_success (with_reducible refine xstp ?_)); first | ((with_reducible refine And.intro ?_ ?_); focus exact xoC) | ((fail_if_success (with_reducible first | refine xgon ?_ | intro _)); (conv => whnf); (fail_if_success (fail_if_success (with_reducible first | refine xstp ?_ | refine xgon ?_ | intro _)))))
    refine xcal (σ := []) (nl := []) (cin (x.k = 1 ∨ x.k = 4 ∨ x.k = 5) (x.q) (1) (1099511627776)) ?_
    rintro v h' ⟨rfl, rfl⟩ hcaps
    refine rH18zpB0 ?_
    repeat' (first | (fail_if_success (with_reducible refine xstp ?_)); first | ((with_reducible refine And.intro (fun (hb : _ = true) => ?_) (fun (hb : _ = false) => ?_)) <;> replace hb := xnC hb <;> (try first | exact xfC | exact bff hb (by assumption) | exact bff (by assumption) hb)) | ((fail_if_success (with_reducible first | refine xgon ?_ | intro _)); (conv => whnf); (fail_if_success (fail_if_success (with_reducible first | refine xstp ?_ | refine xgon ?_ | intro _)))))
    all_goals first
      | (refine FinK.mk ⟨[0], _, _, ⟨rfl, rfl⟩, ?_⟩; (repeat' first | refine And.intro ?_ ?_ | exact xeC | fail)
         all_goals (first | exact decide_eq_true (by unfold rngP; omega) | exact decide_eq_false (by unfold rngP; omega) | exact (decide_eq_true (by unfold rngP; omega)).symm | exact (decide_eq_false (by unfold rngP; omega)).symm | exact decide_eq_decide.2 (by unfold rngP; omega))
         done)
      | skip
    refine xcal (σ := []) (nl := []) (chas (letL x.k) 102 (letL_len x.k)) ?_
    rintro v h' ⟨rfl, rfl⟩ hcaps
    rw [hasF]
    refine rH18zpB0 ?_
    repeat' (first | (fail_if_success (with_reducible refine xstp ?_)); first | ((with_reducible refine And.intro ?_ ?_); focus exact xoC) | ((fail_if_success (with_reducible first | refine xgon ?_ | intro _)); (conv => whnf); (fail_if_success (fail_if_success (with_reducible first | refine xstp ?_ | refine xgon ?_ | intro _)))))
    refine xcal (σ := []) (nl := []) (cin (x.k = 2 ∨ x.k = 3 ∨ x.k = 4) (x.f) (1) (1099511627776)) ?_
    rintro v h' ⟨rfl, rfl⟩ hcaps
    refine rH18zpB0 ?_
    repeat' (first | (fail_if_success (with_reducible refine xstp ?_)); first | ((with_reducible refine And.intro (fun (hb : _ = true) => ?_) (fun (hb : _ = false) => ?_)) <;> replace hb := xnC hb <;> (try first | exact xfC | exact bff hb (by assumption) | exact bff (by assumption) hb)) | ((fail_if_success (with_reducible first | refine xgon ?_ | intro _)); (conv => whnf); (fail_if_success (fail_if_success (with_reducible first | refine xstp ?_ | refine xgon ?_ | intro _)))))
    all_goals first
      | (refine FinK.mk ⟨[0], _, _, ⟨rfl, rfl⟩, ?_⟩; (repeat' first | refine And.intro ?_ ?_ | exact xeC | fail)
         all_goals (first | exact decide_eq_true (by unfold rngP; omega) | exact decide_eq_false (by unfold rngP; omega) | exact (decide_eq_true (by unfold rngP; omega)).symm | exact (decide_eq_false (by unfold rngP; omega)).symm | exact decide_eq_decide.2 (by unfold rngP; omega))
         done)
      | skip
    refine xcal (σ := []) (nl := []) (chas (letL x.k) 108 (letL_len x.k)) ?_
    rintro v h' ⟨rfl, rfl⟩ hcaps
    rw [hasL]
    refine rH18zpB0 ?_
    repeat' (first | (fail_if_success (with_reducible refine xstp ?_)); first | ((with_reducible refine And.intro ?_ ?_); focus exact xoC) | ((fail_if_success (with_reducible first | refine xgon ?_ | intro _)); (conv => whnf); (fail_if_success (fail_if_success (with_reducible first | refine xstp ?_ | refine xgon ?_ | intro _)))))
    refine xcal (σ := []) (nl := []) (cin (x.k = 2 ∨ x.k = 3 ∨ x.k = 4) (x.la) (0) (1099511627776)) ?_
    rintro v h' ⟨rfl, rfl⟩ hcaps
    refine rH18zpB0 ?_
    repeat' (first | (fail_if_success (with_reducible refine xstp ?_)); first | ((with_reducible refine And.intro (fun (hb : _ = true) => ?_) (fun (hb : _ = false) => ?_)) <;> replace hb := xnC hb <;> (try first | exact xfC | exact bff hb (by assumption) | exact bff (by assumption) hb)) | ((fail_if_success (with_reducible first | refine xgon ?_ | intro _)); (conv => whnf); (fail_if_success (fail_if_success (with_reducible first | refine xstp ?_ | refine xgon ?_ | intro _)))))
    all_goals first
      | (refine FinK.mk ⟨[0], _, _, ⟨rfl, rfl⟩, ?_⟩; (repeat' first | refine And.intro ?_ ?_ | exact xeC | fail)
         all_goals (first | exact decide_eq_true (by unfold rngP; omega) | exact decide_eq_false (by unfold rngP; omega) | exact (decide_eq_true (by unfold rngP; omega)).symm | exact (decide_eq_false (by unfold rngP; omega)).symm | exact decide_eq_decide.2 (by unfold rngP; omega))
         done)
      | skip
    refine xcal (σ := []) (nl := []) (chas (letL x.k) 97 (letL_len x.k)) ?_
    rintro v h' ⟨rfl, rfl⟩ hcaps
    rw [hasA]
    refine rH18zpB0 ?_
    repeat' (first | (fail_if_success (with_reducible refine xstp ?_)); first | ((with_reducible refine And.intro ?_ ?_); focus exact xoC) | ((fail_if_success (with_reducible first | refine xgon ?_ | intro _)); (conv => whnf); (fail_if_success (fail_if_success (with_reducible first | refine xstp ?_ | refine xgon ?_ | intro _)))))
    refine xcal (σ := []) (nl := []) (cin (1 ≤ x.k ∧ x.k ≤ 5) (x.at') (0) (1099511627776)) ?_
    rintro v h' ⟨rfl, rfl⟩ hcaps
    refine rH18zpB0 ?_
    repeat' (first | (fail_if_success (with_reducible refine xstp ?_)); first | ((fail_if_success (with_reducible first | refine xgon ?_ | intro _)); (conv => whnf); (fail_if_success (fail_if_success (with_reducible first | refine xstp ?_ | refine xgon ?_ | intro _)))))
    refine FinK.mk ⟨[0], _, _, ⟨rfl, rfl⟩, ?_⟩; (repeat' first | refine And.intro ?_ ?_ | exact xeC | fail)
    all_goals (first | exact decide_eq_true (by unfold rngP; omega) | exact decide_eq_false (by unfold rngP; omega) | exact (decide_eq_true (by unfold rngP; omega)).symm | exact (decide_eq_false (by unfold rngP; omega)).symm | exact decide_eq_decide.2 (by unfold rngP; omega))

set_option maxRecDepth 10000 in
set_option maxHeartbeats 4000000 in
theorem cunused (x : Pk) (c : Nat) (hk : 1 ≤ x.k ∧ x.k ≤ 5) (hm : x.m.length ≤ 1000000) :
    Ctr Tryz.prog 69 [.a (encP (.sl 0 0 1 0 x.m.length c) x)] [.one .no] fun v h => v = .c (.b (decide (unuP x))) ∧ h = [.one .no] := by
  refine Ctr.mk' tbv mixed Tryz.func69 rfl rfl rfl (fun _ _ => by kernel_rfl) (by kernel_rfl) (by rfl) (by rfl) (by (repeat' first | refine And.intro ?_ ?_ | exact xeC | fail)) ?_
  repeat' (first | (fail_if_success (with_reducible refine xstp ?_)); first | (with_reducible intro hc; (try simp only [capsP, and_true] at hc); (try exact xfC)) | ((fail_if_success (with_reducible first | refine xgon ?_ | intro _)); (conv => whnf); (fail_if_success (fail_if_success (with_reducible first | refine xstp ?_ | refine xgon ?_ | intro _)))))
  refine xcal (σ := []) (nl := []) (cletters x.k) ?_
  rintro v h' ⟨rfl, rfl⟩ hcaps
  refine rH18zpB0 ?_
  repeat' (first | (fail_if_success (with_reducible refine xstp ?_)); first | ((fail_if_success (with_reducible first | refine xgon ?_ | intro _)); (conv => whnf); (fail_if_success (fail_if_success (with_reducible first | refine xstp ?_ | refine xgon ?_ | intro _)))))
  all_goals first
    | (refine FinK.mk ⟨[0], _, _, ⟨rfl, rfl⟩, ?_⟩; (repeat' first | refine And.intro ?_ ?_ | exact xeC | fail)
       all_goals first
         | exact decide_eq_true (by unfold unuP; omega)
         | exact decide_eq_false (by unfold unuP; omega)
         | (apply Bool.eq_iff_iff.2
            simp only [Bool.not_eq_true', decide_eq_false_iff_not, decide_eq_true_eq, emptyP]
            unfold unuP
            constructor
            · intro h
              exact .inr (.inr (.inr ⟨by omega, h⟩))
            · rintro (h | h | h | h)
              · exfalso; omega
              · exfalso; omega
              · exfalso; omega
              · exact h.2)
       done)
    | skip
  all_goals (
    refine xcal (σ := []) (nl := []) (chas (letL x.k) 119 (letL_len x.k)) ?_
    rintro v h' ⟨rfl, rfl⟩ hcaps
    rw [hasW]
    refine rH18zpB0 ?_
    repeat' (first | (fail_if_success (with_reducible refine xstp ?_)); first | ((with_reducible refine And.intro (fun (hb : _ = true) => ?_) (fun (hb : _ = false) => ?_)) <;> replace hb := xnC hb <;> (try first | exact xfC | exact bff hb (by assumption) | exact bff (by assumption) hb)) | ((fail_if_success (with_reducible first | refine xgon ?_ | intro _)); (conv => whnf); (fail_if_success (fail_if_success (with_reducible first | refine xstp ?_ | refine xgon ?_ | intro _)))))
    all_goals skip)
  all_goals first
    | (refine FinK.mk ⟨[0], _, _, ⟨rfl, rfl⟩, ?_⟩; (repeat' first | refine And.intro ?_ ?_ | exact xeC | fail)
       all_goals first
         | exact decide_eq_true (by unfold unuP; omega)
         | exact decide_eq_false (by unfold unuP; omega)
         | (apply Bool.eq_iff_iff.2
            simp only [Bool.not_eq_true', decide_eq_false_iff_not, decide_eq_true_eq, emptyP]
            unfold unuP
            constructor
            · intro h
              exact .inr (.inr (.inr ⟨by omega, h⟩))
            · rintro (h | h | h | h)
              · exfalso; omega
              · exfalso; omega
              · exfalso; omega
              · exact h.2)
       done)
    | skip
  all_goals (
    refine xcal (σ := []) (nl := []) (chas (letL x.k) 114 (letL_len x.k)) ?_
    rintro v h' ⟨rfl, rfl⟩ hcaps
    rw [hasR]
    refine rH18zpB0 ?_
    repeat' (first | (fail_if_success (with_reducible refine xstp ?_)); first | ((with_reducible refine And.intro (fun (hb : _ = true) => ?_) (fun (hb : _ = false) => ?_)) <;> replace hb := xnC hb <;> (try first | exact xfC | exact bff hb (by assumption) | exact bff (by assumption) hb)) | ((fail_if_success (with_reducible first | refine xgon ?_ | intro _)); (conv => whnf); (fail_if_success (fail_if_success (with_reducible first | refine xstp ?_ | refine xgon ?_ | intro _)))))
    all_goals skip)
  all_goals first
    | (refine FinK.mk ⟨[0], _, _, ⟨rfl, rfl⟩, ?_⟩; (repeat' first | refine And.intro ?_ ?_ | exact xeC | fail)
       all_goals first
         | exact decide_eq_true (by unfold unuP; omega)
         | exact decide_eq_false (by unfold unuP; omega)
         | (apply Bool.eq_iff_iff.2
            simp only [Bool.not_eq_true', decide_eq_false_iff_not, decide_eq_true_eq, emptyP]
            unfold unuP
            constructor
            · intro h
              exact .inr (.inr (.inr ⟨by omega, h⟩))
            · rintro (h | h | h | h)
              · exfalso; omega
              · exfalso; omega
              · exfalso; omega
              · exact h.2)
       done)
    | skip
  all_goals (
    refine xcal (σ := []) (nl := []) (chas (letL x.k) 115 (letL_len x.k)) ?_
    rintro v h' ⟨rfl, rfl⟩ hcaps
    rw [hasS]
    refine rH18zpB0 ?_
    repeat' (first | (fail_if_success (with_reducible refine xstp ?_)); first | ((with_reducible refine And.intro (fun (hb : _ = true) => ?_) (fun (hb : _ = false) => ?_)) <;> replace hb := xnC hb <;> (try first | exact xfC | exact bff hb (by assumption) | exact bff (by assumption) hb)) | ((fail_if_success (with_reducible first | refine xgon ?_ | intro _)); (conv => whnf); (fail_if_success (fail_if_success (with_reducible first | refine xstp ?_ | refine xgon ?_ | intro _)))))
    all_goals skip)
  all_goals first
    | (refine FinK.mk ⟨[0], _, _, ⟨rfl, rfl⟩, ?_⟩; (repeat' first | refine And.intro ?_ ?_ | exact xeC | fail)
       all_goals first
         | exact decide_eq_true (by unfold unuP; omega)
         | exact decide_eq_false (by unfold unuP; omega)
         | (apply Bool.eq_iff_iff.2
            simp only [Bool.not_eq_true', decide_eq_false_iff_not, decide_eq_true_eq, emptyP]
            unfold unuP
            constructor
            · intro h
              exact .inr (.inr (.inr ⟨by omega, h⟩))
            · rintro (h | h | h | h)
              · exfalso; omega
              · exfalso; omega
              · exfalso; omega
              · exact h.2)
       done)
    | skip
  all_goals (
    refine xcal (σ := []) (nl := []) (chas (letL x.k) 102 (letL_len x.k)) ?_
    rintro v h' ⟨rfl, rfl⟩ hcaps
    rw [hasF]
    refine rH18zpB0 ?_
    repeat' (first | (fail_if_success (with_reducible refine xstp ?_)); first | ((with_reducible refine And.intro (fun (hb : _ = true) => ?_) (fun (hb : _ = false) => ?_)) <;> replace hb := xnC hb <;> (try first | exact xfC | exact bff hb (by assumption) | exact bff (by assumption) hb)) | ((fail_if_success (with_reducible first | refine xgon ?_ | intro _)); (conv => whnf); (fail_if_success (fail_if_success (with_reducible first | refine xstp ?_ | refine xgon ?_ | intro _)))))
    all_goals skip)
  all_goals first
    | (refine FinK.mk ⟨[0], _, _, ⟨rfl, rfl⟩, ?_⟩; (repeat' first | refine And.intro ?_ ?_ | exact xeC | fail)
       all_goals first
         | exact decide_eq_true (by unfold unuP; omega)
         | exact decide_eq_false (by unfold unuP; omega)
         | (apply Bool.eq_iff_iff.2
            simp only [Bool.not_eq_true', decide_eq_false_iff_not, decide_eq_true_eq, emptyP]
            unfold unuP
            constructor
            · intro h
              exact .inr (.inr (.inr ⟨by omega, h⟩))
            · rintro (h | h | h | h)
              · exfalso; omega
              · exfalso; omega
              · exfalso; omega
              · exact h.2)
       done)
    | skip
  all_goals (
    refine xcal (σ := []) (nl := []) (chas (letL x.k) 108 (letL_len x.k)) ?_
    rintro v h' ⟨rfl, rfl⟩ hcaps
    rw [hasL]
    refine rH18zpB0 ?_
    repeat' (first | (fail_if_success (with_reducible refine xstp ?_)); first | ((with_reducible refine And.intro (fun (hb : _ = true) => ?_) (fun (hb : _ = false) => ?_)) <;> replace hb := xnC hb <;> (try first | exact xfC | exact bff hb (by assumption) | exact bff (by assumption) hb)) | ((fail_if_success (with_reducible first | refine xgon ?_ | intro _)); (conv => whnf); (fail_if_success (fail_if_success (with_reducible first | refine xstp ?_ | refine xgon ?_ | intro _)))))
    all_goals skip)
  all_goals first
    | (refine FinK.mk ⟨[0], _, _, ⟨rfl, rfl⟩, ?_⟩; (repeat' first | refine And.intro ?_ ?_ | exact xeC | fail)
       all_goals first
         | exact decide_eq_true (by unfold unuP; omega)
         | exact decide_eq_false (by unfold unuP; omega)
         | (apply Bool.eq_iff_iff.2
            simp only [Bool.not_eq_true', decide_eq_false_iff_not, decide_eq_true_eq, emptyP]
            unfold unuP
            constructor
            · intro h
              exact .inr (.inr (.inr ⟨by omega, h⟩))
            · rintro (h | h | h | h)
              · exfalso; omega
              · exfalso; omega
              · exfalso; omega
              · exact h.2)
       done)
    | skip
  all_goals (
    refine xcal (σ := []) (nl := []) (chas (letL x.k) 97 (letL_len x.k)) ?_
    rintro v h' ⟨rfl, rfl⟩ hcaps
    rw [hasA]
    refine rH18zpB0 ?_
    repeat' (first | (fail_if_success (with_reducible refine xstp ?_)); first | ((with_reducible refine And.intro (fun (hb : _ = true) => ?_) (fun (hb : _ = false) => ?_)) <;> replace hb := xnC hb <;> (try first | exact xfC | exact bff hb (by assumption) | exact bff (by assumption) hb)) | ((fail_if_success (with_reducible first | refine xgon ?_ | intro _)); (conv => whnf); (fail_if_success (fail_if_success (with_reducible first | refine xstp ?_ | refine xgon ?_ | intro _)))))
    all_goals skip)
  all_goals first
    | (refine FinK.mk ⟨[0], _, _, ⟨rfl, rfl⟩, ?_⟩; (repeat' first | refine And.intro ?_ ?_ | exact xeC | fail)
       all_goals first
         | exact decide_eq_true (by unfold unuP; omega)
         | exact decide_eq_false (by unfold unuP; omega)
         | (apply Bool.eq_iff_iff.2
            simp only [Bool.not_eq_true', decide_eq_false_iff_not, decide_eq_true_eq, emptyP]
            unfold unuP
            constructor
            · intro h
              exact .inr (.inr (.inr ⟨by omega, h⟩))
            · rintro (h | h | h | h)
              · exfalso; omega
              · exfalso; omega
              · exfalso; omega
              · exact h.2)
       done)
    | skip
  all_goals (
    refine xcal (σ := []) (nl := []) (chas (letL x.k) 109 (letL_len x.k)) ?_
    rintro v h' ⟨rfl, rfl⟩ hcaps
    rw [hasM]
    refine rH18zpB0 ?_
    repeat' (first | (fail_if_success (with_reducible refine xstp ?_)); first | ((with_reducible refine And.intro (fun (hb : _ = true) => ?_) (fun (hb : _ = false) => ?_)) <;> replace hb := xnC hb <;> (try first | exact xfC | exact bff hb (by assumption) | exact bff (by assumption) hb)) | ((fail_if_success (with_reducible first | refine xgon ?_ | intro _)); (conv => whnf); (fail_if_success (fail_if_success (with_reducible first | refine xstp ?_ | refine xgon ?_ | intro _)))))
    all_goals skip)
  all_goals first
    | (refine FinK.mk ⟨[0], _, _, ⟨rfl, rfl⟩, ?_⟩; (repeat' first | refine And.intro ?_ ?_ | exact xeC | fail)
       all_goals first
         | exact decide_eq_true (by unfold unuP; omega)
         | exact decide_eq_false (by unfold unuP; omega)
         | (apply Bool.eq_iff_iff.2
            simp only [Bool.not_eq_true', decide_eq_false_iff_not, decide_eq_true_eq, emptyP]
            unfold unuP
            constructor
            · intro h
              exact .inr (.inr (.inr ⟨by omega, h⟩))
            · rintro (h | h | h | h)
              · exfalso; omega
              · exfalso; omega
              · exfalso; omega
              · exact h.2)
       done)
    | skip
  all_goals (
    refine xcal (σ := []) (nl := []) (chas (letL x.k) 112 (letL_len x.k)) ?_
    rintro v h' ⟨rfl, rfl⟩ hcaps
    rw [hasP]
    refine rH18zpB0 ?_
    repeat' (first | (fail_if_success (with_reducible refine xstp ?_)); first | ((with_reducible refine And.intro (fun (hb : _ = true) => ?_) (fun (hb : _ = false) => ?_)) <;> replace hb := xnC hb <;> (try first | exact xfC | exact bff hb (by assumption) | exact bff (by assumption) hb)) | ((fail_if_success (with_reducible first | refine xgon ?_ | intro _)); (conv => whnf); (fail_if_success (fail_if_success (with_reducible first | refine xstp ?_ | refine xgon ?_ | intro _)))))
    all_goals skip)
  all_goals first
    | (refine FinK.mk ⟨[0], _, _, ⟨rfl, rfl⟩, ?_⟩; (repeat' first | refine And.intro ?_ ?_ | exact xeC | fail)
       all_goals first
         | exact decide_eq_true (by unfold unuP; omega)
         | exact decide_eq_false (by unfold unuP; omega)
         | (apply Bool.eq_iff_iff.2
            simp only [Bool.not_eq_true', decide_eq_false_iff_not, decide_eq_true_eq, emptyP]
            unfold unuP
            constructor
            · intro h
              exact .inr (.inr (.inr ⟨by omega, h⟩))
            · rintro (h | h | h | h)
              · exfalso; omega
              · exfalso; omega
              · exfalso; omega
              · exact h.2)
       done)
    | skip

set_option maxRecDepth 10000 in
set_option maxHeartbeats 4000000 in
theorem cCheckR (x : Pk) (wa : Bool) (c : Nat) (hp : x.p.length ≤ 1000000) (hm : x.m.length ≤ 1000000) :
    Ctr Tryz.prog 45 [.a (encP (.sl 0 0 1 0 x.m.length c) x)] [.one (ints wa x.m c)] fun v h => v = .c (.i .i64 (chk x : Nat)) ∧ h = [.one (ints wa x.m c)] := by
  refine Ctr.mk' tbv mixed Tryz.func45 rfl rfl rfl (fun _ _ => by kernel_rfl) (by kernel_rfl) (by rfl) (by rfl) (by (repeat' first | refine And.intro ?_ ?_ | exact xeC | fail)) ?_
  repeat' (first | (fail_if_success (with_reducible refine xstp ?_)); first | (with_reducible intro hc; (try simp only [capsP, and_true] at hc); (try exact xfC)) | ((fail_if_success (with_reducible first | refine xgon ?_ | intro _)); (conv => whnf); (fail_if_success (fail_if_success (with_reducible first | refine xstp ?_ | refine xgon ?_ | intro _)))))
  have hz : (mkS x.p).size = x.p.length := rfl
  refine xcal (σ := [.name 0]) (nl := []) (cranges x x.m.length c) ?_
  rintro v h' ⟨rfl, rfl⟩ hcaps
  refine rH18zpB0 ?_
  repeat' (first | (fail_if_success (with_reducible refine xstp ?_)); first | ((with_reducible refine And.intro (fun (hb : _ = true) => ?_) (fun (hb : _ = false) => ?_)) <;> replace hb := xnC hb <;> (try first | exact xfC | exact bff hb (by assumption) | exact bff (by assumption) hb)) | ((fail_if_success (with_reducible first | refine xgon ?_ | intro _)); (conv => whnf); (fail_if_success (fail_if_success (with_reducible first | refine xstp ?_ | refine xgon ?_ | intro _)))))
  · rw [show chk x = 4 from if_pos hb]
    refine FinK.mk ⟨[0], _, _, ⟨rfl, rfl⟩, ?_⟩; (repeat' first | refine And.intro ?_ ?_ | exact xeC | fail)
  · have hr : rngP x := by assumption
    rw [show chk x = 3 by unfold chk; rw [if_neg (by simpa using hr), if_pos (by omega)]]
    refine FinK.mk ⟨[0], _, _, ⟨rfl, rfl⟩, ?_⟩; (repeat' first | refine And.intro ?_ ?_ | exact xeC | fail)
  · have hr : rngP x := by assumption
    rw [show chk x = 3 by unfold chk; rw [if_neg (by simpa using hr), if_pos (by omega)]]
    refine FinK.mk ⟨[0], _, _, ⟨rfl, rfl⟩, ?_⟩; (repeat' first | refine And.intro ?_ ?_ | exact xeC | fail)
  have hr : rngP x := by assumption
  refine xcal (σ := [.name 0]) (nl := []) (cunused x c hr.1 hm) ?_
  rintro v h' ⟨rfl, rfl⟩ hcaps
  refine rH18zpB0 ?_
  repeat' (first | (fail_if_success (with_reducible refine xstp ?_)); first | ((with_reducible refine And.intro (fun (hb : _ = true) => ?_) (fun (hb : _ = false) => ?_)) <;> replace hb := xnC hb <;> (try first | exact xfC | exact bff hb (by assumption) | exact bff (by assumption) hb)) | ((fail_if_success (with_reducible first | refine xgon ?_ | intro _)); (conv => whnf); (fail_if_success (fail_if_success (with_reducible first | refine xstp ?_ | refine xgon ?_ | intro _)))))
  · rw [show chk x = 2 by unfold chk; rw [if_neg (by simpa using hr), if_neg (by omega), if_pos hb]]
    refine FinK.mk ⟨[0], _, _, ⟨rfl, rfl⟩, ?_⟩; (repeat' first | refine And.intro ?_ ?_ | exact xeC | fail)
  have hun := hb
  refine LoopK.mk' {i : Nat // i ≤ x.m.length ∧ ∀ j, j < i → ¬ badA x j}
    (fun ⟨i, _⟩ => ⟨[(1, .c (.p 1 0 0)), (3, .c (.i .i64 (i : Nat)))], [.one (ints wa x.m c), .one (.cells true (encP (.sl 0 0 1 0 x.m.length c) x))]⟩) (fun k => x.m.length - k.1)
    ⟨⟨0, Nat.zero_le _, by intro j h; omega⟩, [0, 1], ?_⟩ ?_
  · (repeat' first | refine And.intro ?_ ?_ | exact xeC | fail)
  rintro ⟨i, hi, hno⟩
  repeat' (first | (fail_if_success (with_reducible refine xstp ?_)); first | ((with_reducible refine And.intro (fun (hb : _ = true) => ?_) (fun (hb : _ = false) => ?_)) <;> replace hb := xnC hb <;> (try first | exact xfC | exact bff hb (by assumption) | exact bff (by assumption) hb)) | ((with_reducible refine And.intro ?_ ?_); focus exact xoC) | (with_reducible intro hc; (try simp only [capsP, and_true] at hc); (try exact xfC)) | ((fail_if_success (with_reducible first | refine xgon ?_ | intro _)); (conv => whnf); (fail_if_success (fail_if_success (with_reducible first | refine xstp ?_ | refine xgon ?_ | intro _)))))
  all_goals try simp only [show ((i : Int) - 1).toNat = i - 1 by omega] at *
  all_goals first
    | (have hbad : badA x i := by unfold badA; omega
       have hil : i < x.m.length := by omega
       rw [show chk x = 2 by unfold chk; rw [if_neg (by simpa using hr), if_neg (by omega), if_neg hun, if_pos ⟨i, hil, hbad⟩]]
       refine FinK.mk ⟨[0], _, _, ⟨rfl, rfl⟩, ?_⟩; (repeat' first | refine And.intro ?_ ?_ | exact xeC | fail)
       done)
    | (have hil : i < x.m.length := by omega
       have hbad : ¬ badA x i := by unfold badA; omega
       refine ⟨⟨i + 1, by omega, fun j hj => by
         rcases (by omega : j < i ∨ j = i) with h | rfl
         · exact hno j h
         · exact hbad⟩, [0, 1], by simp only; omega, ?_⟩
       (repeat' first | refine And.intro ?_ ?_ | exact xeC | fail)
       done)
    | (have hil : i = x.m.length := by omega
       rw [show chk x = 0 by unfold chk; rw [if_neg (by simpa using hr), if_neg (by omega), if_neg hun, if_neg (fun ⟨j, h1, h2⟩ => hno j (by omega) h2)]]
       refine FinK.mk ⟨[0], _, _, ⟨rfl, rfl⟩, ?_⟩; (repeat' first | refine And.intro ?_ ?_ | exact xeC | fail)
       done)
end Go.Proofs.YtofcadbfjbefkaaGreat


namespace Go.Proofs.YtofcadbfjbefkaaGreat
open Go.Shelf
def lays189_ren : Go.Shelf.Ren := ⟨fun | 189 => 74 | 125 => 87 | 257 => 88 | 128 => 98 | 129 => 99 | 294 => 100 | 295 => 101 | 296 => 102 | 297 => 103 | 298 => 104 | 299 => 105 | 216 => 106 | 300 => 107 | 301 => 108 | 328 => 114 | 329 => 110 | 330 => 111 | 331 => 115 | 332 => 116 | 215 => 117 | 343 => 119 | n => n, fun | 28 => 38 | 3 => 3 | 46 => 124 | 0 => 0 | 51 => 135 | 53 => 137 | 4 => 4 | 183 => 129 | 182 => 128 | 131 => 52 | 5 => 5 | 9 => 9 | 218 => 143 | 222 => 147 | 228 => 151 | 229 => 152 | n => n, fun | n => n⟩
theorem lays189 : Go.Proofs.Lays.n189 Tryz.prog lays189_ren := {
  mixed := by kernel_rfl
  f125 := Tryz.func87.trans (congrArg some (by kernel_rfl))
  f128 := Tryz.func98.trans (congrArg some (by kernel_rfl))
  f129 := Tryz.func99.trans (congrArg some (by kernel_rfl))
  f189 := Tryz.func74.trans (congrArg some (by kernel_rfl))
  f215 := Tryz.func117.trans (congrArg some (by kernel_rfl))
  f216 := Tryz.func106.trans (congrArg some (by kernel_rfl))
  f257 := Tryz.func88.trans (congrArg some (by kernel_rfl))
  f294 := Tryz.func100.trans (congrArg some (by kernel_rfl))
  f295 := Tryz.func101.trans (congrArg some (by kernel_rfl))
  f296 := Tryz.func102.trans (congrArg some (by kernel_rfl))
  f297 := Tryz.func103.trans (congrArg some (by kernel_rfl))
  f298 := Tryz.func104.trans (congrArg some (by kernel_rfl))
  f299 := Tryz.func105.trans (congrArg some (by kernel_rfl))
  f300 := Tryz.func107.trans (congrArg some (by kernel_rfl))
  f301 := Tryz.func108.trans (congrArg some (by kernel_rfl))
  f328 := Tryz.func114.trans (congrArg some (by kernel_rfl))
  f329 := Tryz.func110.trans (congrArg some (by kernel_rfl))
  f330 := Tryz.func111.trans (congrArg some (by kernel_rfl))
  f331 := Tryz.func115.trans (congrArg some (by kernel_rfl))
  f332 := Tryz.func116.trans (congrArg some (by kernel_rfl))
  f343 := Tryz.func119.trans (congrArg some (by kernel_rfl))
  t0 := Tryz.underlying0
  a0 := Tryz.isAgg0
  z0 := Tryz.sizeOf0
  v0 := Tryz.zeroValue0
  t3 := Tryz.underlying3
  a3 := Tryz.isAgg3
  z3 := Tryz.sizeOf3
  v3 := Tryz.zeroValue3
  t4 := Tryz.underlying4
  a4 := Tryz.isAgg4
  z4 := Tryz.sizeOf4
  v4 := Tryz.zeroValue4
  t5 := Tryz.underlying5
  a5 := Tryz.isAgg5
  z5 := Tryz.sizeOf5
  v5 := Tryz.zeroValue5
  t9 := Tryz.underlying9
  a9 := Tryz.isAgg9
  z9 := Tryz.sizeOf9
  v9 := Tryz.zeroValue9
  t28 := Tryz.underlying38
  a28 := Tryz.isAgg38
  z28 := Tryz.sizeOf38
  v28 := Tryz.zeroValue38
  t46 := Tryz.underlying124
  a46 := Tryz.isAgg124
  z46 := Tryz.sizeOf124
  v46 := Tryz.zeroValue124
  t51 := Tryz.underlying135
  a51 := Tryz.isAgg135
  z51 := Tryz.sizeOf135
  v51 := Tryz.zeroValue135
  t53 := Tryz.underlying137
  a53 := Tryz.isAgg137
  z53 := Tryz.sizeOf137
  v53 := Tryz.zeroValue137
  t131 := Tryz.underlying52
  a131 := Tryz.isAgg52
  z131 := Tryz.sizeOf52
  v131 := Tryz.zeroValue52
  t182 := Tryz.underlying128
  a182 := Tryz.isAgg128
  z182 := Tryz.sizeOf128
  v182 := Tryz.zeroValue128
  t183 := Tryz.underlying129
  a183 := Tryz.isAgg129
  z183 := Tryz.sizeOf129
  v183 := Tryz.zeroValue129
  t218 := Tryz.underlying143
  a218 := Tryz.isAgg143
  z218 := Tryz.sizeOf143
  v218 := Tryz.zeroValue143
  t222 := Tryz.underlying147
  a222 := Tryz.isAgg147
  z222 := Tryz.sizeOf147
  v222 := Tryz.zeroValue147
  t228 := Tryz.underlying151
  a228 := Tryz.isAgg151
  z228 := Tryz.sizeOf151
  v228 := Tryz.zeroValue151
  t229 := Tryz.underlying152
  a229 := Tryz.isAgg152
  z229 := Tryz.sizeOf152
  v229 := Tryz.zeroValue152 }
open Go.X
theorem sortLaw : SortLaw Tryz.prog 74 (Value.int .i64) (fun l => l.mergeSort fun x y => decide (x ≤ y)) :=
  ⟨fun blk off cap zs w h1 h2 h3 => Any.slices_Sort_int lays189 blk off cap zs w h1 h2 h3, fun p cap w => Any.slices_Sort_int_none lays189 p cap w, fun l => List.length_mergeSort l⟩
def srtI (l : List Int) : List Int := l.mergeSort fun x y => decide (x ≤ y)
theorem cSort (e : Nat) (zs : List Int) (c : Nat) (hz : zs.length < 4611686018427387904) :
    Ctr Tryz.prog 74 [.c (.sl 0 0 1 0 zs.length c)] [.one (.row true false e 1 zs.length c (Go.X.rowOf Go.X.encI zs))] fun v h => v = .t [] ∧ h = [.one (.row true false e 1 zs.length c (Go.X.rowOf Go.X.encI (srtI zs)))] :=
  sort_ctr sortLaw (fun _ _ => by kernel_rfl) (fun x => .i .i64 x) (fun _ _ => rfl) (fun _ => rfl) false e zs c hz
end Go.Proofs.YtofcadbfjbefkaaGreat


namespace Go.Proofs.YtofcadbfjbefkaaGreat
open Go.X
set_option linter.unusedSimpArgs false
set_option linter.unusedVariables false
/-- A peer (a matched reader); its number is the name of its block. -/
structure Pr where
  (nd : Int) (rel : Bool) (st ac se : Int) (rq : List Int) (bg : Bool) (bt : Int)
/-- What a writer knows: samples, the last number, the map of its peers. -/
structure Ws where
  (l : List Smp) (la : Int) (M : List (Nat × Int)) (ck : Nat) (D : Nat → Option Pr)
def encPr (F y x : Nat) (p : Pr) (c : Nat) : List C := [.i .i64 x, .i .i64 p.nd, .b p.rel, .i .i64 p.st, .i .i64 p.ac, .i .i64 p.se, .sl F y 1 0 p.rq.length c, .b p.bg, .i .i64 p.bt]
def prC (F y x : Nat) (o : Option Pr) (c : Nat) : Ck := match o with | none => .no | some p => .cells true (encPr F y x p c)
def rqO (o : Option Pr) (c : Nat) : Ck := match o with | none => .no | some p => .row true false 3 1 p.rq.length c (Go.X.rowOf Go.X.encI p.rq)
abbrev prs (F : Nat) (D : Nat → Option Pr) (cf : Nat → Nat) : Fam := .many fun x => prC F x x (D x) (cf x)
abbrev rqs (D : Nat → Option Pr) (cf : Nat → Nat) : Fam := .many fun x => rqO (D x) (cf x)
abbrev peM (fm : Nat) (M : List (Nat × Int)) (ck : Nat) : Ck := .map true true ck M.length fun i => ((M.getD i default).1, .i (M.getD i default).2, .c (.p fm (M.getD i default).2.toNat 0))
abbrev wrc (fh fm : Nat) (id per la : Int) (q : Qos) : Ck := .cells true [.i .i64 id, .i .i64 per, .i .i64 la, .b q.rel, .b q.dur, .b q.keep, .i .i64 q.depth, .i .i64 q.dead, .i .i64 q.life, .i .i64 q.lease, .p fh 0 0, .mp fm 0]

theorem prC_rk (σ : List Sg) (N F y x : Nat) (o : Option Pr) (c : Nat) : (prC F y x o c).rk σ N = prC (key σ N F y).1 (key σ N F y).2 x o c := by
  cases o <;> rfl
theorem rqO_rk (σ : List Sg) (N : Nat) (o : Option Pr) (c : Nat) : (rqO o c).rk σ N = rqO o c := by
  cases o <;> rfl
theorem prC_le {σ : List Sg} {N N' F F' x c : Nat} {o : Option Pr} (h : key σ N' F x = (F', x)) : (prC F' x x o c).leK N ((prC F x x o c).rk σ N') True := by
  rw [prC_rk, h]
  cases o with
  | none => trivial
  | some p => simp [prC, encPr, Ck.leK, sameB, eqL, C.eqK, sameK, ifB, kNat]
theorem rqO_le {σ : List Sg} {N N' c : Nat} {o : Option Pr} : (rqO o c).leK N ((rqO o c).rk σ N') True := by
  rw [rqO_rk]
  cases o with
  | none => trivial
  | some p => exact ⟨rfl, rfl, rfl, rfl, Nat.le_refl _, rfl, fun _ _ => rfl, trivial⟩
theorem prC_bel {n F y x c : Nat} {o : Option Pr} (h : Nat.blt F n = true) : (prC F y x o c).belK n True := by
  cases o with
  | none => trivial
  | some p => show ifB _ True; simp [encPr, C.belB, h, ifB]
theorem rqO_bel {n c : Nat} {o : Option Pr} : (rqO o c).belK n True := by cases o <;> trivial
theorem prR_bel {σ : List Sg} {n N F F' x c : Nat} {o : Option Pr} (hk : key σ N F x = (F', x)) (h : Nat.blt F' n = true) : ((prC F x x o c).rk σ N).belK n True := by
  rw [prC_rk, hk]; exact prC_bel h
theorem rqR_bel {σ : List Sg} {n N c : Nat} {o : Option Pr} : ((rqO o c).rk σ N).belK n True := by rw [rqO_rk]; exact rqO_bel
theorem xmC {p : Prop} (h : p := by first | exact fun _ => trivial | exact fun x => prC_le rfl | exact fun x => rqO_le | exact fun x => prC_bel rfl | exact fun x => rqO_bel | exact fun x => prR_bel rfl rfl | exact fun x => rqR_bel | fail) : p := h

/-- What holds of the peers. -/
structure WOk (W : Ws) : Prop where
  a : ∀ i, i < W.M.length → (1 ≤ (W.M.getD i default).2 ∧ (W.M.getD i default).2 ≤ 1073741824) ∧ ∃ p, W.D (W.M.getD i default).2.toNat = some p
  b : ∀ x p, W.D x = some p → ∃ i, i < W.M.length ∧ (W.M.getD i default).2 = x ∧ 1 ≤ x
  ne : ∀ a b, a < b → b < W.M.length → (W.M.getD a default).2 ≠ (W.M.getD b default).2
  st : ∀ a b, a < b → b < W.M.length → (W.M.getD a default).1 ≠ (W.M.getD b default).1
  lt : ∀ i, i < W.M.length → (W.M.getD i default).1 < W.ck
def Ws.get (W : Ws) (n : Int) : Option Pr := if 1 ≤ n then W.D n.toNat else none
theorem getP_yes {W : Ws} (h : WOk W) {i : Nat} (hi : i < W.M.length) {w : Int} (hk : (W.M.getD i default).2 = w) : ∃ p, W.get w = some p ∧ W.D w.toNat = some p ∧ 1 ≤ w := by
  obtain ⟨⟨h1, _⟩, p, hp⟩ := h.a i hi
  rw [hk] at h1 hp
  exact ⟨p, by unfold Ws.get; rw [if_pos h1, hp], hp, h1⟩
theorem getP_no {W : Ws} (h : WOk W) {w : Int} (hno : ∀ i, i < W.M.length → (W.M.getD i default).2 ≠ w) : W.get w = none := by
  unfold Ws.get
  split
  · rename_i h1
    cases hD : W.D w.toNat with
    | none => rfl
    | some p =>
      obtain ⟨i, hi, hk, _⟩ := h.b _ _ hD
      exact absurd (hk.trans (Int.toNat_of_nonneg (by omega))) (hno i hi)
  · rfl
theorem nodup_leN : ∀ (n : Nat) (S : List Nat), S.Nodup → (∀ k ∈ S, k < n) → S.length ≤ n
  | 0, S, _, h => by
    cases S with
    | nil => exact Nat.le_refl _
    | cons a S => exact absurd (h a (List.mem_cons_self ..)) (Nat.not_lt_zero _)
  | n + 1, S, hn, h => by
    by_cases hm : n ∈ S
    · have h1 := nodup_leN n (S.erase n) (hn.erase n) (fun k hk => by
        have := (hn.mem_erase_iff).1 hk
        have := h k this.2
        omega)
      rw [List.length_erase_of_mem hm] at h1
      omega
    · have := nodup_leN n S hn (fun k hk => by
        have := h k hk
        have : k ≠ n := fun e => hm (e ▸ hk)
        omega)
      omega
/-- A range over the peers: what was seen. -/
structure Seen (W : Ws) (Q : List Nat) : Prop where
  nd : Q.Nodup
  lt : ∀ q ∈ Q, q < W.M.length
theorem Seen.le {W : Ws} {Q : List Nat} (h : Seen W Q) : Q.length ≤ W.M.length := nodup_leN _ _ h.nd h.lt
theorem Seen.next {W : Ws} {Q : List Nat} (h : Seen W Q) {i : Nat} (hi : i < W.M.length) (hc : (W.M.getD i default).1 ∉ Q.map fun q => (W.M.getD q default).1) : Seen W (Q ++ [i]) := by
  have hiQ : i ∉ Q := fun h => hc (List.mem_map.2 ⟨i, h, rfl⟩)
  refine ⟨List.nodup_append.2 ⟨h.nd, by simp, fun a ha b hb e => hiQ (by rw [List.mem_singleton.1 hb] at e; exact e ▸ ha)⟩, fun q hq => ?_⟩
  rcases List.mem_append.1 hq with hq | hq
  · exact h.lt q hq
  · rw [List.mem_singleton.1 hq]; exact hi
theorem Seen.all {W : Ws} {Q : List Nat} (hW : WOk W) (h : Seen W Q) (hc : ∀ i, i < W.M.length → (W.M.getD i default).1 ∈ Q.map fun q => (W.M.getD q default).1) : ∀ i, i < W.M.length → i ∈ Q := fun i hi => by
  obtain ⟨q, hq, e⟩ := List.mem_map.1 (hc i hi)
  have hq2 := h.lt q hq
  rcases (by omega : i < q ∨ q < i ∨ i = q) with h | h | h
  · exact absurd e.symm (hW.st i q h hq2)
  · exact absurd e (hW.st q i h hi)
  · exact h ▸ hq
/-- Does a peer need a sample; does one of them. -/
def ndP (sq : Int) (p : Pr) : Bool := (p.rel && decide (p.ac < sq)) || (!p.rel && decide (p.se < sq))
def ndB (sq : Int) (W : Ws) : Bool := W.M.any fun e => match W.D e.2.toNat with | some p => ndP sq p | none => false
theorem nd_yes {sq : Int} {W : Ws} {i : Nat} {p : Pr} (hi : i < W.M.length) (hp : W.D (W.M.getD i default).2.toNat = some p) (h : ndP sq p = true) : ndB sq W = true := by
  unfold ndB
  refine List.any_eq_true.2 ⟨W.M.getD i default, by rw [getD_at hi]; exact List.getElem_mem _, ?_⟩
  rw [hp]
  exact h
theorem nd_no {sq : Int} {W : Ws} (hW : WOk W) (h : ∀ i p, i < W.M.length → W.D (W.M.getD i default).2.toNat = some p → ndP sq p = false) : ndB sq W = false := by
  unfold ndB
  refine List.any_eq_false.2 fun e he => ?_
  obtain ⟨i, hi, rfl⟩ := List.mem_iff_getElem.1 he
  obtain ⟨_, p, hp⟩ := hW.a i hi
  have := h i p hi hp
  rw [getD_at hi] at hp
  rw [hp]
  simpa using this

set_option maxRecDepth 10000 in
set_option maxHeartbeats 4000000 in
theorem cneeded (id per la : Int) (q : Qos) (W : Ws) (cf : Nat → Nat) (sq : Int) (hW : WOk W) :
    Ctr Tryz.prog 30 [.c (.p 0 0 0), .c (.i .i64 sq)] [.one (wrc 1 2 id per la q), .one .no, .one (peM 3 W.M W.ck), prs 4 W.D cf, .one .no]
      fun v h => v = .c (.b (ndB sq W)) ∧ h = [.one (wrc 1 2 id per la q), .one .no, .one (peM 3 W.M W.ck), prs 4 W.D cf, .one .no] := by
  refine Ctr.mk' tbv mixed Tryz.func30 rfl rfl rfl (fun _ _ => by kernel_rfl) (by kernel_rfl) (by rfl) (by rfl) (by (repeat' first | refine And.intro ?_ ?_ | exact xeC | fail) <;> exact xmC) ?_
  repeat' (first | (fail_if_success (with_reducible refine xstp ?_)); first | (with_reducible intro hc; (try simp only [capsP, and_true] at hc); (try exact xfC)) | ((fail_if_success (with_reducible first | refine xgon ?_ | intro _)); (conv => whnf); (fail_if_success (fail_if_success (with_reducible first | refine xstp ?_ | refine xgon ?_ | intro _)))))
  refine LoopK.mk' {Q : List Nat // Seen W Q ∧ ∀ i ∈ Q, ∀ p, W.D (W.M.getD i default).2.toNat = some p → ndP sq p = false}
    (fun ⟨Q, _⟩ => ⟨[(1, .c (.i .i64 sq)), (11, .c (.p 5 0 0))], [.one (wrc 1 2 id per la q), .one .no, .one (peM 3 W.M W.ck), prs 4 W.D cf, .one .no, .one (.iter 2 0 W.ck (Q.map fun q => (W.M.getD q default).1))]⟩) (fun Q => W.M.length - Q.1.length)
    ⟨⟨[], ⟨by simp, by simp⟩, by simp⟩, [0, 1, 2, 3, 4, 5], ?_⟩ ?_
  · (repeat' first | refine And.intro ?_ ?_ | exact xeC | fail)
    all_goals (exact xmC)
  rintro ⟨Q, hQ, hno⟩
  have hQl := hQ.le
  repeat' (first | (fail_if_success (with_reducible refine xstp ?_)); first | (with_reducible refine Both.mk ?_ ?_) | ((with_reducible refine And.intro ?_ ?_); focus exact xoC) | (with_reducible intro hc; (try simp only [capsP, and_true] at hc); (try exact xfC)) | ((fail_if_success (with_reducible first | refine xgon ?_ | intro _)); (conv => whnf); (fail_if_success (fail_if_success (with_reducible first | refine xstp ?_ | refine Both.mk ?_ ?_ | refine xgon ?_ | intro _)))))
  · rename_i i hi
    have hQ' := hQ.next hi hc
    have hQl' := hQ'.le
    rw [List.length_append, List.length_singleton] at hQl'
    obtain ⟨_, p, hp⟩ := hW.a i hi
    repeat' (first | (fail_if_success (with_reducible refine xstp ?_)); first | ((with_reducible refine And.intro (fun (hb : _ = true) => ?_) (fun (hb : _ = false) => ?_)) <;> replace hb := xnC hb <;> (try first | exact xfC | exact bff hb (by assumption) | exact bff (by assumption) hb)) | (with_reducible refine Both.mk ?_ ?_) | ((with_reducible refine And.intro ?_ ?_); focus exact xoC) | ((with_reducible refine Or.inl ⟨?_, ?_, ?_⟩); (focus rfl); focus exact xaC) | ((with_reducible refine xwB ?_ ?_); focus exact xaC) | ((with_reducible refine xwC ?_ ?_); focus exact xaC) | ((with_reducible refine xwD ?_ ?_); focus exact xaC) | ((with_reducible refine xwE ?_ ?_); focus exact xaC) | (with_reducible intro hc; (try simp only [capsP, and_true] at hc); (try exact xfC)) | ((fail_if_success (with_reducible first | refine xgon ?_ | intro _)); (conv => whnf); (fail_if_success (fail_if_success (with_reducible first | refine xstp ?_ | refine Both.mk ?_ ?_ | refine xgon ?_ | intro _)))))
    refine ⟨i, hi, List.getLast?_concat, ?_⟩
    repeat' (first | (fail_if_success (with_reducible refine xstp ?_)); first | ((fail_if_success (with_reducible first | refine xgon ?_ | intro _)); (conv => whnf); (fail_if_success (fail_if_success (with_reducible first | refine xstp ?_ | refine xgon ?_ | intro _)))))
    refine ManyK.mk ⟨.cells true (encPr 4 (W.M.getD i default).2.toNat (W.M.getD i default).2.toNat p (cf (W.M.getD i default).2.toNat)), by simp only [hp]; rfl, ?_⟩
    repeat' (first | (fail_if_success (with_reducible refine xstp ?_)); first | ((with_reducible refine And.intro (fun (hb : _ = true) => ?_) (fun (hb : _ = false) => ?_)) <;> replace hb := xnC hb <;> (try first | exact xfC | exact bff hb (by assumption) | exact bff (by assumption) hb)) | ((fail_if_success (with_reducible first | refine xgon ?_ | intro _)); (conv => whnf); (fail_if_success (fail_if_success (with_reducible first | refine xstp ?_ | refine xgon ?_ | intro _)))))
    all_goals (
      refine ManyK.mk ⟨.cells true (encPr 4 (W.M.getD i default).2.toNat (W.M.getD i default).2.toNat p (cf (W.M.getD i default).2.toNat)), by simp only [hp]; rfl, ?_⟩
      repeat' (first | (fail_if_success (with_reducible refine xstp ?_)); first | ((with_reducible refine And.intro (fun (hb : _ = true) => ?_) (fun (hb : _ = false) => ?_)) <;> replace hb := xnC hb <;> (try first | exact xfC | exact bff hb (by assumption) | exact bff (by assumption) hb)) | ((fail_if_success (with_reducible first | refine xgon ?_ | intro _)); (conv => whnf); (fail_if_success (fail_if_success (with_reducible first | refine xstp ?_ | refine xgon ?_ | intro _)))))
      skip)
    all_goals try (
      refine ManyK.mk ⟨.cells true (encPr 4 (W.M.getD i default).2.toNat (W.M.getD i default).2.toNat p (cf (W.M.getD i default).2.toNat)), by simp only [hp]; rfl, ?_⟩
      repeat' (first | (fail_if_success (with_reducible refine xstp ?_)); first | ((with_reducible refine And.intro (fun (hb : _ = true) => ?_) (fun (hb : _ = false) => ?_)) <;> replace hb := xnC hb <;> (try first | exact xfC | exact bff hb (by assumption) | exact bff (by assumption) hb)) | ((fail_if_success (with_reducible first | refine xgon ?_ | intro _)); (conv => whnf); (fail_if_success (fail_if_success (with_reducible first | refine xstp ?_ | refine xgon ?_ | intro _)))))
      skip)
    all_goals try (
      refine ManyK.mk ⟨.cells true (encPr 4 (W.M.getD i default).2.toNat (W.M.getD i default).2.toNat p (cf (W.M.getD i default).2.toNat)), by simp only [hp]; rfl, ?_⟩
      repeat' (first | (fail_if_success (with_reducible refine xstp ?_)); first | ((with_reducible refine And.intro (fun (hb : _ = true) => ?_) (fun (hb : _ = false) => ?_)) <;> replace hb := xnC hb <;> (try first | exact xfC | exact bff hb (by assumption) | exact bff (by assumption) hb)) | (with_reducible refine Both.mk ?_ ?_) | ((with_reducible refine And.intro ?_ ?_); focus exact xoC) | ((with_reducible refine Or.inl ⟨?_, ?_, ?_⟩); (focus rfl); focus exact xaC) | ((with_reducible refine xwB ?_ ?_); focus exact xaC) | ((with_reducible refine xwC ?_ ?_); focus exact xaC) | ((with_reducible refine xwD ?_ ?_); focus exact xaC) | ((with_reducible refine xwE ?_ ?_); focus exact xaC) | (with_reducible intro hc; (try simp only [capsP, and_true] at hc); (try exact xfC)) | ((fail_if_success (with_reducible first | refine xgon ?_ | intro _)); (conv => whnf); (fail_if_success (fail_if_success (with_reducible first | refine xstp ?_ | refine Both.mk ?_ ?_ | refine xgon ?_ | intro _)))))
      skip)
    all_goals try (
      fail_if_success (with_reducible refine FinK.mk ⟨_, _, _, ?_, ?_⟩)
      fail_if_success (with_reducible refine Exists.intro ?_ ?_)
      repeat' (first | (fail_if_success (with_reducible refine xstp ?_)); first | ((with_reducible refine And.intro (fun (hb : _ = true) => ?_) (fun (hb : _ = false) => ?_)) <;> replace hb := xnC hb <;> (try first | exact xfC | exact bff hb (by assumption) | exact bff (by assumption) hb)) | (with_reducible refine Both.mk ?_ ?_) | ((with_reducible refine And.intro ?_ ?_); focus exact xoC) | ((with_reducible refine Or.inl ⟨?_, ?_, ?_⟩); (focus rfl); focus exact xaC) | ((with_reducible refine xwB ?_ ?_); focus exact xaC) | ((with_reducible refine xwC ?_ ?_); focus exact xaC) | ((with_reducible refine xwD ?_ ?_); focus exact xaC) | ((with_reducible refine xwE ?_ ?_); focus exact xaC) | (with_reducible intro hc; (try simp only [capsP, and_true] at hc); (try exact xfC)) | ((fail_if_success (with_reducible first | refine xgon ?_ | intro _)); (conv => whnf); (fail_if_success (fail_if_success (with_reducible first | refine xstp ?_ | refine Both.mk ?_ ?_ | refine xgon ?_ | intro _)))))
      skip)
    all_goals first
      | (have hn : ndP sq p = true := by first | (simp [ndP, *]; done) | (simp [ndP, *]; omega)
         rw [nd_yes hi hp hn]
         refine FinK.mk ⟨[0, 1, 2, 3, 4], _, _, ⟨rfl, rfl⟩, ?_⟩; (repeat' first | refine And.intro ?_ ?_ | exact xeC | fail)
         all_goals (exact xmC)
         done)
      | (have hn : ndP sq p = false := by first | (simp [ndP, *]; done) | (simp [ndP, *]; omega)
         refine ⟨⟨Q ++ [i], hQ', fun j hj p' hp' => ?_⟩, [0, 1, 2, 3, 4, 5], by simp only [List.length_append, List.length_singleton]; omega, ?_⟩
         · rcases List.mem_append.1 hj with hj | hj
           · exact hno j hj p' hp'
           · rw [List.mem_singleton.1 hj, hp] at hp'
             exact Option.some.inj hp' ▸ hn
         · (repeat' first | refine And.intro ?_ ?_ | exact xeC | fail)
           all_goals first
             | (exact xmC)
             | (rw [List.map_append]; rfl)
         done)
      | skip
    all_goals trace_state
  · rw [nd_no hW fun i p hi hp => hno i (hQ.all hW hc i hi) p hp]
    refine FinK.mk ⟨[0, 1, 2, 3, 4], _, _, ⟨rfl, rfl⟩, ?_⟩; (repeat' first | refine And.intro ?_ ?_ | exact xeC | fail)
    all_goals (exact xmC)
end Go.Proofs.YtofcadbfjbefkaaGreat


namespace Go.Proofs.YtofcadbfjbefkaaGreat
open Go.X
set_option linter.unusedSimpArgs false
set_option linter.unusedVariables false
def W0 : Ws := ⟨[], 0, [], 0, fun _ => none⟩
theorem W0_ok : WOk W0 := ⟨fun i hi => absurd hi (Nat.not_lt_zero i), fun x p h => (by cases h), fun a b _ hb => absurd hb (Nat.not_lt_zero b), fun a b _ hb => absurd hb (Nat.not_lt_zero b), fun i hi => absurd hi (Nat.not_lt_zero i)⟩
/-- A writer in memory, whole. -/
abbrev wB (id per : Int) (q : Qos) (W : Ws) (c : Nat) (cf : Nat → Nat) : List Fam :=
  [.one (wrc 1 2 id per W.la q), .one (hist 3 q W.l.length c), .one (peM 4 W.M W.ck), .one (smps true W.l c), prs 5 W.D cf, rqs W.D cf]
def idOk (id per : Int) : Prop := (1 ≤ id ∧ id ≤ 1073741824) ∧ 1 ≤ per ∧ per ≤ 1099511627776
instance (a b : Int) : Decidable (idOk a b) := by unfold idOk; infer_instance
theorem rH18zoB0 {σ : List Sg} {H h' : List Fam} {v : T} {K : T → List Fam → Prop} {H' : List Fam} {v' : T} {N : Nat} (hk : K v' H') (hN : H.length = N := by (try simp only [↓List.length_cons, ↓List.length_nil, Nat.reduceAdd]) <;> rfl) (h : givesF σ N H σ h' = some H' := by (try simp (maxSteps := 1000000) only [givesF, setF, updF, Fam.zeroth, Fam.rk, Ck.rk, C.rk, E.rk, T.rk, key, List.map_cons, List.map_nil, List.cons_append, List.nil_append, List.length_cons, List.length_nil, Option.map_some, Option.bind_some, Nat.reduceAdd, Nat.zero_add, Nat.add_zero, Nat.add_sub_cancel_left, Int.toNat_natCast, reps, List.all_cons, List.all_nil, C.flat, List.append_eq, Bool.not_true, Bool.and_true, Bool.or_false, Bool.or_self, Bool.not_false, List.append_nil, Bool.and_self, ↓prC_rk, ↓rqO_rk, encQ]) <;> rfl) (hv : v.rk σ N = v' := by (try simp only [givesF, setF, updF, Fam.zeroth, Fam.rk, Ck.rk, C.rk, E.rk, T.rk, key, List.map_cons, List.map_nil, List.cons_append, List.nil_append, List.length_cons, List.length_nil, Option.map_some, Option.bind_some, Nat.reduceAdd, Nat.zero_add, Nat.add_zero, Nat.add_sub_cancel_left, Int.toNat_natCast, reps, List.all_cons, List.all_nil, C.flat, List.append_eq, Bool.not_true, Bool.and_true, Bool.or_false, Bool.or_self, Bool.not_false, List.append_nil, Bool.and_self, ↓prC_rk, ↓rqO_rk, encQ]) <;> rfl) : RetG σ H h' v K := ret_mk3 hN h hv hk
theorem cH18zoB2 {P : Program} {F : Nat} {args : List T} {H : List Fam} {K : T → List Fam → Prop} {σ : List Sg} {nl : List Fam} {args0 : List T} {h0 : List Fam} {Q : T → List Fam → Prop} {H2 H1 : List Fam} {N n : Nat} (hc : Ctr P F args0 h0 Q) (hk : ∀ v h', Q v h' → capsP h' → RetG σ H2 h' v K) (hap : apart σ = true := by rfl) (hnl : nl.all nilB = true := by rfl) (h1 : H ++ nl = H1 := by first | exact List.append_nil _ | ((try simp only [List.cons_append, List.nil_append]) <;> rfl)) (hN : H1.length = N := by (try simp only [↓List.length_cons, ↓List.length_nil, Nat.reduceAdd]) <;> rfl) (hn : H.length = n := by (try simp only [↓List.length_cons, ↓List.length_nil, Nat.reduceAdd]) <;> rfl) (hH : givesF σ N H1 σ h0 = some H2 := by (try simp (maxSteps := 1000000) only [givesF, setF, updF, Fam.zeroth, Fam.rk, Ck.rk, C.rk, E.rk, T.rk, key, List.map_cons, List.map_nil, List.cons_append, List.nil_append, List.length_cons, List.length_nil, Option.map_some, Option.bind_some, Nat.reduceAdd, Nat.zero_add, Nat.add_zero, Nat.add_sub_cancel_left, Int.toNat_natCast, reps, List.all_cons, List.all_nil, C.flat, List.append_eq, Bool.not_true, Bool.and_true, Bool.or_false, Bool.or_self, Bool.not_false, List.append_nil, Bool.and_self, ↓prC_rk, ↓rqO_rk]) <;> rfl) (hle : leS n H1 σ N σ h0 (belsK N (h0.map (Fam.rk σ N)) (argsK n args (args0.map (T.rk σ N)) True)) := by repeat' first | refine And.intro ?_ ?_ | exact xeC | fail) : CallK P F args H K := CallK.mk3 hc hap hnl h1 hN hn hH hle hk
set_option maxRecDepth 10000 in
set_option maxHeartbeats 4000000 in
theorem cnewW (id per : Int) (q : Qos) : Ctr Tryz.prog 6 [.c (.i .i64 id), .a (encQ q), .c (.i .i64 per)] []
      fun v h => ((idOk id per ∧ okQ q) ∧ v = .t [.c (.p 0 0 0), .c (.i .i64 0)] ∧ h = wB id per q W0 0 fun _ => 0) ∨ (¬ (idOk id per ∧ okQ q) ∧ v = .t [.c .nilp, .c (.i .i64 4)] ∧ h = []) := by
  refine Ctr.mk' tbv mixed Tryz.func6 rfl rfl rfl (fun _ _ => by kernel_rfl) (by kernel_rfl) (by rfl) (by rfl) (by (repeat' first | refine And.intro ?_ ?_ | exact xeC | fail)) ?_
  repeat' (first | (fail_if_success (with_reducible refine xstp ?_)); first | ((with_reducible refine And.intro (fun (hb : _ = true) => ?_) (fun (hb : _ = false) => ?_)) <;> replace hb := xnC hb <;> (try first | exact xfC | exact bff hb (by assumption) | exact bff (by assumption) hb)) | (with_reducible intro hc; (try simp only [capsP, and_true] at hc); (try exact xfC)) | ((fail_if_success (with_reducible first | refine xgon ?_ | intro _)); (conv => whnf); (fail_if_success (fail_if_success (with_reducible first | refine xstp ?_ | refine xgon ?_ | intro _)))))
  all_goals try (
    refine FinK.mk ⟨[], _, _, .inr ⟨fun h => by have := h.1; unfold idOk at this; omega, rfl, rfl⟩, ?_⟩
    (repeat' first | refine And.intro ?_ ?_ | exact xeC | fail)
    done)
  have hi : idOk id per := by unfold idOk; omega
  refine cH18zoB2 (σ := []) (nl := []) (inew q) ?_
  rintro v h' (⟨hq, rfl, rfl⟩ | ⟨hq, rfl, rfl⟩) hcaps
  · refine rH18zoB0 ?_
    repeat' (first | (fail_if_success (with_reducible refine xstp ?_)); first | ((with_reducible refine And.intro (fun (hb : _ = true) => ?_) (fun (hb : _ = false) => ?_)) <;> replace hb := xnC hb <;> (try first | exact xfC | exact bff hb (by assumption) | exact bff (by assumption) hb)) | ((fail_if_success (with_reducible first | refine xgon ?_ | intro _)); (conv => whnf); (fail_if_success (fail_if_success (with_reducible first | refine xstp ?_ | refine xgon ?_ | intro _)))))
    refine FinK.mk ⟨[4, 1, 3, 2, 99, 98], _, _, .inl ⟨⟨hi, hq⟩, rfl, rfl⟩, ?_⟩
    (repeat' first | refine And.intro ?_ ?_ | exact xeC | fail)
    all_goals first | (exact xmC) | exact fun _ => rfl | exact fun i hi => absurd hi (Nat.not_lt_zero i) | skip
    all_goals trace_state
  · refine rH18zoB0 ?_
    repeat' (first | (fail_if_success (with_reducible refine xstp ?_)); first | ((with_reducible refine And.intro (fun (hb : _ = true) => ?_) (fun (hb : _ = false) => ?_)) <;> replace hb := xnC hb <;> (try first | exact xfC | exact bff hb (by assumption) | exact bff (by assumption) hb)) | ((fail_if_success (with_reducible first | refine xgon ?_ | intro _)); (conv => whnf); (fail_if_success (fail_if_success (with_reducible first | refine xstp ?_ | refine xgon ?_ | intro _)))))
    refine FinK.mk ⟨[], _, _, .inr ⟨fun h => hq h.2, rfl, rfl⟩, ?_⟩
    (repeat' first | refine And.intro ?_ ?_ | exact xeC | fail)

/-! ### Acked, Unmatch -/
def Ws.acked (W : Ws) (r : Int) : Int := match W.get r with | some p => p.ac | none => 0
set_option maxRecDepth 10000 in
set_option maxHeartbeats 4000000 in
theorem cacked (id per la : Int) (q : Qos) (W : Ws) (cf : Nat → Nat) (r : Int) (hW : WOk W) :
    Ctr Tryz.prog 22 [.c (.p 0 0 0), .c (.i .i64 r)] [.one (wrc 1 2 id per la q), .one .no, .one (peM 3 W.M W.ck), prs 4 W.D cf, .one .no]
      fun v h => v = .c (.i .i64 (W.acked r)) ∧ h = [.one (wrc 1 2 id per la q), .one .no, .one (peM 3 W.M W.ck), prs 4 W.D cf, .one .no] := by
  refine Ctr.mk' tbv mixed Tryz.func22 rfl rfl rfl (fun _ _ => by kernel_rfl) (by kernel_rfl) (by rfl) (by rfl) (by (repeat' first | refine And.intro ?_ ?_ | exact xeC | fail) <;> exact xmC) ?_
  repeat' (first | (fail_if_success (with_reducible refine xstp ?_)); first | (with_reducible refine Both.mk ?_ ?_) | ((with_reducible refine And.intro ?_ ?_); focus exact xoC) | (with_reducible intro hc; (try simp only [capsP, and_true] at hc); (try exact xfC)) | ((fail_if_success (with_reducible first | refine xgon ?_ | intro _)); (conv => whnf); (fail_if_success (fail_if_success (with_reducible first | refine xstp ?_ | refine Both.mk ?_ ?_ | refine xgon ?_ | intro _)))))
  · rename_i i hi hk j hj
    obtain ⟨p, hm, hD, h1⟩ := getP_yes hW hj (Key.i.inj hc)
    have e1 : (W.M.getD j default).2 = r := Key.i.inj hc
    refine ManyK.mk ⟨.cells true (encPr 4 r.toNat r.toNat p (cf r.toNat)), by simp only [e1, hD]; rfl, ?_⟩
    repeat' (first | (fail_if_success (with_reducible refine xstp ?_)); first | ((fail_if_success (with_reducible first | refine xgon ?_ | intro _)); (conv => whnf); (fail_if_success (fail_if_success (with_reducible first | refine xstp ?_ | refine xgon ?_ | intro _)))))
    have e2 : W.acked r = p.ac := by unfold Ws.acked; rw [hm]
    rw [e2]
    refine FinK.mk ⟨[0, 1, 2, 3, 4], _, _, ⟨rfl, rfl⟩, ?_⟩; (repeat' first | refine And.intro ?_ ?_ | exact xeC | fail)
    all_goals (exact xmC)
  · exact absurd (by assumption) (hc _ (by assumption))
  · have hn := getP_no hW (w := r) fun i hi h => hc i hi (by rw [h])
    have e2 : W.acked r = 0 := by unfold Ws.acked; rw [hn]
    rw [e2]
    refine FinK.mk ⟨[0, 1, 2, 3, 4], _, _, ⟨rfl, rfl⟩, ?_⟩; (repeat' first | refine And.intro ?_ ?_ | exact xeC | fail)
    all_goals (exact xmC)
def unW (r : Int) (W : Ws) : Ws := if (W.get r).isSome then ⟨W.l, W.la, W.M.filter fun e => decide (e.2 ≠ r), W.ck, fun y => if y = r.toNat then none else W.D y⟩ else W
def unE (r : Int) (W : Ws) : Int := if (W.get r).isSome then 0 else 6
theorem un_erase {W : Ws} (hW : WOk W) {k : Nat} (hk : k < W.M.length) {w : Int} (hw : (W.M.getD k default).2 = w) : (W.M.filter fun e => decide (e.2 ≠ w)) = W.M.eraseIdx k := by
  have hp := hW.ne
  generalize W.M = M at *
  subst hw
  have hne : ∀ a, a < M.length → a ≠ k → (M.getD a default).2 ≠ (M.getD k default).2 := fun a ha hak => by
    rcases Nat.lt_or_gt_of_ne hak with h | h
    · exact hp a k h hk
    · exact (hp k a h ha).symm
  generalize hv : (M.getD k default).2 = v at hne
  clear hp
  induction M generalizing k with
  | nil => cases hk
  | cons a M ih =>
    cases k with
    | zero =>
      rw [List.eraseIdx_cons_zero, List.filter_cons_of_neg (by simp only [decide_eq_true_eq, ne_eq, Decidable.not_not]; exact hv)]
      refine List.filter_eq_self.2 fun e he => decide_eq_true fun h => ?_
      obtain ⟨i, hi, rfl⟩ := List.mem_iff_getElem.1 he
      exact hne (i + 1) (by simpa using hi) (by omega) (by simpa [List.getD, hi] using h)
    | succ k =>
      have h0 : a.2 ≠ v := hne 0 (by simp) (by omega)
      rw [List.eraseIdx_cons_succ, List.filter_cons_of_pos (by simpa using h0), ih (k := k) (by simpa using hk) (by simpa using hv) fun b hb hbk => by
        have := hne (b + 1) (by simpa using hb) (by omega)
        simpa using this]
theorem prs_un {F N N' : Nat} {σ : List Sg} {W : Ws} {cf : Nat → Nat} {w : Int} (hk : ∀ x, key σ N' F x = (F, x)) (x : Nat) : (prC F x x (W.D x) (cf x)).leK N ((prC F x x ((unW w W).D x) (cf x)).rk σ N') True := by
  unfold unW
  split
  · show Ck.leK _ _ (Ck.rk _ _ (prC F x x (if _ then _ else _) _)) True
    split
    · trivial
    · exact prC_le (hk _)
  · exact prC_le (hk _)
theorem rqs_un {N N' : Nat} {σ : List Sg} {W : Ws} {cf : Nat → Nat} {w : Int} (x : Nat) : (rqO (W.D x) (cf x)).leK N ((rqO ((unW w W).D x) (cf x)).rk σ N') True := by
  unfold unW
  split
  · show Ck.leK _ _ (Ck.rk _ _ (rqO (if _ then _ else _) _)) True
    split
    · trivial
    · exact rqO_le
  · exact rqO_le
def skipI (k i : Nat) : Nat := if i < k then i else i + 1
theorem skip_getD {M : List (Nat × Int)} {k i : Nat} : (M.eraseIdx k).getD i default = M.getD (skipI k i) default := by
  unfold skipI
  rw [List.getD_eq_getElem?_getD, List.getD_eq_getElem?_getD, List.getElem?_eraseIdx]
  split <;> rfl
set_option maxRecDepth 10000 in
set_option maxHeartbeats 4000000 in
theorem cunW (id per la : Int) (q : Qos) (W : Ws) (cf : Nat → Nat) (r : Int) (hW : WOk W) :
    Ctr Tryz.prog 12 [.c (.p 0 0 0), .c (.i .i64 r)] [.one (wrc 1 2 id per la q), .one .no, .one (peM 3 W.M W.ck), prs 4 W.D cf, .one .no]
      fun v h => v = .c (.i .i64 (unE r W)) ∧ h = [.one (wrc 1 2 id per la q), .one .no, .one (peM 3 (unW r W).M (unW r W).ck), prs 4 (unW r W).D cf, .one .no] := by
  refine Ctr.mk' tbv mixed Tryz.func12 rfl rfl rfl (fun _ _ => by kernel_rfl) (by kernel_rfl) (by rfl) (by rfl) (by (repeat' first | refine And.intro ?_ ?_ | exact xeC | fail) <;> exact xmC) ?_
  repeat' (first | (fail_if_success (with_reducible refine xstp ?_)); first | (with_reducible refine Both.mk ?_ ?_) | ((with_reducible refine And.intro ?_ ?_); focus exact xoC) | (with_reducible intro hc; (try simp only [capsP, and_true] at hc); (try exact xfC)) | ((fail_if_success (with_reducible first | refine xgon ?_ | intro _)); (conv => whnf); (fail_if_success (fail_if_success (with_reducible first | refine xstp ?_ | refine Both.mk ?_ ?_ | refine xgon ?_ | intro _)))))
  · rename_i a ha hak k hk
    have hw : (W.M.getD k default).2 = r := Key.i.inj hc
    obtain ⟨m, hm, hD, h1⟩ := getP_yes hW hk hw
    have hg : (W.get r).isSome = true := by rw [hm]; rfl
    have e2 : unE r W = 0 := by unfold unE; rw [if_pos hg]
    have eM : (unW r W).M = W.M.eraseIdx k := by unfold unW; rw [if_pos hg]; exact un_erase hW hk hw
    have eck : (unW r W).ck = W.ck := by unfold unW; rw [if_pos hg]
    have el : (W.M.eraseIdx k).length = W.M.length - 1 := List.length_eraseIdx_of_lt hk
    rw [e2, eM, eck]
    refine FinK.mk ⟨[0, 1, 2, 3, 4], _, _, ⟨rfl, rfl⟩, ?_⟩
    (repeat' first | refine And.intro ?_ ?_ | exact xeC | fail)
    all_goals first
      | exact el.symm
      | exact fun x => prs_un (fun _ => rfl) x
      | exact fun x => prC_bel rfl
      | (intro j hj
         dsimp only
         rw [skip_getD]
         unfold skipI
         split <;> rfl)
      | skip
    all_goals trace_state
  · exact absurd (by assumption) (hc _ (by assumption))
  · have hn := getP_no hW (w := r) fun i hi h => hc i hi (by rw [h])
    have e2 : unE r W = 6 := by unfold unE; rw [hn]; rfl
    have e3 : unW r W = W := by unfold unW; rw [hn]; rfl
    rw [e2, e3]
    refine FinK.mk ⟨[0, 1, 2, 3, 4], _, _, ⟨rfl, rfl⟩, ?_⟩; (repeat' first | refine And.intro ?_ ?_ | exact xeC | fail)
    all_goals (exact xmC)

/-! ### Held -/
theorem rH18zoB1 {σ : List Sg} {H h' : List Fam} {v : T} {K : T → List Fam → Prop} {H' : List Fam} {v' : T} {N : Nat} (hk : K v' H') (hN : H.length = N := by (try simp only [↓List.length_cons, ↓List.length_nil, Nat.reduceAdd]) <;> rfl) (h : givesF σ N H σ h' = some H' := by (try simp (maxSteps := 1000000) only [givesF, setF, updF, Fam.zeroth, Fam.rk, Ck.rk, C.rk, E.rk, T.rk, key, List.map_cons, List.map_nil, List.cons_append, List.nil_append, List.length_cons, List.length_nil, Option.map_some, Option.bind_some, Nat.reduceAdd, Nat.zero_add, Nat.add_zero, Nat.add_sub_cancel_left, Int.toNat_natCast, reps, List.all_cons, List.all_nil, C.flat, List.append_eq, Bool.not_true, Bool.and_true, Bool.or_false, Bool.or_self, Bool.not_false, List.append_nil, Bool.and_self, ↓prC_rk, ↓rqO_rk]) <;> rfl) (hv : v.rk σ N = v' := by (try simp only [givesF, setF, updF, Fam.zeroth, Fam.rk, Ck.rk, C.rk, E.rk, T.rk, key, List.map_cons, List.map_nil, List.cons_append, List.nil_append, List.length_cons, List.length_nil, Option.map_some, Option.bind_some, Nat.reduceAdd, Nat.zero_add, Nat.add_zero, Nat.add_sub_cancel_left, Int.toNat_natCast, reps, List.all_cons, List.all_nil, C.flat, List.append_eq, Bool.not_true, Bool.and_true, Bool.or_false, Bool.or_self, Bool.not_false, List.append_nil, Bool.and_self, ↓prC_rk, ↓rqO_rk]) <;> rfl) : RetG σ H h' v K := ret_mk3 hN h hv hk
set_option maxRecDepth 10000 in
theorem cheld (id per la : Int) (q : Qos) (l : List Smp) (c : Nat) (hl : l.length ≤ 1000000) :
    Ctr Tryz.prog 25 [.c (.p 0 0 0)] [.one (wrc 1 2 id per la q), .one (hist 3 q l.length c), .one .no, .one (smps true l c)]
      fun v h => ∃ c', v = .c (.sl 4 0 4 0 l.length c') ∧ h = [.one (wrc 1 2 id per la q), .one (hist 3 q l.length c), .one .no, .one (smps true l c), .one (smps true l c')] := by
  refine Ctr.mk' tbv mixed Tryz.func25 rfl rfl rfl (fun _ _ => by kernel_rfl) (by kernel_rfl) (by rfl) (by rfl) (by (repeat' first | refine And.intro ?_ ?_ | exact xeC | fail)) ?_
  repeat' (first | (fail_if_success (with_reducible refine xstp ?_)); first | (with_reducible intro hc; (try simp only [capsP, and_true] at hc); (try exact xfC)) | ((fail_if_success (with_reducible first | refine xgon ?_ | intro _)); (conv => whnf); (fail_if_success (fail_if_success (with_reducible first | refine xstp ?_ | refine xgon ?_ | intro _)))))
  refine cH18zoB2 (σ := [.whole 1, .whole 3]) (nl := []) (ilist q l c hl) ?_
  rintro v h' ⟨c', rfl, rfl⟩ hcaps
  refine rH18zoB1 ?_
  repeat' (first | (fail_if_success (with_reducible refine xstp ?_)); first | ((fail_if_success (with_reducible first | refine xgon ?_ | intro _)); (conv => whnf); (fail_if_success (fail_if_success (with_reducible first | refine xstp ?_ | refine xgon ?_ | intro _)))))
  refine FinK.mk ⟨[0, 1, 2, 3, 4], _, _, ⟨c', rfl, rfl⟩, ?_⟩
  (repeat' first | refine And.intro ?_ ?_ | exact xeC | fail)

/-! ### Next -/
def cand (W : Ws) (x : Nat) : Option Int := match W.D x with | some p => if p.rel = true ∧ p.ac < W.la then some p.bt else none | none => none
/-- The least time of the heartbeats that are wanted, if there are any. -/
def IsNx (W : Ws) (S : Nat → Prop) (b : Int) (is : Bool) : Prop := (is = false ∧ b = 0 ∧ ∀ i, S i → cand W (W.M.getD i default).2.toNat = none) ∨
  (is = true ∧ (∃ i, S i ∧ cand W (W.M.getD i default).2.toNat = some b) ∧ ∀ i t, S i → cand W (W.M.getD i default).2.toNat = some t → b ≤ t)
theorem nx_skip {W : Ws} {Q : List Nat} {b : Int} {is : Bool} {i : Nat} (h : IsNx W (· ∈ Q) b is) (hi : cand W (W.M.getD i default).2.toNat = none) : IsNx W (· ∈ Q ++ [i]) b is := by
  rcases h with ⟨h1, h2, h3⟩ | ⟨h1, ⟨j, hj, h2⟩, h3⟩
  · refine .inl ⟨h1, h2, fun j hj => ?_⟩
    rcases List.mem_append.1 hj with hj | hj
    · exact h3 j hj
    · rw [List.mem_singleton.1 hj]; exact hi
  · refine .inr ⟨h1, ⟨j, List.mem_append_left _ hj, h2⟩, fun k t hk ht => ?_⟩
    rcases List.mem_append.1 hk with hk | hk
    · exact h3 k t hk ht
    · rw [List.mem_singleton.1 hk, hi] at ht; cases ht
theorem nx_worse {W : Ws} {Q : List Nat} {b t : Int} {is : Bool} {i : Nat} (h : IsNx W (· ∈ Q) b is) (hi : cand W (W.M.getD i default).2.toNat = some t) (h1 : is = true) (h2 : b ≤ t) : IsNx W (· ∈ Q ++ [i]) b is := by
  rcases h with ⟨h3, _⟩ | ⟨_, ⟨j, hj, h3⟩, h4⟩
  · rw [h1] at h3; cases h3
  · refine .inr ⟨h1, ⟨j, List.mem_append_left _ hj, h3⟩, fun k t' hk ht => ?_⟩
    rcases List.mem_append.1 hk with hk | hk
    · exact h4 k t' hk ht
    · rw [List.mem_singleton.1 hk, hi] at ht; rw [← Option.some.inj ht]; exact h2
theorem nx_better {W : Ws} {Q : List Nat} {b t : Int} {is : Bool} {i : Nat} (h : IsNx W (· ∈ Q) b is) (hi : cand W (W.M.getD i default).2.toNat = some t) (h2 : is = false ∨ t < b) : IsNx W (· ∈ Q ++ [i]) t true := by
  refine .inr ⟨rfl, ⟨i, List.mem_append_right _ (List.mem_singleton.2 rfl), hi⟩, fun k t' hk ht => ?_⟩
  rcases List.mem_append.1 hk with hk | hk
  · rcases h with ⟨_, _, h5⟩ | ⟨h4, _, h5⟩
    · rw [h5 k hk] at ht; cases ht
    · have := h5 k t' hk ht
      rcases h2 with h2 | h2
      · rw [h2] at h4; cases h4
      · omega
  · rw [List.mem_singleton.1 hk, hi] at ht; rw [← Option.some.inj ht]; exact Int.le_refl _
set_option maxRecDepth 10000 in
set_option maxHeartbeats 8000000 in
theorem cnext (id per : Int) (q : Qos) (W : Ws) (cf : Nat → Nat) (hW : WOk W) :
    Ctr Tryz.prog 20 [.c (.p 0 0 0)] [.one (wrc 1 2 id per W.la q), .one .no, .one (peM 3 W.M W.ck), prs 4 W.D cf, .one .no]
      fun v h => ∃ b is, IsNx W (· < W.M.length) b is ∧ v = .t [.c (.i .i64 b), .c (.b is)] ∧ h = [.one (wrc 1 2 id per W.la q), .one .no, .one (peM 3 W.M W.ck), prs 4 W.D cf, .one .no] := by
  refine Ctr.mk' tbv mixed Tryz.func20 rfl rfl rfl (fun _ _ => by kernel_rfl) (by kernel_rfl) (by rfl) (by rfl) (by (repeat' first | refine And.intro ?_ ?_ | exact xeC | fail) <;> exact xmC) ?_
  repeat' (first | (fail_if_success (with_reducible refine xstp ?_)); first | (with_reducible intro hc; (try simp only [capsP, and_true] at hc); (try exact xfC)) | ((fail_if_success (with_reducible first | refine xgon ?_ | intro _)); (conv => whnf); (fail_if_success (fail_if_success (with_reducible first | refine xstp ?_ | refine xgon ?_ | intro _)))))
  refine LoopK.mk' {k : List Nat × Int × Bool // Seen W k.1 ∧ IsNx W (· ∈ k.1) k.2.1 k.2.2}
    (fun ⟨(Q, b, is), _⟩ => ⟨[(0, .c (.p 0 0 0)), (4, .c (.i .i64 b)), (5, .c (.b is)), (14, .c (.p 5 0 0))], [.one (wrc 1 2 id per W.la q), .one .no, .one (peM 3 W.M W.ck), prs 4 W.D cf, .one .no, .one (.iter 2 0 W.ck (Q.map fun q => (W.M.getD q default).1))]⟩) (fun k => W.M.length - k.1.1.length)
    ⟨⟨([], 0, false), ⟨by simp, by simp⟩, .inl ⟨rfl, rfl, by simp⟩⟩, [0, 1, 2, 3, 4, 5], ?_⟩ ?_
  · (repeat' first | refine And.intro ?_ ?_ | exact xeC | fail)
    all_goals (exact xmC)
  rintro ⟨⟨Q, b, is⟩, hQ, hnx⟩
  simp only at hQ hnx
  have hQl := hQ.le
  repeat' (first | (fail_if_success (with_reducible refine xstp ?_)); first | (with_reducible refine Both.mk ?_ ?_) | ((with_reducible refine And.intro ?_ ?_); focus exact xoC) | (with_reducible intro hc; (try simp only [capsP, and_true] at hc); (try exact xfC)) | ((fail_if_success (with_reducible first | refine xgon ?_ | intro _)); (conv => whnf); (fail_if_success (fail_if_success (with_reducible first | refine xstp ?_ | refine Both.mk ?_ ?_ | refine xgon ?_ | intro _)))))
  rotate_left 1
  · refine FinK.mk ⟨[0, 1, 2, 3, 4], _, _, ⟨b, is, ?_, rfl, rfl⟩, ?_⟩
    · have hall := hQ.all hW hc
      rcases hnx with ⟨h1, h2, h3⟩ | ⟨h1, ⟨j, hj, h2⟩, h3⟩
      · exact .inl ⟨h1, h2, fun i hi => h3 i (hall i hi)⟩
      · exact .inr ⟨h1, ⟨j, hQ.lt j hj, h2⟩, fun i t hi => h3 i t (hall i hi)⟩
    · (repeat' first | refine And.intro ?_ ?_ | exact xeC | fail)
      all_goals (exact xmC)
  rename_i i hi
  have hQ' := hQ.next hi hc
  have hQl' := hQ'.le
  rw [List.length_append, List.length_singleton] at hQl'
  obtain ⟨_, p, hp⟩ := hW.a i hi
  repeat' (first | (fail_if_success (with_reducible refine xstp ?_)); first | ((with_reducible refine And.intro (fun (hb : _ = true) => ?_) (fun (hb : _ = false) => ?_)) <;> replace hb := xnC hb <;> (try first | exact xfC | exact bff hb (by assumption) | exact bff (by assumption) hb)) | (with_reducible refine Both.mk ?_ ?_) | ((with_reducible refine And.intro ?_ ?_); focus exact xoC) | ((with_reducible refine Or.inl ⟨?_, ?_, ?_⟩); (focus rfl); focus exact xaC) | ((with_reducible refine xwB ?_ ?_); focus exact xaC) | ((with_reducible refine xwC ?_ ?_); focus exact xaC) | ((with_reducible refine xwD ?_ ?_); focus exact xaC) | ((with_reducible refine xwE ?_ ?_); focus exact xaC) | (with_reducible intro hc; (try simp only [capsP, and_true] at hc); (try exact xfC)) | ((fail_if_success (with_reducible first | refine xgon ?_ | intro _)); (conv => whnf); (fail_if_success (fail_if_success (with_reducible first | refine xstp ?_ | refine Both.mk ?_ ?_ | refine xgon ?_ | intro _)))))
  refine ⟨i, hi, List.getLast?_concat, ?_⟩
  repeat' (first | (fail_if_success (with_reducible refine xstp ?_)); first | ((fail_if_success (with_reducible first | refine xgon ?_ | intro _)); (conv => whnf); (fail_if_success (fail_if_success (with_reducible first | refine xstp ?_ | refine xgon ?_ | intro _)))))
  refine ManyK.mk ⟨.cells true (encPr 4 (W.M.getD i default).2.toNat (W.M.getD i default).2.toNat p (cf (W.M.getD i default).2.toNat)), by simp only [hp]; rfl, ?_⟩
  repeat' (first | (fail_if_success (with_reducible refine xstp ?_)); first | ((with_reducible refine And.intro (fun (hb : _ = true) => ?_) (fun (hb : _ = false) => ?_)) <;> replace hb := xnC hb <;> (try first | exact xfC | exact bff hb (by assumption) | exact bff (by assumption) hb)) | ((fail_if_success (with_reducible first | refine xgon ?_ | intro _)); (conv => whnf); (fail_if_success (fail_if_success (with_reducible first | refine xstp ?_ | refine xgon ?_ | intro _)))))
  all_goals try (
    refine ManyK.mk ⟨.cells true (encPr 4 (W.M.getD i default).2.toNat (W.M.getD i default).2.toNat p (cf (W.M.getD i default).2.toNat)), by simp only [hp]; rfl, ?_⟩
    repeat' (first | (fail_if_success (with_reducible refine xstp ?_)); first | ((with_reducible refine And.intro (fun (hb : _ = true) => ?_) (fun (hb : _ = false) => ?_)) <;> replace hb := xnC hb <;> (try first | exact xfC | exact bff hb (by assumption) | exact bff (by assumption) hb)) | ((fail_if_success (with_reducible first | refine xgon ?_ | intro _)); (conv => whnf); (fail_if_success (fail_if_success (with_reducible first | refine xstp ?_ | refine xgon ?_ | intro _)))))
    skip)
  all_goals try (
    refine ManyK.mk ⟨.cells true (encPr 4 (W.M.getD i default).2.toNat (W.M.getD i default).2.toNat p (cf (W.M.getD i default).2.toNat)), by simp only [hp]; rfl, ?_⟩
    repeat' (first | (fail_if_success (with_reducible refine xstp ?_)); first | ((with_reducible refine And.intro (fun (hb : _ = true) => ?_) (fun (hb : _ = false) => ?_)) <;> replace hb := xnC hb <;> (try first | exact xfC | exact bff hb (by assumption) | exact bff (by assumption) hb)) | ((fail_if_success (with_reducible first | refine xgon ?_ | intro _)); (conv => whnf); (fail_if_success (fail_if_success (with_reducible first | refine xstp ?_ | refine xgon ?_ | intro _)))))
    skip)
  all_goals try (
    refine ManyK.mk ⟨.cells true (encPr 4 (W.M.getD i default).2.toNat (W.M.getD i default).2.toNat p (cf (W.M.getD i default).2.toNat)), by simp only [hp]; rfl, ?_⟩
    repeat' (first | (fail_if_success (with_reducible refine xstp ?_)); first | ((fail_if_success (with_reducible first | refine xgon ?_ | intro _)); (conv => whnf); (fail_if_success (fail_if_success (with_reducible first | refine xstp ?_ | refine xgon ?_ | intro _)))))
    skip)
  all_goals first
    | (have h5 : p.rel = false := by assumption
       have hn : cand W (W.M.getD i default).2.toNat = none := by unfold cand; rw [hp]; exact if_neg (fun h => by rw [h5] at h; cases h.1)
       have h2 := nx_skip hnx hn
       refine ⟨⟨(Q ++ [i], b, is), hQ', h2⟩, [0, 1, 2, 3, 4, 5], by simp only [List.length_append, List.length_singleton]; omega, ?_⟩
       (repeat' first | refine And.intro ?_ ?_ | exact xeC | fail)
       all_goals first
         | (exact xmC)
         | (rw [List.map_append]; rfl)
       done)
    | (have h6 : W.la ≤ p.ac := by assumption
       have hn : cand W (W.M.getD i default).2.toNat = none := by unfold cand; rw [hp]; exact if_neg (fun h => by have := h.2; omega)
       have h2 := nx_skip hnx hn
       refine ⟨⟨(Q ++ [i], b, is), hQ', h2⟩, [0, 1, 2, 3, 4, 5], by simp only [List.length_append, List.length_singleton]; omega, ?_⟩
       (repeat' first | refine And.intro ?_ ?_ | exact xeC | fail)
       all_goals first
         | (exact xmC)
         | (rw [List.map_append]; rfl)
       done)
    | (have hn : cand W (W.M.getD i default).2.toNat = some p.bt := by unfold cand; rw [hp]; exact if_pos ⟨by assumption, by assumption⟩
       have h6 : p.ac < W.la := by assumption
       have h7 : b ≤ p.bt := by assumption
       have h2 := nx_worse hnx hn (by assumption) h7
       refine ⟨⟨(Q ++ [i], b, is), hQ', h2⟩, [0, 1, 2, 3, 4, 5], by simp only [List.length_append, List.length_singleton]; omega, ?_⟩
       (repeat' first | refine And.intro ?_ ?_ | exact xeC | fail)
       all_goals first
         | (exact xmC)
         | (rw [List.map_append]; rfl)
       done)
    | (have hn : cand W (W.M.getD i default).2.toNat = some p.bt := by unfold cand; rw [hp]; exact if_pos ⟨by assumption, by assumption⟩
       have h2 := nx_better hnx hn (by first | exact .inl (by assumption) | exact .inr (by omega))
       refine ⟨⟨(Q ++ [i], p.bt, true), hQ', h2⟩, [0, 1, 2, 3, 4, 5], by simp only [List.length_append, List.length_singleton]; omega, ?_⟩
       (repeat' first | refine And.intro ?_ ?_ | exact xeC | fail)
       all_goals first
         | (exact xmC)
         | (rw [List.map_append]; rfl)
       done)
    | skip
  all_goals trace_state
end Go.Proofs.YtofcadbfjbefkaaGreat


namespace Go.Proofs.YtofcadbfjbefkaaGreat
open Go.X
set_option linter.unusedSimpArgs false
set_option linter.unusedVariables false
def prnS (id : Int) (W : Ws) (m : List Smp) (s : Smp) : List Smp := if ndB s.q W then m else m.filter fun x => !isS id s.q x
/-- The samples behind the pruning. -/
def prn (id : Int) (q : Qos) (W : Ws) : List Smp := if q.keep = true ∧ q.dur = false then W.l.foldl (prnS id W) W.l else W.l
def smpW (id : Int) (W : Ws) (at' : Int) (p : ByteArray) : Smp := ⟨id, W.la + 1, at', p⟩
def wrE (id : Int) (q : Qos) (W : Ws) (at' : Int) (p : ByteArray) : Int := addE q (prn id q W) (smpW id W at' p)
def wrN (id : Int) (q : Qos) (W : Ws) (at' : Int) (p : ByteArray) : Int := if wrE id q W at' p = 0 then W.la + 1 else 0
def wrW (id : Int) (q : Qos) (W : Ws) (at' : Int) (p : ByteArray) : Ws := ⟨newS q (prn id q W) (smpW id W at' p), if wrE id q W at' p = 0 then W.la + 1 else W.la, W.M, W.ck, W.D⟩
theorem prn_len (id : Int) (W : Ws) : ∀ (t m : List Smp), (t.foldl (prnS id W) m).length ≤ m.length
  | [], m => Nat.le_refl _
  | s :: t, m => by
    refine Nat.le_trans (prn_len id W t _) ?_
    unfold prnS
    split
    · exact Nat.le_refl _
    · exact List.length_filter_le _ _
theorem prn_succ (id : Int) (W : Ws) {k : Nat} (hk : k < W.l.length) : (W.l.take (k + 1)).foldl (prnS id W) W.l = prnS id W ((W.l.take k).foldl (prnS id W) W.l) (W.l.getD k default) := by
  rw [← List.take_append_getElem hk, List.foldl_append, getD_at hk]
  rfl
abbrev wA (id per : Int) (q : Qos) (W : Ws) (c : Nat) (cf : Nat → Nat) : List Fam :=
  [.one (wrc 1 2 id per W.la q), .one (hist 6 q W.l.length c), .one (peM 4 W.M W.ck), .one .no, prs 5 W.D cf, rqs W.D cf, .one (smps true W.l c)]
theorem rH18zoC0 {σ : List Sg} {H h' : List Fam} {v : T} {K : T → List Fam → Prop} {H' : List Fam} {v' : T} {N : Nat} (hk : K v' H') (hN : H.length = N := by (try simp only [↓List.length_cons, ↓List.length_nil, Nat.reduceAdd]) <;> rfl) (h : givesF σ N H σ h' = some H' := by (try simp (maxSteps := 1000000) only [givesF, setF, updF, Fam.zeroth, Fam.rk, Ck.rk, C.rk, E.rk, T.rk, key, List.map_cons, List.map_nil, List.cons_append, List.nil_append, List.length_cons, List.length_nil, Option.map_some, Option.bind_some, Nat.reduceAdd, Nat.zero_add, Nat.add_zero, Nat.add_sub_cancel_left, Int.toNat_natCast, reps, List.all_cons, List.all_nil, C.flat, List.append_eq, Bool.not_true, Bool.and_true, Bool.or_false, Bool.or_self, Bool.not_false, List.append_nil, Bool.and_self, ↓prC_rk, ↓rqO_rk, encS]) <;> rfl) (hv : v.rk σ N = v' := by (try simp only [givesF, setF, updF, Fam.zeroth, Fam.rk, Ck.rk, C.rk, E.rk, T.rk, key, List.map_cons, List.map_nil, List.cons_append, List.nil_append, List.length_cons, List.length_nil, Option.map_some, Option.bind_some, Nat.reduceAdd, Nat.zero_add, Nat.add_zero, Nat.add_sub_cancel_left, Int.toNat_natCast, reps, List.all_cons, List.all_nil, C.flat, List.append_eq, Bool.not_true, Bool.and_true, Bool.or_false, Bool.or_self, Bool.not_false, List.append_nil, Bool.and_self, ↓prC_rk, ↓rqO_rk, encS]) <;> rfl) : RetG σ H h' v K := ret_mk3 hN h hv hk
theorem rH18zoC1 {σ : List Sg} {H h' : List Fam} {v : T} {K : T → List Fam → Prop} {H' : List Fam} {v' : T} {N : Nat} (hk : K v' H') (hN : H.length = N := by (try simp only [↓List.length_cons, ↓List.length_nil, Nat.reduceAdd]) <;> rfl) (h : givesF σ N H σ h' = some H' := by (try simp (maxSteps := 1000000) only [givesF, setF, updF, Fam.zeroth, Fam.rk, Ck.rk, C.rk, E.rk, T.rk, key, List.map_cons, List.map_nil, List.cons_append, List.nil_append, List.length_cons, List.length_nil, Option.map_some, Option.bind_some, Nat.reduceAdd, Nat.zero_add, Nat.add_zero, Nat.add_sub_cancel_left, Int.toNat_natCast, reps, List.all_cons, List.all_nil, C.flat, List.append_eq, Bool.not_true, Bool.and_true, Bool.or_false, Bool.or_self, Bool.not_false, List.append_nil, Bool.and_self, ↓prC_rk, ↓rqO_rk]) <;> rfl) (hv : v.rk σ N = v' := by (try simp only [givesF, setF, updF, Fam.zeroth, Fam.rk, Ck.rk, C.rk, E.rk, T.rk, key, List.map_cons, List.map_nil, List.cons_append, List.nil_append, List.length_cons, List.length_nil, Option.map_some, Option.bind_some, Nat.reduceAdd, Nat.zero_add, Nat.add_zero, Nat.add_sub_cancel_left, Int.toNat_natCast, reps, List.all_cons, List.all_nil, C.flat, List.append_eq, Bool.not_true, Bool.and_true, Bool.or_false, Bool.or_self, Bool.not_false, List.append_nil, Bool.and_self, ↓prC_rk, ↓rqO_rk]) <;> rfl) : RetG σ H h' v K := ret_mk3 hN h hv hk
theorem cH18zoC2 {P : Program} {F : Nat} {args : List T} {H : List Fam} {K : T → List Fam → Prop} {σ : List Sg} {nl : List Fam} {args0 : List T} {h0 : List Fam} {Q : T → List Fam → Prop} {H2 H1 : List Fam} {N n : Nat} (hc : Ctr P F args0 h0 Q) (hk : ∀ v h', Q v h' → capsP h' → RetG σ H2 h' v K) (hap : apart σ = true := by rfl) (hnl : nl.all nilB = true := by rfl) (h1 : H ++ nl = H1 := by first | exact List.append_nil _ | ((try simp only [List.cons_append, List.nil_append]) <;> rfl)) (hN : H1.length = N := by (try simp only [↓List.length_cons, ↓List.length_nil, Nat.reduceAdd]) <;> rfl) (hn : H.length = n := by (try simp only [↓List.length_cons, ↓List.length_nil, Nat.reduceAdd]) <;> rfl) (hH : givesF σ N H1 σ h0 = some H2 := by (try simp (maxSteps := 1000000) only [givesF, setF, updF, Fam.zeroth, Fam.rk, Ck.rk, C.rk, E.rk, T.rk, key, List.map_cons, List.map_nil, List.cons_append, List.nil_append, List.length_cons, List.length_nil, Option.map_some, Option.bind_some, Nat.reduceAdd, Nat.zero_add, Nat.add_zero, Nat.add_sub_cancel_left, Int.toNat_natCast, reps, List.all_cons, List.all_nil, C.flat, List.append_eq, Bool.not_true, Bool.and_true, Bool.or_false, Bool.or_self, Bool.not_false, List.append_nil, Bool.and_self, ↓prC_rk, ↓rqO_rk]) <;> rfl) (hle : leS n H1 σ N σ h0 (belsK N (h0.map (Fam.rk σ N)) (argsK n args (args0.map (T.rk σ N)) True)) := by repeat' first | refine And.intro ?_ ?_ | exact xeC | fail) : CallK P F args H K := CallK.mk3 hc hap hnl h1 hN hn hH hle hk
set_option maxRecDepth 10000 in
set_option maxHeartbeats 8000000 in
theorem cwrite (id per : Int) (q : Qos) (W : Ws) (c : Nat) (cf : Nat → Nat) (at' : Int) (p : ByteArray) (hW : WOk W) (hl : W.l.length ≤ 1000000) (hla : 0 ≤ W.la ∧ W.la ≤ 1000000) :
    Ctr Tryz.prog 8 [.c (.p 0 0 0), .c (.i .i64 at'), .c (.s p)] (wB id per q W c cf)
      fun v h => ∃ c', v = .t [.c (.i .i64 (wrN id q W at' p)), .c (.i .i64 (wrE id q W at' p))] ∧ h = wA id per q (wrW id q W at' p) c' cf := by
  refine Ctr.mk' tbv mixed Tryz.func8 rfl rfl rfl (fun _ _ => by kernel_rfl) (by kernel_rfl) (by rfl) (by rfl) (by (repeat' first | refine And.intro ?_ ?_ | exact xeC | fail) <;> exact xmC) ?_
  repeat' (first | (fail_if_success (with_reducible refine xstp ?_)); first | ((with_reducible refine And.intro (fun (hb : _ = true) => ?_) (fun (hb : _ = false) => ?_)) <;> replace hb := xnC hb <;> (try first | exact xfC | exact bff hb (by assumption) | exact bff (by assumption) hb)) | ((with_reducible refine And.intro ?_ ?_); focus exact xoC) | (with_reducible intro hc; (try simp only [capsP, and_true] at hc); (try exact xfC)) | ((fail_if_success (with_reducible first | refine xgon ?_ | intro _)); (conv => whnf); (fail_if_success (fail_if_success (with_reducible first | refine xstp ?_ | refine xgon ?_ | intro _)))))
  rotate_left 1
  · have hd : q.dur = true := by assumption
    have hm : prn id q W = W.l := by unfold prn; exact if_neg (fun h => by rw [hd] at h; cases h.2)
    refine cH18zoC2 (σ := [.whole 1, .whole 3]) (nl := []) (iadd q (W.l) c ⟨id, W.la + 1, at', p⟩ (by omega)) ?_
    rintro v h' ⟨co, c2, rfl, rfl⟩ hcaps
    refine rH18zoC0 ?_
    have e3 : wrE id q W at' p = addE q (W.l) ⟨id, W.la + 1, at', p⟩ := by rw [← hm]; rfl
    have e2 : (wrW id q W at' p).l = newS q (W.l) ⟨id, W.la + 1, at', p⟩ := by rw [← hm]; rfl
    repeat' (first | (fail_if_success (with_reducible refine xstp ?_)); first | ((with_reducible refine And.intro (fun (hb : _ = true) => ?_) (fun (hb : _ = false) => ?_)) <;> replace hb := xnC hb <;> (try first | exact xfC | exact bff hb (by assumption) | exact bff (by assumption) hb)) | ((with_reducible refine And.intro ?_ ?_); focus exact xoC) | ((fail_if_success (with_reducible first | refine xgon ?_ | intro _)); (conv => whnf); (fail_if_success (fail_if_success (with_reducible first | refine xstp ?_ | refine xgon ?_ | intro _)))))
    · have he : wrE id q W at' p ≠ 0 := by rw [e3]; assumption
      have e0 : wrN id q W at' p = 0 := if_neg he
      have e1 : (wrW id q W at' p).la = W.la := if_neg he
      refine FinK.mk ⟨[0, 1, 2, 3, 4, 5, 6], _, _, ⟨c2, rfl, rfl⟩, ?_⟩
      unfold wA
      rw [e0, e1, e2, e3]
      (repeat' first | refine And.intro ?_ ?_ | exact xeC | fail)
      all_goals (exact xmC)
    · have he : wrE id q W at' p = 0 := by rw [e3]; assumption
      have e0 : wrN id q W at' p = W.la + 1 := if_pos he
      have e1 : (wrW id q W at' p).la = W.la + 1 := if_pos he
      refine FinK.mk ⟨[0, 1, 2, 3, 4, 5, 6], _, _, ⟨c2, rfl, rfl⟩, ?_⟩
      unfold wA
      rw [e0, e1, e2, he]
      (repeat' first | refine And.intro ?_ ?_ | exact xeC | fail)
      all_goals (exact xmC)
  · have hd : q.keep = false := by assumption
    have hm : prn id q W = W.l := by unfold prn; exact if_neg (fun h => by rw [hd] at h; cases h.1)
    refine cH18zoC2 (σ := [.whole 1, .whole 3]) (nl := []) (iadd q (W.l) c ⟨id, W.la + 1, at', p⟩ (by omega)) ?_
    rintro v h' ⟨co, c2, rfl, rfl⟩ hcaps
    refine rH18zoC0 ?_
    have e3 : wrE id q W at' p = addE q (W.l) ⟨id, W.la + 1, at', p⟩ := by rw [← hm]; rfl
    have e2 : (wrW id q W at' p).l = newS q (W.l) ⟨id, W.la + 1, at', p⟩ := by rw [← hm]; rfl
    repeat' (first | (fail_if_success (with_reducible refine xstp ?_)); first | ((with_reducible refine And.intro (fun (hb : _ = true) => ?_) (fun (hb : _ = false) => ?_)) <;> replace hb := xnC hb <;> (try first | exact xfC | exact bff hb (by assumption) | exact bff (by assumption) hb)) | ((with_reducible refine And.intro ?_ ?_); focus exact xoC) | ((fail_if_success (with_reducible first | refine xgon ?_ | intro _)); (conv => whnf); (fail_if_success (fail_if_success (with_reducible first | refine xstp ?_ | refine xgon ?_ | intro _)))))
    · have he : wrE id q W at' p ≠ 0 := by rw [e3]; assumption
      have e0 : wrN id q W at' p = 0 := if_neg he
      have e1 : (wrW id q W at' p).la = W.la := if_neg he
      refine FinK.mk ⟨[0, 1, 2, 3, 4, 5, 6], _, _, ⟨c2, rfl, rfl⟩, ?_⟩
      unfold wA
      rw [e0, e1, e2, e3]
      (repeat' first | refine And.intro ?_ ?_ | exact xeC | fail)
      all_goals (exact xmC)
    · have he : wrE id q W at' p = 0 := by rw [e3]; assumption
      have e0 : wrN id q W at' p = W.la + 1 := if_pos he
      have e1 : (wrW id q W at' p).la = W.la + 1 := if_pos he
      refine FinK.mk ⟨[0, 1, 2, 3, 4, 5, 6], _, _, ⟨c2, rfl, rfl⟩, ?_⟩
      unfold wA
      rw [e0, e1, e2, he]
      (repeat' first | refine And.intro ?_ ?_ | exact xeC | fail)
      all_goals (exact xmC)
  have hk1 : q.keep = true := by assumption
  have hk2 : q.dur = false := by assumption
  refine cH18zoC2 (σ := [.whole 1, .whole 3]) (nl := []) (ilist q W.l c hl) ?_
  rintro v h' ⟨c', rfl, rfl⟩ hcaps
  refine rH18zoC1 ?_
  repeat' (first | (fail_if_success (with_reducible refine xstp ?_)); first | ((fail_if_success (with_reducible first | refine xgon ?_ | intro _)); (conv => whnf); (fail_if_success (fail_if_success (with_reducible first | refine xstp ?_ | refine xgon ?_ | intro _)))))
  refine LoopK.mk' ({k : Nat // k ≤ W.l.length} × Nat)
    (fun ⟨⟨k, _⟩, cc⟩ => ⟨[(0, .c (.p 0 0 0)), (1, .c (.i .i64 at')), (2, .c (.s p)), (38, .c (.sl 6 0 4 0 W.l.length c')), (39, .c (.i .i64 W.l.length)), (40, .c (.i .i64 k))],
      [.one (wrc 1 2 id per W.la q), .one (hist 7 q ((W.l.take k).foldl (prnS id W) W.l).length cc), .one (peM 4 W.M W.ck), .one .no, prs 5 W.D cf, rqs W.D cf, .one (smps true W.l c'), .one (smps true ((W.l.take k).foldl (prnS id W) W.l) cc)]⟩)
    (fun k => W.l.length - k.1.1)
    ⟨⟨⟨0, Nat.zero_le _⟩, c⟩, [0, 1, 2, 3, 4, 5, 6, 3], ?_⟩ ?_
  · (repeat' first | refine And.intro ?_ ?_ | exact xeC | fail)
    all_goals (exact xmC)
  rintro ⟨⟨k, hk⟩, cc⟩
  have hml := prn_len id W (W.l.take k) W.l
  repeat' (first | (fail_if_success (with_reducible refine xstp ?_)); first | ((with_reducible refine And.intro (fun (hb : _ = true) => ?_) (fun (hb : _ = false) => ?_)) <;> replace hb := xnC hb <;> (try first | exact xfC | exact bff hb (by assumption) | exact bff (by assumption) hb)) | ((with_reducible refine And.intro ?_ ?_); focus exact xoC) | (with_reducible intro hc; (try simp only [capsP, and_true] at hc); (try exact xfC)) | ((fail_if_success (with_reducible first | refine xgon ?_ | intro _)); (conv => whnf); (fail_if_success (fail_if_success (with_reducible first | refine xstp ?_ | refine xgon ?_ | intro _)))))
  · have hsk := prn_succ id W (show k < W.l.length by omega)
    simp only [Int.toNat_natCast, Nat.zero_add]
    refine cH18zoC2 (σ := [.whole 0, .name 1, .whole 2, .whole 4, .name 5]) (nl := []) (cneeded id per W.la q W cf (W.l.getD k default).q hW) ?_ (hle := by (repeat' first | refine And.intro ?_ ?_ | exact xeC | fail) <;> (exact xmC))
    rintro v h' ⟨rfl, rfl⟩ hcaps
    refine rH18zoC1 ?_
    repeat' (first | (fail_if_success (with_reducible refine xstp ?_)); first | ((with_reducible refine And.intro (fun (hb : _ = true) => ?_) (fun (hb : _ = false) => ?_)) <;> replace hb := xnC hb <;> (try first | exact xfC | exact bff hb (by assumption) | exact bff (by assumption) hb)) | ((with_reducible refine And.intro ?_ ?_); focus exact xoC) | ((fail_if_success (with_reducible first | refine xgon ?_ | intro _)); (conv => whnf); (fail_if_success (fail_if_success (with_reducible first | refine xstp ?_ | refine xgon ?_ | intro _)))))
    · have hn : ndB (W.l.getD k default).q W = false := by assumption
      unfold prnS at hsk
      rw [hn] at hsk
      refine cH18zoC2 (σ := [.whole 1, .whole 7]) (nl := []) (iremove q ((W.l.take k).foldl (prnS id W) W.l) cc id (W.l.getD k default).q (by omega)) ?_
      rintro v h' ⟨c2, rfl, rfl⟩ hcaps
      refine rH18zoC1 ?_
      repeat' (first | (fail_if_success (with_reducible refine xstp ?_)); first | ((with_reducible refine And.intro ?_ ?_); focus exact xoC) | ((fail_if_success (with_reducible first | refine xgon ?_ | intro _)); (conv => whnf); (fail_if_success (fail_if_success (with_reducible first | refine xstp ?_ | refine xgon ?_ | intro _)))))
      refine ⟨⟨⟨k + 1, by omega⟩, c2⟩, [0, 1, 2, 3, 4, 5, 6, 9], by simp only; omega, ?_⟩
      unfold prnS
      simp only [hsk]
      (repeat' first | refine And.intro ?_ ?_ | exact xeC | fail)
      all_goals first | (exact xmC) | skip
      all_goals trace_state
    · have hn : ndB (W.l.getD k default).q W = true := by assumption
      unfold prnS at hsk
      rw [hn] at hsk
      refine ⟨⟨⟨k + 1, by omega⟩, cc⟩, [0, 1, 2, 3, 4, 5, 6, 7], by simp only; omega, ?_⟩
      unfold prnS
      simp only [hsk]
      (repeat' first | refine And.intro ?_ ?_ | exact xeC | fail)
      all_goals first | (exact xmC) | skip
      all_goals trace_state
  · have ek : W.l.take k = W.l := List.take_of_length_le (by omega)
    have hm : prn id q W = (W.l.take k).foldl (prnS id W) W.l := by rw [ek]; unfold prn; exact if_pos ⟨hk1, hk2⟩
    refine cH18zoC2 (σ := [.whole 1, .whole 7]) (nl := []) (iadd q ((W.l.take k).foldl (prnS id W) W.l) cc ⟨id, W.la + 1, at', p⟩ (by omega)) ?_
    rintro v h' ⟨co, c2, rfl, rfl⟩ hcaps
    refine rH18zoC0 ?_
    have e3 : wrE id q W at' p = addE q ((W.l.take k).foldl (prnS id W) W.l) ⟨id, W.la + 1, at', p⟩ := by rw [← hm]; rfl
    have e2 : (wrW id q W at' p).l = newS q ((W.l.take k).foldl (prnS id W) W.l) ⟨id, W.la + 1, at', p⟩ := by rw [← hm]; rfl
    repeat' (first | (fail_if_success (with_reducible refine xstp ?_)); first | ((with_reducible refine And.intro (fun (hb : _ = true) => ?_) (fun (hb : _ = false) => ?_)) <;> replace hb := xnC hb <;> (try first | exact xfC | exact bff hb (by assumption) | exact bff (by assumption) hb)) | ((with_reducible refine And.intro ?_ ?_); focus exact xoC) | ((fail_if_success (with_reducible first | refine xgon ?_ | intro _)); (conv => whnf); (fail_if_success (fail_if_success (with_reducible first | refine xstp ?_ | refine xgon ?_ | intro _)))))
    · have he : wrE id q W at' p ≠ 0 := by rw [e3]; assumption
      have e0 : wrN id q W at' p = 0 := if_neg he
      have e1 : (wrW id q W at' p).la = W.la := if_neg he
      refine FinK.mk ⟨[0, 1, 2, 3, 4, 5, 8], _, _, ⟨c2, rfl, rfl⟩, ?_⟩
      unfold wA
      rw [e0, e1, e2, e3]
      (repeat' first | refine And.intro ?_ ?_ | exact xeC | fail)
      all_goals (exact xmC)
    · have he : wrE id q W at' p = 0 := by rw [e3]; assumption
      have e0 : wrN id q W at' p = W.la + 1 := if_pos he
      have e1 : (wrW id q W at' p).la = W.la + 1 := if_pos he
      refine FinK.mk ⟨[0, 1, 2, 3, 4, 5, 8], _, _, ⟨c2, rfl, rfl⟩, ?_⟩
      unfold wA
      rw [e0, e1, e2, he]
      (repeat' first | refine And.intro ?_ ?_ | exact xeC | fail)
      all_goals (exact xmC)
end Go.Proofs.YtofcadbfjbefkaaGreat


namespace Go.Proofs.YtofcadbfjbefkaaGreat
open Go.X
set_option linter.unusedSimpArgs false
set_option linter.unusedVariables false
def wthn (o r : Int) : Prop := r = 0 ∨ (o ≠ 0 ∧ o ≤ r)
instance (o r : Int) : Decidable (wthn o r) := by unfold wthn; infer_instance
def viol (o r : Qos) : Int :=
  if r.rel = true ∧ o.rel = false then 1 else if r.dur = true ∧ o.dur = false then 2
  else if ¬ wthn o.dead r.dead then 3 else if ¬ wthn o.lease r.lease then 4 else 0

set_option maxRecDepth 10000 in
theorem cqwithin (o r : Int) : Ctr Tryz.prog 80 [.c (.i .i64 o), .c (.i .i64 r)] [] fun v h => v = .c (.b (decide (wthn o r))) ∧ h = [] := by
  refine Ctr.mk' tbv mixed Tryz.func80 rfl rfl rfl (fun _ _ => by kernel_rfl) (by kernel_rfl) (by rfl) (by rfl) (by (repeat' first | refine And.intro ?_ ?_ | exact xeC | fail)) ?_
  repeat' (first | (fail_if_success (with_reducible refine xstp ?_)); first | ((with_reducible refine And.intro (fun (hb : _ = true) => ?_) (fun (hb : _ = false) => ?_)) <;> replace hb := xnC hb <;> (try first | exact xfC | exact bff hb (by assumption) | exact bff (by assumption) hb)) | (with_reducible intro hc; (try simp only [capsP, and_true] at hc); (try exact xfC)) | ((fail_if_success (with_reducible first | refine xgon ?_ | intro _)); (conv => whnf); (fail_if_success (fail_if_success (with_reducible first | refine xstp ?_ | refine xgon ?_ | intro _)))))
  all_goals (
    refine FinK.mk ⟨[], _, _, ⟨rfl, rfl⟩, ?_⟩; (repeat' first | refine And.intro ?_ ?_ | exact xeC | fail)
    all_goals first | exact decide_eq_decide.2 (by unfold wthn; omega) | exact (decide_eq_true (by unfold wthn; omega)).symm | exact (decide_eq_false (by unfold wthn; omega)).symm | exact decide_eq_true (by unfold wthn; omega) | exact decide_eq_false (by unfold wthn; omega) | (apply Bool.eq_iff_iff.2; simp [wthn]; omega))

theorem rH18zoD0 {σ : List Sg} {H h' : List Fam} {v : T} {K : T → List Fam → Prop} {H' : List Fam} {v' : T} {N : Nat} (hk : K v' H') (hN : H.length = N := by (try simp only [↓List.length_cons, ↓List.length_nil, Nat.reduceAdd]) <;> rfl) (h : givesF σ N H σ h' = some H' := by (try simp (maxSteps := 1000000) only [givesF, setF, updF, Fam.zeroth, Fam.rk, Ck.rk, C.rk, E.rk, T.rk, key, List.map_cons, List.map_nil, List.cons_append, List.nil_append, List.length_cons, List.length_nil, Option.map_some, Option.bind_some, Nat.reduceAdd, Nat.zero_add, Nat.add_zero, Nat.add_sub_cancel_left, Int.toNat_natCast, reps, List.all_cons, List.all_nil, C.flat, List.append_eq, Bool.not_true, Bool.and_true, Bool.or_false, Bool.or_self, Bool.not_false, List.append_nil, Bool.and_self, ↓prC_rk, ↓rqO_rk]) <;> rfl) (hv : v.rk σ N = v' := by (try simp only [givesF, setF, updF, Fam.zeroth, Fam.rk, Ck.rk, C.rk, E.rk, T.rk, key, List.map_cons, List.map_nil, List.cons_append, List.nil_append, List.length_cons, List.length_nil, Option.map_some, Option.bind_some, Nat.reduceAdd, Nat.zero_add, Nat.add_zero, Nat.add_sub_cancel_left, Int.toNat_natCast, reps, List.all_cons, List.all_nil, C.flat, List.append_eq, Bool.not_true, Bool.and_true, Bool.or_false, Bool.or_self, Bool.not_false, List.append_nil, Bool.and_self, ↓prC_rk, ↓rqO_rk]) <;> rfl) : RetG σ H h' v K := ret_mk3 hN h hv hk
theorem cH18zoD2 {P : Program} {F : Nat} {args : List T} {H : List Fam} {K : T → List Fam → Prop} {σ : List Sg} {nl : List Fam} {args0 : List T} {h0 : List Fam} {Q : T → List Fam → Prop} {H2 H1 : List Fam} {N n : Nat} (hc : Ctr P F args0 h0 Q) (hk : ∀ v h', Q v h' → capsP h' → RetG σ H2 h' v K) (hap : apart σ = true := by rfl) (hnl : nl.all nilB = true := by rfl) (h1 : H ++ nl = H1 := by first | exact List.append_nil _ | ((try simp only [List.cons_append, List.nil_append]) <;> rfl)) (hN : H1.length = N := by (try simp only [↓List.length_cons, ↓List.length_nil, Nat.reduceAdd]) <;> rfl) (hn : H.length = n := by (try simp only [↓List.length_cons, ↓List.length_nil, Nat.reduceAdd]) <;> rfl) (hH : givesF σ N H1 σ h0 = some H2 := by (try simp (maxSteps := 1000000) only [givesF, setF, updF, Fam.zeroth, Fam.rk, Ck.rk, C.rk, E.rk, T.rk, key, List.map_cons, List.map_nil, List.cons_append, List.nil_append, List.length_cons, List.length_nil, Option.map_some, Option.bind_some, Nat.reduceAdd, Nat.zero_add, Nat.add_zero, Nat.add_sub_cancel_left, Int.toNat_natCast, reps, List.all_cons, List.all_nil, C.flat, List.append_eq, Bool.not_true, Bool.and_true, Bool.or_false, Bool.or_self, Bool.not_false, List.append_nil, Bool.and_self, ↓prC_rk, ↓rqO_rk]) <;> rfl) (hle : leS n H1 σ N σ h0 (belsK N (h0.map (Fam.rk σ N)) (argsK n args (args0.map (T.rk σ N)) True)) := by repeat' first | refine And.intro ?_ ?_ | exact xeC | fail) : CallK P F args H K := CallK.mk3 hc hap hnl h1 hN hn hH hle hk
set_option maxRecDepth 10000 in
set_option maxHeartbeats 4000000 in
theorem cviol (o r : Qos) : Ctr Tryz.prog 62 [.a (encQ o), .a (encQ r)] [] fun v h => v = .c (.i .i64 (viol o r)) ∧ h = [] := by
  refine Ctr.mk' tbv mixed Tryz.func62 rfl rfl rfl (fun _ _ => by kernel_rfl) (by kernel_rfl) (by rfl) (by rfl) (by (repeat' first | refine And.intro ?_ ?_ | exact xeC | fail)) ?_
  repeat' (first | (fail_if_success (with_reducible refine xstp ?_)); first | ((with_reducible refine And.intro (fun (hb : _ = true) => ?_) (fun (hb : _ = false) => ?_)) <;> replace hb := xnC hb <;> (try first | exact xfC | exact bff hb (by assumption) | exact bff (by assumption) hb)) | (with_reducible intro hc; (try simp only [capsP, and_true] at hc); (try exact xfC)) | ((fail_if_success (with_reducible first | refine xgon ?_ | intro _)); (conv => whnf); (fail_if_success (fail_if_success (with_reducible first | refine xstp ?_ | refine xgon ?_ | intro _)))))
  · refine FinK.mk ⟨[], _, _, ⟨rfl, rfl⟩, ?_⟩; (repeat' first | refine And.intro ?_ ?_ | exact xeC | fail)
    all_goals (unfold viol; simp_all)
  · refine FinK.mk ⟨[], _, _, ⟨rfl, rfl⟩, ?_⟩; (repeat' first | refine And.intro ?_ ?_ | exact xeC | fail)
    all_goals (unfold viol; simp_all)
  · refine cH18zoD2 (σ := []) (nl := []) (cqwithin o.dead r.dead) ?_
    rintro v h' ⟨rfl, rfl⟩ hcaps
    refine rH18zoD0 ?_
    repeat' (first | (fail_if_success (with_reducible refine xstp ?_)); first | ((with_reducible refine And.intro (fun (hb : _ = true) => ?_) (fun (hb : _ = false) => ?_)) <;> replace hb := xnC hb <;> (try first | exact xfC | exact bff hb (by assumption) | exact bff (by assumption) hb)) | ((fail_if_success (with_reducible first | refine xgon ?_ | intro _)); (conv => whnf); (fail_if_success (fail_if_success (with_reducible first | refine xstp ?_ | refine xgon ?_ | intro _)))))
    · refine FinK.mk ⟨[], _, _, ⟨rfl, rfl⟩, ?_⟩; (repeat' first | refine And.intro ?_ ?_ | exact xeC | fail)
      all_goals (unfold viol; simp_all)
    · refine cH18zoD2 (σ := []) (nl := []) (cqwithin o.lease r.lease) ?_
      rintro v h' ⟨rfl, rfl⟩ hcaps
      refine rH18zoD0 ?_
      repeat' (first | (fail_if_success (with_reducible refine xstp ?_)); first | ((with_reducible refine And.intro (fun (hb : _ = true) => ?_) (fun (hb : _ = false) => ?_)) <;> replace hb := xnC hb <;> (try first | exact xfC | exact bff hb (by assumption) | exact bff (by assumption) hb)) | ((fail_if_success (with_reducible first | refine xgon ?_ | intro _)); (conv => whnf); (fail_if_success (fail_if_success (with_reducible first | refine xstp ?_ | refine xgon ?_ | intro _)))))
      all_goals (
        refine FinK.mk ⟨[], _, _, ⟨rfl, rfl⟩, ?_⟩; (repeat' first | refine And.intro ?_ ?_ | exact xeC | fail)
        all_goals (unfold viol; simp_all))
  · refine cH18zoD2 (σ := []) (nl := []) (cqwithin o.dead r.dead) ?_
    rintro v h' ⟨rfl, rfl⟩ hcaps
    refine rH18zoD0 ?_
    repeat' (first | (fail_if_success (with_reducible refine xstp ?_)); first | ((with_reducible refine And.intro (fun (hb : _ = true) => ?_) (fun (hb : _ = false) => ?_)) <;> replace hb := xnC hb <;> (try first | exact xfC | exact bff hb (by assumption) | exact bff (by assumption) hb)) | ((fail_if_success (with_reducible first | refine xgon ?_ | intro _)); (conv => whnf); (fail_if_success (fail_if_success (with_reducible first | refine xstp ?_ | refine xgon ?_ | intro _)))))
    · refine FinK.mk ⟨[], _, _, ⟨rfl, rfl⟩, ?_⟩; (repeat' first | refine And.intro ?_ ?_ | exact xeC | fail)
      all_goals (unfold viol; simp_all)
    · refine cH18zoD2 (σ := []) (nl := []) (cqwithin o.lease r.lease) ?_
      rintro v h' ⟨rfl, rfl⟩ hcaps
      refine rH18zoD0 ?_
      repeat' (first | (fail_if_success (with_reducible refine xstp ?_)); first | ((with_reducible refine And.intro (fun (hb : _ = true) => ?_) (fun (hb : _ = false) => ?_)) <;> replace hb := xnC hb <;> (try first | exact xfC | exact bff hb (by assumption) | exact bff (by assumption) hb)) | ((fail_if_success (with_reducible first | refine xgon ?_ | intro _)); (conv => whnf); (fail_if_success (fail_if_success (with_reducible first | refine xstp ?_ | refine xgon ?_ | intro _)))))
      all_goals (
        refine FinK.mk ⟨[], _, _, ⟨rfl, rfl⟩, ?_⟩; (repeat' first | refine And.intro ?_ ?_ | exact xeC | fail)
        all_goals (unfold viol; simp_all))
  · refine FinK.mk ⟨[], _, _, ⟨rfl, rfl⟩, ?_⟩; (repeat' first | refine And.intro ?_ ?_ | exact xeC | fail)
    all_goals (unfold viol; simp_all)
  · refine cH18zoD2 (σ := []) (nl := []) (cqwithin o.dead r.dead) ?_
    rintro v h' ⟨rfl, rfl⟩ hcaps
    refine rH18zoD0 ?_
    repeat' (first | (fail_if_success (with_reducible refine xstp ?_)); first | ((with_reducible refine And.intro (fun (hb : _ = true) => ?_) (fun (hb : _ = false) => ?_)) <;> replace hb := xnC hb <;> (try first | exact xfC | exact bff hb (by assumption) | exact bff (by assumption) hb)) | ((fail_if_success (with_reducible first | refine xgon ?_ | intro _)); (conv => whnf); (fail_if_success (fail_if_success (with_reducible first | refine xstp ?_ | refine xgon ?_ | intro _)))))
    · refine FinK.mk ⟨[], _, _, ⟨rfl, rfl⟩, ?_⟩; (repeat' first | refine And.intro ?_ ?_ | exact xeC | fail)
      all_goals (unfold viol; simp_all)
    · refine cH18zoD2 (σ := []) (nl := []) (cqwithin o.lease r.lease) ?_
      rintro v h' ⟨rfl, rfl⟩ hcaps
      refine rH18zoD0 ?_
      repeat' (first | (fail_if_success (with_reducible refine xstp ?_)); first | ((with_reducible refine And.intro (fun (hb : _ = true) => ?_) (fun (hb : _ = false) => ?_)) <;> replace hb := xnC hb <;> (try first | exact xfC | exact bff hb (by assumption) | exact bff (by assumption) hb)) | ((fail_if_success (with_reducible first | refine xgon ?_ | intro _)); (conv => whnf); (fail_if_success (fail_if_success (with_reducible first | refine xstp ?_ | refine xgon ?_ | intro _)))))
      all_goals (
        refine FinK.mk ⟨[], _, _, ⟨rfl, rfl⟩, ?_⟩; (repeat' first | refine And.intro ?_ ?_ | exact xeC | fail)
        all_goals (unfold viol; simp_all))
  · refine cH18zoD2 (σ := []) (nl := []) (cqwithin o.dead r.dead) ?_
    rintro v h' ⟨rfl, rfl⟩ hcaps
    refine rH18zoD0 ?_
    repeat' (first | (fail_if_success (with_reducible refine xstp ?_)); first | ((with_reducible refine And.intro (fun (hb : _ = true) => ?_) (fun (hb : _ = false) => ?_)) <;> replace hb := xnC hb <;> (try first | exact xfC | exact bff hb (by assumption) | exact bff (by assumption) hb)) | ((fail_if_success (with_reducible first | refine xgon ?_ | intro _)); (conv => whnf); (fail_if_success (fail_if_success (with_reducible first | refine xstp ?_ | refine xgon ?_ | intro _)))))
    · refine FinK.mk ⟨[], _, _, ⟨rfl, rfl⟩, ?_⟩; (repeat' first | refine And.intro ?_ ?_ | exact xeC | fail)
      all_goals (unfold viol; simp_all)
    · refine cH18zoD2 (σ := []) (nl := []) (cqwithin o.lease r.lease) ?_
      rintro v h' ⟨rfl, rfl⟩ hcaps
      refine rH18zoD0 ?_
      repeat' (first | (fail_if_success (with_reducible refine xstp ?_)); first | ((with_reducible refine And.intro (fun (hb : _ = true) => ?_) (fun (hb : _ = false) => ?_)) <;> replace hb := xnC hb <;> (try first | exact xfC | exact bff hb (by assumption) | exact bff (by assumption) hb)) | ((fail_if_success (with_reducible first | refine xgon ?_ | intro _)); (conv => whnf); (fail_if_success (fail_if_success (with_reducible first | refine xstp ?_ | refine xgon ?_ | intro _)))))
      all_goals (
        refine FinK.mk ⟨[], _, _, ⟨rfl, rfl⟩, ?_⟩; (repeat' first | refine And.intro ?_ ?_ | exact xeC | fail)
        all_goals (unfold viol; simp_all))

theorem rH18zoD1 {σ : List Sg} {H h' : List Fam} {v : T} {K : T → List Fam → Prop} {H' : List Fam} {v' : T} {N : Nat} (hk : K v' H') (hN : H.length = N := by (try simp only [↓List.length_cons, ↓List.length_nil, Nat.reduceAdd]) <;> rfl) (h : givesF σ N H σ h' = some H' := by (try simp (maxSteps := 1000000) only [givesF, setF, updF, Fam.zeroth, Fam.rk, Ck.rk, C.rk, E.rk, T.rk, key, List.map_cons, List.map_nil, List.cons_append, List.nil_append, List.length_cons, List.length_nil, Option.map_some, Option.bind_some, Nat.reduceAdd, Nat.zero_add, Nat.add_zero, Nat.add_sub_cancel_left, Int.toNat_natCast, reps, List.all_cons, List.all_nil, C.flat, List.append_eq, Bool.not_true, Bool.and_true, Bool.or_false, Bool.or_self, Bool.not_false, List.append_nil, Bool.and_self, ↓prC_rk, ↓rqO_rk, encQ]) <;> rfl) (hv : v.rk σ N = v' := by (try simp only [givesF, setF, updF, Fam.zeroth, Fam.rk, Ck.rk, C.rk, E.rk, T.rk, key, List.map_cons, List.map_nil, List.cons_append, List.nil_append, List.length_cons, List.length_nil, Option.map_some, Option.bind_some, Nat.reduceAdd, Nat.zero_add, Nat.add_zero, Nat.add_sub_cancel_left, Int.toNat_natCast, reps, List.all_cons, List.all_nil, C.flat, List.append_eq, Bool.not_true, Bool.and_true, Bool.or_false, Bool.or_self, Bool.not_false, List.append_nil, Bool.and_self, ↓prC_rk, ↓rqO_rk, encQ]) <;> rfl) : RetG σ H h' v K := ret_mk3 hN h hv hk
set_option maxRecDepth 10000 in
theorem ccompat (o r : Qos) : Ctr Tryz.prog 38 [.a (encQ o), .a (encQ r)] [] fun v h => v = .c (.b (decide (viol o r = 0))) ∧ h = [] := by
  refine Ctr.mk' tbv mixed Tryz.func38 rfl rfl rfl (fun _ _ => by kernel_rfl) (by kernel_rfl) (by rfl) (by rfl) (by (repeat' first | refine And.intro ?_ ?_ | exact xeC | fail)) ?_
  repeat' (first | (fail_if_success (with_reducible refine xstp ?_)); first | (with_reducible intro hc; (try simp only [capsP, and_true] at hc); (try exact xfC)) | ((fail_if_success (with_reducible first | refine xgon ?_ | intro _)); (conv => whnf); (fail_if_success (fail_if_success (with_reducible first | refine xstp ?_ | refine xgon ?_ | intro _)))))
  refine cH18zoD2 (σ := []) (nl := []) (cviol o r) ?_
  rintro v h' ⟨rfl, rfl⟩ hcaps
  refine rH18zoD1 ?_
  repeat' (first | (fail_if_success (with_reducible refine xstp ?_)); first | ((fail_if_success (with_reducible first | refine xgon ?_ | intro _)); (conv => whnf); (fail_if_success (fail_if_success (with_reducible first | refine xstp ?_ | refine xgon ?_ | intro _)))))
  refine FinK.mk ⟨[], _, _, ⟨rfl, rfl⟩, ?_⟩; (repeat' first | refine And.intro ?_ ?_ | exact xeC | fail)


/-- The first number of a reader that is matched. -/
def staF (q q2 : Qos) (W : Ws) : Int := if q.dur = true ∧ q2.dur = true then W.l.foldl (fun a s => min a s.q) (W.la + 1) else W.la + 1
def newP (q q2 : Qos) (W : Ws) (nd at' : Int) : Pr := ⟨nd, q.rel && q2.rel, staF q q2 W, staF q q2 W - 1, staF q q2 W - 1, [], decide (1 < staF q q2 W), at'⟩
def addPW (W : Ws) (r : Int) (p : Pr) : Ws := ⟨W.l, W.la, W.M ++ [(W.ck, r)], W.ck + 1, fun y => if y = r.toNat then some p else W.D y⟩
def maE (q : Qos) (r nd at' : Int) (q2 : Qos) (W : Ws) : Int :=
  if r < 1 ∨ 1073741824 < r ∨ nd < 0 ∨ 8 ≤ nd ∨ at' < 0 ∨ 1099511627776 < at' then 4 else if ¬ okQ q2 then 4 else if ¬ viol q q2 = 0 then 14 else if (W.get r).isSome then 7
  else if 32 ≤ W.M.length then 15 else 0
def maW (q : Qos) (r nd at' : Int) (q2 : Qos) (W : Ws) : Ws := if maE q r nd at' q2 W = 0 then addPW W r (newP q q2 W nd at') else W
def updC (cf : Nat → Nat) (w : Int) (c : Nat) : Nat → Nat := fun y => if y = w.toNat then c else cf y
theorem addPW_lt {W : Ws} {r : Int} {p : Pr} {i : Nat} (hi : i < W.M.length) : (addPW W r p).M.getD i default = W.M.getD i default := by
  simp [addPW, List.getD, List.getElem?_append_left hi]
theorem addPW_eq {W : Ws} {r : Int} {p : Pr} : (addPW W r p).M.getD W.M.length default = (W.ck, r) := by
  simp [addPW, List.getD]
theorem addPW_len {W : Ws} {r : Int} {p : Pr} : (addPW W r p).M.length = W.M.length + 1 := by simp [addPW]
theorem mapP_adopt {W : Ws} {w : Int} {p : Pr} {σ : List Sg} {a b : Nat} {f : Nat} (h1 : ∀ x, key σ 0 f x = (if x = w.toNat then b else a, if x = w.toNat then 0 else x)) (hno : ∀ i, i < W.M.length → (W.M.getD i default).2 ≠ w) (hW : WOk W) (hw : 1 ≤ w) (i : Nat) (hi : i < (addPW W w p).M.length) :
    (if i = W.M.length then (W.ck, Key.i w, E.c (.p b 0 0)) else ((W.M.getD i default).1, Key.i (W.M.getD i default).2, E.c (.p a (W.M.getD i default).2.toNat 0))) =
      (((addPW W w p).M.getD i default).1, Key.i ((addPW W w p).M.getD i default).2, E.rk σ 0 (.c (.p f ((addPW W w p).M.getD i default).2.toNat 0))) := by
  rw [addPW_len] at hi
  by_cases h : i = W.M.length
  · subst h
    rw [addPW_eq]
    simp [E.rk, C.rk, h1]
  · have hlt : i < W.M.length := by omega
    have h2 := (hW.a i hlt).1
    have h3 : ¬ (W.M.getD i default).2.toNat = w.toNat := fun e => hno i hlt (by omega)
    rw [if_neg h, addPW_lt hlt]
    simp only [E.rk, C.rk, h1, if_neg h3]
theorem leK_cong {N : Nat} {q q' q'' : Ck} {A : Prop} (h : q' = q'') (hk : q.leK N q'' A) : q.leK N q' A := by
  rw [h]; exact hk
theorem sta_min : ∀ (t : List Smp) (a : Int), (∀ s ∈ t, 1 ≤ s.q) → 1 ≤ a → 1 ≤ t.foldl (fun a s => min a s.q) a ∧ t.foldl (fun a s => min a s.q) a ≤ a
  | [], a, _, h => ⟨h, Int.le_refl _⟩
  | s :: t, a, h, ha => by
    have h1 := h s (List.mem_cons_self ..)
    have := sta_min t (min a s.q) (fun x hx => h x (List.mem_cons_of_mem _ hx)) (by omega)
    simp only [List.foldl_cons]
    omega
theorem sta_le {l : List Smp} {la : Int} (h : ∀ s ∈ l, 1 ≤ s.q) (hla : 0 ≤ la ∧ la ≤ 1000000) (k : Nat) : 1 ≤ (l.take k).foldl (fun a s => min a s.q) (la + 1) ∧ (l.take k).foldl (fun a s => min a s.q) (la + 1) ≤ la + 1 :=
  sta_min _ _ (fun s hs => h s (List.take_subset _ _ hs)) (by omega)
abbrev wM (id per : Int) (q : Qos) (W : Ws) (c : Nat) (cf : Nat → Nat) : List Fam :=
  [.one (wrc 1 2 id per W.la q), .one (hist 3 q W.l.length c), .one (peM 6 W.M W.ck), .one (smps true W.l c), .one .no, .one .no, prs 7 W.D cf, rqs W.D cf]
set_option maxRecDepth 10000 in
set_option maxHeartbeats 16000000 in
theorem cmatchW (id per : Int) (q : Qos) (W : Ws) (c : Nat) (cf : Nat → Nat) (r nd at' : Int) (q2 : Qos) (hW : WOk W) (hl : W.l.length ≤ 1000000) (hla : 0 ≤ W.la ∧ W.la ≤ 1000000) (hpos : ∀ s ∈ W.l, 1 ≤ s.q) :
    Ctr Tryz.prog 10 [.c (.p 0 0 0), .c (.i .i64 r), .c (.i .i64 nd), .c (.i .i64 at'), .a (encQ q2)] (wB id per q W c cf)
      fun v h => ∃ cf', v = .c (.i .i64 (maE q r nd at' q2 W)) ∧ h = wM id per q (maW q r nd at' q2 W) c cf' := by
  refine Ctr.mk' tbv mixed Tryz.func10 rfl rfl rfl (fun _ _ => by kernel_rfl) (by kernel_rfl) (by rfl) (by rfl) (by (repeat' first | refine And.intro ?_ ?_ | exact xeC | fail) <;> exact xmC) ?_
  repeat' (first | (fail_if_success (with_reducible refine xstp ?_)); first | ((with_reducible refine And.intro (fun (hb : _ = true) => ?_) (fun (hb : _ = false) => ?_)) <;> replace hb := xnC hb <;> (try first | exact xfC | exact bff hb (by assumption) | exact bff (by assumption) hb)) | (with_reducible intro hc; (try simp only [capsP, and_true] at hc); (try exact xfC)) | ((fail_if_success (with_reducible first | refine xgon ?_ | intro _)); (conv => whnf); (fail_if_success (fail_if_success (with_reducible first | refine xstp ?_ | refine xgon ?_ | intro _)))))
  all_goals try (
    have e1 : maE q r nd at' q2 W = 4 := by
      unfold maE
      rw [if_pos (by omega)]
    have e2 : maW q r nd at' q2 W = W := by unfold maW; rw [e1]; rfl
    rw [e1, e2]
    refine FinK.mk ⟨[0, 1, 2, 3, 4, 5, 4, 5], _, _, ⟨cf, rfl, rfl⟩, ?_⟩
    (repeat' first | refine And.intro ?_ ?_ | exact xeC | fail)
    all_goals (exact xmC)
    done)
  have hA : ¬ (r < 1 ∨ 1073741824 < r ∨ nd < 0 ∨ 8 ≤ nd ∨ at' < 0 ∨ 1099511627776 < at') := by omega
  have hw : 1 ≤ r := by omega
  refine cH18zoD2 (σ := []) (nl := []) (icheck q2) ?_
  rintro v h' ⟨rfl, rfl⟩ hcaps
  refine rH18zoD1 ?_
  repeat' (first | (fail_if_success (with_reducible refine xstp ?_)); first | ((with_reducible refine And.intro (fun (hb : _ = true) => ?_) (fun (hb : _ = false) => ?_)) <;> replace hb := xnC hb <;> (try first | exact xfC | exact bff hb (by assumption) | exact bff (by assumption) hb)) | ((fail_if_success (with_reducible first | refine xgon ?_ | intro _)); (conv => whnf); (fail_if_success (fail_if_success (with_reducible first | refine xstp ?_ | refine xgon ?_ | intro _)))))
  · have hq : ¬ okQ q2 := fun h => hb (if_pos h)
    have e0 : checkI q2 = 4 := if_neg hq
    rw [e0]
    have e1 : maE q r nd at' q2 W = 4 := by
      unfold maE
      rw [if_neg hA, if_pos hq]
    have e2 : maW q r nd at' q2 W = W := by unfold maW; rw [e1]; rfl
    rw [e1, e2]
    refine FinK.mk ⟨[0, 1, 2, 3, 4, 5, 4, 5], _, _, ⟨cf, rfl, rfl⟩, ?_⟩
    (repeat' first | refine And.intro ?_ ?_ | exact xeC | fail)
    all_goals (exact xmC)
  have hq : okQ q2 := by
    by_cases h : okQ q2
    · exact h
    · exfalso
      rw [show checkI q2 = 4 from if_neg h] at hb
      omega
  refine cH18zoD2 (σ := []) (nl := []) (ccompat q q2) ?_
  rintro v h' ⟨rfl, rfl⟩ hcaps
  refine rH18zoD1 ?_
  repeat' (first | (fail_if_success (with_reducible refine xstp ?_)); first | ((with_reducible refine And.intro (fun (hb : _ = true) => ?_) (fun (hb : _ = false) => ?_)) <;> replace hb := xnC hb <;> (try first | exact xfC | exact bff hb (by assumption) | exact bff (by assumption) hb)) | (with_reducible refine Both.mk ?_ ?_) | ((with_reducible refine And.intro ?_ ?_); focus exact xoC) | (with_reducible intro hc; (try simp only [capsP, and_true] at hc); (try exact xfC)) | ((fail_if_success (with_reducible first | refine xgon ?_ | intro _)); (conv => whnf); (fail_if_success (fail_if_success (with_reducible first | refine xstp ?_ | refine Both.mk ?_ ?_ | refine xgon ?_ | intro _)))))
  · have hv : ¬ viol q q2 = 0 := by assumption
    have e1 : maE q r nd at' q2 W = 14 := by
      unfold maE
      rw [if_neg hA, if_neg (by simpa using hq), if_pos hv]
    have e2 : maW q r nd at' q2 W = W := by unfold maW; rw [e1]; rfl
    rw [e1, e2]
    refine FinK.mk ⟨[0, 1, 2, 3, 4, 5, 4, 5], _, _, ⟨cf, rfl, rfl⟩, ?_⟩
    (repeat' first | refine And.intro ?_ ?_ | exact xeC | fail)
    all_goals (exact xmC)
  all_goals have hv : viol q q2 = 0 := by assumption
  · rename_i i hi
    obtain ⟨p, hm, hD, h1⟩ := getP_yes hW hi (Key.i.inj hc)
    have e1 : maE q r nd at' q2 W = 7 := by
      unfold maE
      rw [if_neg hA, if_neg (by simpa using hq), if_neg (by simpa using hv), hm]
      rfl
    have e2 : maW q r nd at' q2 W = W := by unfold maW; rw [e1]; rfl
    rw [e1, e2]
    refine FinK.mk ⟨[0, 1, 2, 3, 4, 5, 4, 5], _, _, ⟨cf, rfl, rfl⟩, ?_⟩
    (repeat' first | refine And.intro ?_ ?_ | exact xeC | fail)
    all_goals (exact xmC)
  · have hn : W.get r = none := getP_no hW fun i hi h => hc i hi (by rw [h])
    have e1 : maE q r nd at' q2 W = 15 := by
      unfold maE
      rw [if_neg hA, if_neg (by simpa using hq), if_neg (by simpa using hv), hn]
      show (if 32 ≤ W.M.length then (15 : Int) else 0) = 15
      exact if_pos (by omega)
    have e2 : maW q r nd at' q2 W = W := by unfold maW; rw [e1]; rfl
    rw [e1, e2]
    refine FinK.mk ⟨[0, 1, 2, 3, 4, 5, 4, 5], _, _, ⟨cf, rfl, rfl⟩, ?_⟩
    (repeat' first | refine And.intro ?_ ?_ | exact xeC | fail)
    all_goals (exact xmC)
  · have hsl := sta_le (la := W.la) hpos hla
    refine cH18zoD2 (σ := [.whole 1, .whole 3]) (nl := []) (ilist q W.l c hl) ?_
    rintro v h' ⟨c', rfl, rfl⟩ hcaps
    refine rH18zoD1 ?_
    repeat' (first | (fail_if_success (with_reducible refine xstp ?_)); first | ((fail_if_success (with_reducible first | refine xgon ?_ | intro _)); (conv => whnf); (fail_if_success (fail_if_success (with_reducible first | refine xstp ?_ | refine xgon ?_ | intro _)))))
    refine LoopK.mk' {k : Nat // k ≤ W.l.length}
      (fun ⟨k, _⟩ => ⟨[(0, .c (.p 0 0 0)), (1, .c (.i .i64 r)), (2, .c (.i .i64 nd)), (3, .c (.i .i64 at')), (9, .c (.p 6 0 0)), (12, .c (.i .i64 ((W.l.take k).foldl (fun a s => min a s.q) (W.la + 1)))), (91, .c (.sl 7 0 4 0 W.l.length c')), (92, .c (.i .i64 W.l.length)), (93, .c (.i .i64 k))],
        [.one (wrc 1 2 id per W.la q), .one (hist 3 q W.l.length c), .one (peM 4 W.M W.ck), .one (smps true W.l c), prs 5 W.D cf, rqs W.D cf, .one (.cells true (encQ q2)), .one (smps true W.l c')]⟩)
      (fun k => W.l.length - k.1)
      ⟨⟨0, Nat.zero_le _⟩, [0, 1, 2, 3, 4, 5, 6, 7], ?_⟩ ?_
    · (repeat' first | refine And.intro ?_ ?_ | exact xeC | fail)
      all_goals (exact xmC)
    rintro ⟨k, hk⟩
    have hsk := hsl k
    repeat' (first | (fail_if_success (with_reducible refine xstp ?_)); first | ((with_reducible refine And.intro (fun (hb : _ = true) => ?_) (fun (hb : _ = false) => ?_)) <;> replace hb := xnC hb <;> (try first | exact xfC | exact bff hb (by assumption) | exact bff (by assumption) hb)) | (with_reducible refine Both.mk ?_ ?_) | ((with_reducible refine And.intro ?_ ?_); focus exact xoC) | (with_reducible intro hc; (try simp only [capsP, and_true] at hc); (try exact xfC)) | ((fail_if_success (with_reducible first | refine xgon ?_ | intro _)); (conv => whnf); (fail_if_success (fail_if_success (with_reducible first | refine xstp ?_ | refine Both.mk ?_ ?_ | refine xgon ?_ | intro _)))))
    · have e1 : (W.l.take (k + 1)).foldl (fun a s => min a s.q) (W.la + 1) = min ((W.l.take k).foldl (fun a s => min a s.q) (W.la + 1)) (W.l.getD k default).q := by
        rw [← List.take_append_getElem (show k < W.l.length by omega), List.foldl_append, getD_at (show k < W.l.length by omega)]
        rfl
      refine ⟨⟨k + 1, by omega⟩, [0, 1, 2, 3, 4, 5, 6, 7], by simp only; omega, ?_⟩
      simp only [e1]
      (repeat' first | refine And.intro ?_ ?_ | exact xeC | fail)
      all_goals first | (exact xmC) | (simp only [Int.toNat_natCast, Nat.zero_add]; done) | skip
      all_goals trace_state
    all_goals have ek : W.l.take k = W.l := List.take_of_length_le (by omega)
    all_goals rw [ek] at hsk ⊢
    all_goals try exact ((by assumption : ∀ (i : Nat), i < W.M.length → Key.i (W.M.getD i default).snd ≠ Key.i r) _ (by assumption) hc).elim
    all_goals (
      have hno : ∀ i, i < W.M.length → (W.M.getD i default).2 ≠ r := fun i hi h => hc i hi (by rw [h])
      have hn : W.get r = none := getP_no hW hno
      have e1 : maE q r nd at' q2 W = 0 := by
        unfold maE
        rw [if_neg hA, if_neg (by simpa using hq), if_neg (by simpa using hv), hn]
        show (if 32 ≤ W.M.length then (15 : Int) else 0) = 0
        exact if_neg (by omega)
      have e2 : maW q r nd at' q2 W = addPW W r (newP q q2 W nd at') := by unfold maW; rw [e1]; rfl
      rw [e1, e2]
      refine FinK.mk ⟨[0, 1, 2, 3, 4, 5, .adopt 4 r.toNat 8, .adopt 5 r.toNat 99], _, _, ⟨updC cf r 0, rfl, rfl⟩, ?_⟩
      (repeat' first | refine And.intro ?_ ?_ | exact xeC | fail)
      all_goals first
        | exact addPW_len.symm
        | exact mapP_adopt (fun x => rfl) hno hW hw
        | (intro x hx
           show Ck.leK _ _ (Ck.rk _ _ (prC 7 x x (if x = r.toNat then _ else _) (if x = r.toNat then _ else _))) True
           rw [if_neg hx, if_neg hx]
           exact prC_le (by simp [key, hx]))
        | skip
      have hsn : staF q q2 W = W.l.foldl (fun a s => min a s.q) (W.la + 1) := by unfold staF; first | exact if_pos ⟨by assumption, by assumption⟩ | (refine if_neg fun h => ?_; obtain ⟨h1, h2⟩ := h; simp_all)
      have hrt : ((r.toNat : Nat) : Int) = r := Int.toNat_of_nonneg (by omega)
      refine leK_cong (q'' := .cells true [.i .i64 r, .i .i64 nd, .b (q.rel && q2.rel), .i .i64 (staF q q2 W), .i .i64 (staF q q2 W - 1), .i .i64 (staF q q2 W - 1), .sl 99 0 1 0 0 0, .b (decide (1 < staF q q2 W)), .i .i64 at']) (by
        show Ck.rk _ _ (prC 7 r.toNat r.toNat ((addPW W r (newP q q2 W nd at')).D r.toNat) (updC cf r 0 r.toNat)) = _
        rw [show (addPW W r (newP q q2 W nd at')).D r.toNat = some (newP q q2 W nd at') from if_pos rfl, show updC cf r 0 r.toNat = 0 from if_pos rfl]
        simp [prC, encPr, newP, Ck.rk, C.rk, key, hrt]) ?_
      rw [hsn]
      (repeat' first | refine And.intro ?_ ?_ | exact xeC | fail)
      all_goals first
        | (simp [*]; done)
        | (intro x hx
           show Ck.leK _ _ (Ck.rk _ _ (rqO (if x = r.toNat then _ else _) (if x = r.toNat then _ else _))) True
           rw [if_neg hx, if_neg hx]
           exact rqO_le)
        | skip
      show nilLe (.one (rqO ((addPW W r (newP q q2 W nd at')).D r.toNat) (updC cf r 0 r.toNat))) _
      rw [show (addPW W r (newP q q2 W nd at')).D r.toNat = some (newP q q2 W nd at') from if_pos rfl, show updC cf r 0 r.toNat = 0 from if_pos rfl]
      refine ⟨rfl, rfl, ?_⟩
      (repeat' first | refine And.intro ?_ ?_ | exact xeC | fail)
      all_goals (exact xmC)
      skip)
  all_goals try exact ((by assumption : ∀ (i : Nat), i < W.M.length → Key.i (W.M.getD i default).snd ≠ Key.i r) _ (by assumption) hc).elim
  all_goals (
    have hno : ∀ i, i < W.M.length → (W.M.getD i default).2 ≠ r := fun i hi h => hc i hi (by rw [h])
    have hn : W.get r = none := getP_no hW hno
    have e1 : maE q r nd at' q2 W = 0 := by
      unfold maE
      rw [if_neg hA, if_neg (by simpa using hq), if_neg (by simpa using hv), hn]
      show (if 32 ≤ W.M.length then (15 : Int) else 0) = 0
      exact if_neg (by omega)
    have e2 : maW q r nd at' q2 W = addPW W r (newP q q2 W nd at') := by unfold maW; rw [e1]; rfl
    rw [e1, e2]
    refine FinK.mk ⟨[0, 1, 2, 3, 4, 5, .adopt 4 r.toNat 7, .adopt 5 r.toNat 99], _, _, ⟨updC cf r 0, rfl, rfl⟩, ?_⟩
    (repeat' first | refine And.intro ?_ ?_ | exact xeC | fail)
    all_goals first
      | exact addPW_len.symm
      | exact mapP_adopt (fun x => rfl) hno hW hw
      | (intro x hx
         show Ck.leK _ _ (Ck.rk _ _ (prC 7 x x (if x = r.toNat then _ else _) (if x = r.toNat then _ else _))) True
         rw [if_neg hx, if_neg hx]
         exact prC_le (by simp [key, hx]))
      | skip
    have hsn : staF q q2 W = W.la + 1 := by unfold staF; first | exact if_pos ⟨by assumption, by assumption⟩ | (refine if_neg fun h => ?_; obtain ⟨h1, h2⟩ := h; simp_all)
    have hrt : ((r.toNat : Nat) : Int) = r := Int.toNat_of_nonneg (by omega)
    refine leK_cong (q'' := .cells true [.i .i64 r, .i .i64 nd, .b (q.rel && q2.rel), .i .i64 (staF q q2 W), .i .i64 (staF q q2 W - 1), .i .i64 (staF q q2 W - 1), .sl 99 0 1 0 0 0, .b (decide (1 < staF q q2 W)), .i .i64 at']) (by
      show Ck.rk _ _ (prC 7 r.toNat r.toNat ((addPW W r (newP q q2 W nd at')).D r.toNat) (updC cf r 0 r.toNat)) = _
      rw [show (addPW W r (newP q q2 W nd at')).D r.toNat = some (newP q q2 W nd at') from if_pos rfl, show updC cf r 0 r.toNat = 0 from if_pos rfl]
      simp [prC, encPr, newP, Ck.rk, C.rk, key, hrt]) ?_
    rw [hsn]
    (repeat' first | refine And.intro ?_ ?_ | exact xeC | fail)
    all_goals first
      | (simp [*]; done)
      | (intro x hx
         show Ck.leK _ _ (Ck.rk _ _ (rqO (if x = r.toNat then _ else _) (if x = r.toNat then _ else _))) True
         rw [if_neg hx, if_neg hx]
         exact rqO_le)
      | skip
    show nilLe (.one (rqO ((addPW W r (newP q q2 W nd at')).D r.toNat) (updC cf r 0 r.toNat))) _
    rw [show (addPW W r (newP q q2 W nd at')).D r.toNat = some (newP q q2 W nd at') from if_pos rfl, show updC cf r 0 r.toNat = 0 from if_pos rfl]
    refine ⟨rfl, rfl, ?_⟩
    (repeat' first | refine And.intro ?_ ?_ | exact xeC | fail)
    all_goals (exact xmC)
    skip)
end Go.Proofs.YtofcadbfjbefkaaGreat


namespace Go.Proofs.YtofcadbfjbefkaaGreat
open Go.X
set_option linter.unusedSimpArgs false
set_option linter.unusedVariables false
/-! ### Contains -/
set_option maxRecDepth 10000 in
theorem cindex (wa : Bool) (l : List Int) (c : Nat) (n : Int) (hl : l.length ≤ 1000000) :
    Ctr Tryz.prog 67 [.c (.sl 0 0 1 0 l.length c), .c (.i .i64 n)] [.one (ints wa l c)]
      fun v h => ∃ k : Int, (0 ≤ k ↔ n ∈ l) ∧ v = .c (.i .i64 k) ∧ h = [.one (ints wa l c)] := by
  refine Ctr.mk' tbv mixed Tryz.func67 rfl rfl rfl (fun _ _ => by kernel_rfl) (by kernel_rfl) (by rfl) (by rfl) (by (repeat' first | refine And.intro ?_ ?_ | exact xeC | fail)) ?_
  repeat' (first | (fail_if_success (with_reducible refine xstp ?_)); first | (with_reducible intro hc; (try simp only [capsP, and_true] at hc); (try exact xfC)) | ((fail_if_success (with_reducible first | refine xgon ?_ | intro _)); (conv => whnf); (fail_if_success (fail_if_success (with_reducible first | refine xstp ?_ | refine xgon ?_ | intro _)))))
  refine LoopK.mk' {i : Nat // i ≤ l.length ∧ ∀ j, j < i → l.getD j default ≠ n}
    (fun ⟨i, _⟩ => ⟨[(0, .c (.sl 0 0 1 0 l.length c)), (1, .c (.i .i64 n)), (7, .c (.i .i64 l.length)), (8, .c (.i .i64 (i : Nat)))], [.one (ints wa l c)]⟩) (fun k => l.length - k.1)
    ⟨⟨0, Nat.zero_le _, fun j h => absurd h (Nat.not_lt_zero j)⟩, [0], ?_⟩ ?_
  · (repeat' first | refine And.intro ?_ ?_ | exact xeC | fail)
  rintro ⟨i, hi, hno⟩
  repeat' (first | (fail_if_success (with_reducible refine xstp ?_)); first | ((with_reducible refine And.intro (fun (hb : _ = true) => ?_) (fun (hb : _ = false) => ?_)) <;> replace hb := xnC hb <;> (try first | exact xfC | exact bff hb (by assumption) | exact bff (by assumption) hb)) | ((with_reducible refine And.intro ?_ ?_); focus exact xoC) | (with_reducible intro hc; (try simp only [capsP, and_true] at hc); (try exact xfC)) | ((fail_if_success (with_reducible first | refine xgon ?_ | intro _)); (conv => whnf); (fail_if_success (fail_if_success (with_reducible first | refine xstp ?_ | refine xgon ?_ | intro _)))))
  · refine FinK.mk ⟨[0], _, _, ⟨i, ⟨fun _ => ?_, fun _ => Int.natCast_nonneg i⟩, rfl, rfl⟩, ?_⟩
    · have : n = l.getD i default := by simpa [Go.X.encI] using hb
      rw [this, getD_at (by omega)]
      exact List.getElem_mem _
    · (repeat' first | refine And.intro ?_ ?_ | exact xeC | fail)
  · refine ⟨⟨i + 1, by omega, fun j hj => ?_⟩, [0], by simp only; omega, ?_⟩
    · rcases (by omega : j < i ∨ j = i) with h | rfl
      · exact hno j h
      · intro e
        apply hb
        simpa [Go.X.encI] using e.symm
    · (repeat' first | refine And.intro ?_ ?_ | exact xeC | fail)
  · refine FinK.mk ⟨[0], _, _, ⟨-1, ⟨fun h => by omega, fun h => ?_⟩, rfl, rfl⟩, ?_⟩
    · obtain ⟨j, hj, rfl⟩ := List.mem_iff_getElem.1 h
      exact absurd (getD_at hj) (hno j (by omega))
    · (repeat' first | refine And.intro ?_ ?_ | exact xeC | fail)
theorem rH18zoE0 {σ : List Sg} {H h' : List Fam} {v : T} {K : T → List Fam → Prop} {H' : List Fam} {v' : T} {N : Nat} (hk : K v' H') (hN : H.length = N := by (try simp only [↓List.length_cons, ↓List.length_nil, Nat.reduceAdd]) <;> rfl) (h : givesF σ N H σ h' = some H' := by (try simp (maxSteps := 1000000) only [givesF, setF, updF, Fam.zeroth, Fam.rk, Ck.rk, C.rk, E.rk, T.rk, key, List.map_cons, List.map_nil, List.cons_append, List.nil_append, List.length_cons, List.length_nil, Option.map_some, Option.bind_some, Nat.reduceAdd, Nat.zero_add, Nat.add_zero, Nat.add_sub_cancel_left, Int.toNat_natCast, reps, List.all_cons, List.all_nil, C.flat, List.append_eq, Bool.not_true, Bool.and_true, Bool.or_false, Bool.or_self, Bool.not_false, List.append_nil, Bool.and_self, ↓prC_rk, ↓rqO_rk]) <;> rfl) (hv : v.rk σ N = v' := by (try simp only [givesF, setF, updF, Fam.zeroth, Fam.rk, Ck.rk, C.rk, E.rk, T.rk, key, List.map_cons, List.map_nil, List.cons_append, List.nil_append, List.length_cons, List.length_nil, Option.map_some, Option.bind_some, Nat.reduceAdd, Nat.zero_add, Nat.add_zero, Nat.add_sub_cancel_left, Int.toNat_natCast, reps, List.all_cons, List.all_nil, C.flat, List.append_eq, Bool.not_true, Bool.and_true, Bool.or_false, Bool.or_self, Bool.not_false, List.append_nil, Bool.and_self, ↓prC_rk, ↓rqO_rk]) <;> rfl) : RetG σ H h' v K := ret_mk3 hN h hv hk
theorem cH18zoE2 {P : Program} {F : Nat} {args : List T} {H : List Fam} {K : T → List Fam → Prop} {σ : List Sg} {nl : List Fam} {args0 : List T} {h0 : List Fam} {Q : T → List Fam → Prop} {H2 H1 : List Fam} {N n : Nat} (hc : Ctr P F args0 h0 Q) (hk : ∀ v h', Q v h' → capsP h' → RetG σ H2 h' v K) (hap : apart σ = true := by rfl) (hnl : nl.all nilB = true := by rfl) (h1 : H ++ nl = H1 := by first | exact List.append_nil _ | ((try simp only [List.cons_append, List.nil_append]) <;> rfl)) (hN : H1.length = N := by (try simp only [↓List.length_cons, ↓List.length_nil, Nat.reduceAdd]) <;> rfl) (hn : H.length = n := by (try simp only [↓List.length_cons, ↓List.length_nil, Nat.reduceAdd]) <;> rfl) (hH : givesF σ N H1 σ h0 = some H2 := by (try simp (maxSteps := 1000000) only [givesF, setF, updF, Fam.zeroth, Fam.rk, Ck.rk, C.rk, E.rk, T.rk, key, List.map_cons, List.map_nil, List.cons_append, List.nil_append, List.length_cons, List.length_nil, Option.map_some, Option.bind_some, Nat.reduceAdd, Nat.zero_add, Nat.add_zero, Nat.add_sub_cancel_left, Int.toNat_natCast, reps, List.all_cons, List.all_nil, C.flat, List.append_eq, Bool.not_true, Bool.and_true, Bool.or_false, Bool.or_self, Bool.not_false, List.append_nil, Bool.and_self, ↓prC_rk, ↓rqO_rk]) <;> rfl) (hle : leS n H1 σ N σ h0 (belsK N (h0.map (Fam.rk σ N)) (argsK n args (args0.map (T.rk σ N)) True)) := by repeat' first | refine And.intro ?_ ?_ | exact xeC | fail) : CallK P F args H K := CallK.mk3 hc hap hnl h1 hN hn hH hle hk
set_option maxRecDepth 10000 in
theorem ccontains (wa : Bool) (l : List Int) (c : Nat) (n : Int) (hl : l.length ≤ 1000000) :
    Ctr Tryz.prog 44 [.c (.sl 0 0 1 0 l.length c), .c (.i .i64 n)] [.one (ints wa l c)]
      fun v h => v = .c (.b (decide (n ∈ l))) ∧ h = [.one (ints wa l c)] := by
  refine Ctr.mk' tbv mixed Tryz.func44 rfl rfl rfl (fun _ _ => by kernel_rfl) (by kernel_rfl) (by rfl) (by rfl) (by (repeat' first | refine And.intro ?_ ?_ | exact xeC | fail)) ?_
  repeat' (first | (fail_if_success (with_reducible refine xstp ?_)); first | (with_reducible intro hc; (try simp only [capsP, and_true] at hc); (try exact xfC)) | ((fail_if_success (with_reducible first | refine xgon ?_ | intro _)); (conv => whnf); (fail_if_success (fail_if_success (with_reducible first | refine xstp ?_ | refine xgon ?_ | intro _)))))
  refine cH18zoE2 (σ := [.whole 0]) (nl := []) (cindex wa l c n hl) ?_
  rintro v h' ⟨k, hk, rfl, rfl⟩ hcaps
  refine rH18zoE0 ?_
  repeat' (first | (fail_if_success (with_reducible refine xstp ?_)); first | ((fail_if_success (with_reducible first | refine xgon ?_ | intro _)); (conv => whnf); (fail_if_success (fail_if_success (with_reducible first | refine xstp ?_ | refine xgon ?_ | intro _)))))
  refine FinK.mk ⟨[0], _, _, ⟨rfl, rfl⟩, ?_⟩; (repeat' first | refine And.intro ?_ ?_ | exact xeC | fail)
  exact decide_eq_decide.2 hk

/-! ### Ack -/
def setP (W : Ws) (r : Int) (p : Pr) : Ws := ⟨W.l, W.la, W.M, W.ck, fun y => if y = r.toNat then some p else W.D y⟩
theorem setP_self {W : Ws} {r : Int} {p : Pr} (h : W.D r.toNat = some p) : setP W r p = W := by
  unfold setP
  have e : (fun y => if y = r.toNat then some p else W.D y) = W.D := by
    funext y
    split
    · rename_i e; rw [e, h]
    · rfl
  rw [e]
theorem chk_f {x : Pk} (h : chk x = 0) (hk : x.k = 3) : 1 ≤ x.f ∧ x.f ≤ 1099511627776 := by
  have hr : rngP x := by
    by_cases hr : rngP x
    · exact hr
    · unfold chk at h; rw [if_pos hr] at h; omega
  have := hr.2.2.2.2.2.2.1
  omega
theorem prs_set {N N' F F' X : Nat} {σ : List Sg} {D D' : Nat → Option Pr} {cf cf' : Nat → Nat} {c1 : Ck} (hk : ∀ x, x ≠ X → key σ N' F x = (F', x)) (hD : ∀ y, y ≠ X → D' y = D y) (hc : ∀ y, y ≠ X → cf' y = cf y)
    (h1 : c1.leK N ((prC F X X (D' X) (cf' X)).rk σ N') True) (y : Nat) : (if y = X then c1 else prC F' y y (D y) (cf y)).leK N ((prC F y y (D' y) (cf' y)).rk σ N') True := by
  by_cases h : y = X
  · subst h; rw [if_pos rfl]; exact h1
  · rw [if_neg h, hD y h, hc y h]; exact prC_le (hk y h)
theorem prC_cells {N N' F X c : Nat} {σ : List Sg} {o : Option Pr} {p : Pr} {l : List C} (ho : o = some p) (hl : l = encPr (key σ N' F X).1 (key σ N' F X).2 X p c) : (Ck.cells true l).leK N ((prC F X X o c).rk σ N') True := by
  subst ho hl
  rw [prC_rk]
  simp [prC, encPr, Ck.leK, sameB, eqL, C.eqK, sameK, ifB, kNat]
theorem prC_cells2 {N N' F X c : Nat} {σ : List Sg} {o : Option Pr} {p : Pr} {l : List C} (ho : o = some p) (hl : eqL N l (encPr (key σ N' F X).1 (key σ N' F X).2 X p c) True) : (Ck.cells true l).leK N ((prC F X X o c).rk σ N') True := by
  subst ho
  rw [prC_rk]
  exact ⟨rfl, hl⟩
theorem rqs_same {N N' X : Nat} {σ : List Sg} {D D' : Nat → Option Pr} {cf : Nat → Nat} {p p' : Pr} (h1 : D X = some p) (h2 : D' X = some p') (h3 : p'.rq = p.rq) (hD : ∀ y, y ≠ X → D' y = D y) (y : Nat) : (rqO (D y) (cf y)).leK N ((rqO (D' y) (cf y)).rk σ N') True := by
  by_cases h : y = X
  · subst h
    have e : rqO (D' y) (cf y) = rqO (D y) (cf y) := by rw [h1, h2]; simp only [rqO, h3]
    rw [e]
    exact rqO_le
  · rw [hD y h]; exact rqO_le
theorem chk_m {x : Pk} (h : chk x = 0) : x.m.length ≤ 32 := by
  unfold chk at h
  split at h
  · omega
  · split at h
    · omega
    · omega
def akS (p : Pr) (n : Int) : Pr := if n < p.st then ⟨p.nd, p.rel, p.st, p.ac, p.se, p.rq, true, p.bt⟩ else if n ≤ p.se ∧ ¬ n ∈ p.rq then ⟨p.nd, p.rel, p.st, p.ac, p.se, p.rq ++ [n], p.bg, p.bt⟩ else p
def akC (p : Pr) (f : Int) : Pr := ⟨p.nd, p.rel, p.st, max p.ac (f - 1), p.se, p.rq, p.bg, p.bt⟩
def akP (x : Pk) (p : Pr) : Pr := if p.rel = false then p else x.m.foldl akS (akC p x.f)
def akE (id : Int) (x : Pk) (W : Ws) : Int :=
  if chk x ≠ 0 ∨ x.k ≠ 3 ∨ x.w ≠ id ∨ W.la + 1 < x.f then 4 else if ∃ n ∈ x.m, W.la < n then 4 else if (W.get x.r).isSome then 0 else 6
def akW (id : Int) (x : Pk) (W : Ws) : Ws := if akE id x W = 0 then (match W.get x.r with | some p => setP W x.r (akP x p) | none => W) else W
theorem ak_len (m : List Int) (p : Pr) (f : Int) : ∀ k, ((m.take k).foldl akS (akC p f)).rq.length ≤ p.rq.length + m.length := by
  have h : ∀ (t : List Int) (a : Pr), (t.foldl akS a).rq.length ≤ a.rq.length + t.length := by
    intro t
    induction t with
    | nil => intro a; exact Nat.le_refl _
    | cons n t ih =>
      intro a
      refine Nat.le_trans (ih _) ?_
      unfold akS
      split
      · simp only [List.length_cons]; omega
      · split
        · simp only [List.length_cons, List.length_append, List.length_nil]; omega
        · simp only [List.length_cons]; omega
  intro k
  have := h (m.take k) (akC p f)
  have h2 : (m.take k).length ≤ m.length := by rw [List.length_take]; omega
  have h3 : (akC p f).rq = p.rq := rfl
  rw [h3] at this
  omega
abbrev wK (id per : Int) (q : Qos) (W : Ws) (cf : Nat → Nat) (wa : Bool) (m : List Int) (cm : Nat) : List Fam :=
  [.one (wrc 1 2 id per W.la q), .one .no, .one (peM 3 W.M W.ck), prs 6 W.D cf, .one .no, .one (ints wa m cm), rqs W.D cf]
theorem rH18zoE1 {σ : List Sg} {H h' : List Fam} {v : T} {K : T → List Fam → Prop} {H' : List Fam} {v' : T} {N : Nat} (hk : K v' H') (hN : H.length = N := by (try simp only [↓List.length_cons, ↓List.length_nil, Nat.reduceAdd]) <;> rfl) (h : givesF σ N H σ h' = some H' := by (try simp (maxSteps := 1000000) only [givesF, setF, updF, Fam.zeroth, Fam.rk, Ck.rk, C.rk, E.rk, T.rk, key, List.map_cons, List.map_nil, List.cons_append, List.nil_append, List.length_cons, List.length_nil, Option.map_some, Option.bind_some, Nat.reduceAdd, Nat.zero_add, Nat.add_zero, Nat.add_sub_cancel_left, Int.toNat_natCast, reps, List.all_cons, List.all_nil, C.flat, List.append_eq, Bool.not_true, Bool.and_true, Bool.or_false, Bool.or_self, Bool.not_false, List.append_nil, Bool.and_self, ↓prC_rk, ↓rqO_rk, encP]) <;> rfl) (hv : v.rk σ N = v' := by (try simp only [givesF, setF, updF, Fam.zeroth, Fam.rk, Ck.rk, C.rk, E.rk, T.rk, key, List.map_cons, List.map_nil, List.cons_append, List.nil_append, List.length_cons, List.length_nil, Option.map_some, Option.bind_some, Nat.reduceAdd, Nat.zero_add, Nat.add_zero, Nat.add_sub_cancel_left, Int.toNat_natCast, reps, List.all_cons, List.all_nil, C.flat, List.append_eq, Bool.not_true, Bool.and_true, Bool.or_false, Bool.or_self, Bool.not_false, List.append_nil, Bool.and_self, ↓prC_rk, ↓rqO_rk, encP]) <;> rfl) : RetG σ H h' v K := ret_mk3 hN h hv hk
set_option maxRecDepth 10000 in
set_option maxHeartbeats 16000000 in
theorem cack (id per : Int) (q : Qos) (W : Ws) (cf : Nat → Nat) (x : Pk) (wa : Bool) (cm : Nat) (at' : Int) (hW : WOk W) (hla : 0 ≤ W.la ∧ W.la ≤ 1000000) (hp : x.p.length ≤ 1000000) (hm : x.m.length ≤ 1000000) (hrq : ∀ y p, W.D y = some p → p.rq.length ≤ 100000) :
    Ctr Tryz.prog 14 [.c (.p 0 0 0), .a (encP (.sl 5 0 1 0 x.m.length cm) x), .c (.i .i64 at')] [.one (wrc 1 2 id per W.la q), .one .no, .one (peM 3 W.M W.ck), prs 4 W.D cf, rqs W.D cf, .one (ints wa x.m cm)]
      fun v h => ∃ cf', v = .c (.i .i64 (akE id x W)) ∧ h = wK id per q (akW id x W) cf' wa x.m cm := by
  refine Ctr.mk' tbv mixed Tryz.func14 rfl rfl rfl (fun _ _ => by kernel_rfl) (by kernel_rfl) (by rfl) (by rfl) (by (repeat' first | refine And.intro ?_ ?_ | exact xeC | fail) <;> exact xmC) ?_
  repeat' (first | (fail_if_success (with_reducible refine xstp ?_)); first | (with_reducible intro hc; (try simp only [capsP, and_true] at hc); (try exact xfC)) | ((fail_if_success (with_reducible first | refine xgon ?_ | intro _)); (conv => whnf); (fail_if_success (fail_if_success (with_reducible first | refine xstp ?_ | refine xgon ?_ | intro _)))))
  refine cH18zoE2 (σ := [.whole 5]) (nl := []) (cCheck x wa cm hp hm) ?_
  rintro v h' ⟨rfl, rfl⟩ hcaps
  refine rH18zoE1 ?_
  repeat' (first | (fail_if_success (with_reducible refine xstp ?_)); first | ((with_reducible refine And.intro (fun (hb : _ = true) => ?_) (fun (hb : _ = false) => ?_)) <;> replace hb := xnC hb <;> (try first | exact xfC | exact bff hb (by assumption) | exact bff (by assumption) hb)) | ((with_reducible refine And.intro ?_ ?_); focus exact xoC) | ((fail_if_success (with_reducible first | refine xgon ?_ | intro _)); (conv => whnf); (fail_if_success (fail_if_success (with_reducible first | refine xstp ?_ | refine xgon ?_ | intro _)))))
  all_goals try (
    have e1 : akE id x W = 4 := by
      unfold akE
      rw [if_pos (by omega)]
    have e2 : akW id x W = W := by unfold akW; rw [e1]; rfl
    rw [e1, e2]
    refine FinK.mk ⟨[0, 1, 2, 3, 4, 5, 4], _, _, ⟨cf, rfl, rfl⟩, ?_⟩
    (repeat' first | refine And.intro ?_ ?_ | exact xeC | fail)
    all_goals (exact xmC)
    done)
  have hA : ¬ (chk x ≠ 0 ∨ x.k ≠ 3 ∨ x.w ≠ id ∨ W.la + 1 < x.f) := by omega
  refine LoopK.mk' {k : Nat // k ≤ x.m.length ∧ ∀ j, j < k → x.m.getD j default ≤ W.la}
    (fun ⟨k, _⟩ => ⟨[(0, .c (.p 0 0 0)), (4, .c (.p 6 0 0)), (42, .c (.sl 5 0 1 0 x.m.length cm)), (43, .c (.i .i64 x.m.length)), (44, .c (.i .i64 k))],
      [.one (wrc 1 2 id per W.la q), .one .no, .one (peM 3 W.M W.ck), prs 4 W.D cf, rqs W.D cf, .one (ints wa x.m cm), .one (.cells true (encP (.sl 5 0 1 0 x.m.length cm) x))]⟩)
    (fun k => x.m.length - k.1)
    ⟨⟨0, Nat.zero_le _, fun j h => absurd h (Nat.not_lt_zero j)⟩, [0, 1, 2, 3, 4, 5, 6], ?_⟩ ?_
  · (repeat' first | refine And.intro ?_ ?_ | exact xeC | fail)
    all_goals (exact xmC)
  rintro ⟨k, hk, hno⟩
  repeat' (first | (fail_if_success (with_reducible refine xstp ?_)); first | ((with_reducible refine And.intro (fun (hb : _ = true) => ?_) (fun (hb : _ = false) => ?_)) <;> replace hb := xnC hb <;> (try first | exact xfC | exact bff hb (by assumption) | exact bff (by assumption) hb)) | (with_reducible refine Both.mk ?_ ?_) | ((with_reducible refine And.intro ?_ ?_); focus exact xoC) | (with_reducible intro hc; (try simp only [capsP, and_true] at hc); (try exact xfC)) | ((fail_if_success (with_reducible first | refine xgon ?_ | intro _)); (conv => whnf); (fail_if_success (fail_if_success (with_reducible first | refine xstp ?_ | refine Both.mk ?_ ?_ | refine xgon ?_ | intro _)))))
  · have hlt : W.la < x.m.getD k default := by simpa [Go.X.encI] using hb
    have e1 : akE id x W = 4 := by
      unfold akE
      rw [if_neg hA, if_pos ⟨x.m.getD k default, by rw [getD_at (by omega)]; exact List.getElem_mem _, hlt⟩]
    have e2 : akW id x W = W := by unfold akW; rw [e1]; rfl
    rw [e1, e2]
    refine FinK.mk ⟨[0, 1, 2, 3, 4, 5, 4], _, _, ⟨cf, rfl, rfl⟩, ?_⟩
    (repeat' first | refine And.intro ?_ ?_ | exact xeC | fail)
    all_goals (exact xmC)
  · have hle : x.m.getD k default ≤ W.la := by simpa [Go.X.encI] using hb
    refine ⟨⟨k + 1, by omega, fun j hj => ?_⟩, [0, 1, 2, 3, 4, 5, 6], by simp only; omega, ?_⟩
    · rcases (by omega : j < k ∨ j = k) with h | rfl
      · exact hno j h
      · exact hle
    · (repeat' first | refine And.intro ?_ ?_ | exact xeC | fail)
      all_goals (exact xmC)
  all_goals (
    have hB : ¬ ∃ n ∈ x.m, W.la < n := fun ⟨n, hn, h⟩ => by
      obtain ⟨j, hj, rfl⟩ := List.mem_iff_getElem.1 hn
      have := hno j (by omega)
      rw [getD_at hj] at this
      omega)
  rotate_left 1
  · have hn := getP_no hW (w := x.r) fun i hi h => hc i hi (by rw [h])
    have e1 : akE id x W = 6 := by
      unfold akE
      rw [if_neg hA, if_neg hB, hn]
      rfl
    have e2 : akW id x W = W := by unfold akW; rw [e1]; rfl
    rw [e1, e2]
    refine FinK.mk ⟨[0, 1, 2, 3, 4, 5, 4], _, _, ⟨cf, rfl, rfl⟩, ?_⟩
    (repeat' first | refine And.intro ?_ ?_ | exact xeC | fail)
    all_goals (exact xmC)
  rename_i i hi
  have en : (W.M.getD i default).2 = x.r := Key.i.inj hc
  obtain ⟨p, hg, hp2, hr1⟩ := getP_yes hW hi en
  have e1 : akE id x W = 0 := by
    unfold akE
    rw [if_neg hA, if_neg hB, hg]
    rfl
  have e2 : akW id x W = setP W x.r (akP x p) := by unfold akW; rw [if_pos e1, hg]
  rw [en]
  refine ManyK.mk ⟨.cells true (encPr 4 x.r.toNat x.r.toNat p (cf x.r.toNat)), by simp only [hp2]; rfl, ?_⟩
  repeat' (first | (fail_if_success (with_reducible refine xstp ?_)); first | ((with_reducible refine And.intro (fun (hb : _ = true) => ?_) (fun (hb : _ = false) => ?_)) <;> replace hb := xnC hb <;> (try first | exact xfC | exact bff hb (by assumption) | exact bff (by assumption) hb)) | ((fail_if_success (with_reducible first | refine xgon ?_ | intro _)); (conv => whnf); (fail_if_success (fail_if_success (with_reducible first | refine xstp ?_ | refine xgon ?_ | intro _)))))
  · have hrel : p.rel = false := by assumption
    have e3 : akP x p = p := if_pos hrel
    rw [e1, e2, e3, setP_self hp2]
    refine FinK.mk ⟨[0, 1, 2, 3, 4, 5, 4], _, _, ⟨cf, rfl, rfl⟩, ?_⟩
    (repeat' first | refine And.intro ?_ ?_ | exact xeC | fail)
    all_goals (exact xmC)
  have hf := chk_f (x := x) (by omega) (by omega)
  refine ManyK.mk ⟨.cells true (encPr 4 x.r.toNat x.r.toNat p (cf x.r.toNat)), by simp only [hp2]; rfl, ?_⟩
  repeat' (first | (fail_if_success (with_reducible refine xstp ?_)); first | ((with_reducible refine And.intro ?_ ?_); focus exact xoC) | ((fail_if_success (with_reducible first | refine xgon ?_ | intro _)); (conv => whnf); (fail_if_success (fail_if_success (with_reducible first | refine xstp ?_ | refine xgon ?_ | intro _)))))
  refine ManyK.mk ⟨.cells true (encPr 4 x.r.toNat x.r.toNat p (cf x.r.toNat)), by simp only [hp2]; rfl, ?_⟩
  repeat' (first | (fail_if_success (with_reducible refine xstp ?_)); first | ((fail_if_success (with_reducible first | refine xgon ?_ | intro _)); (conv => whnf); (fail_if_success (fail_if_success (with_reducible first | refine xstp ?_ | refine xgon ?_ | intro _)))))
  have hP0 : akP x p = x.m.foldl akS (akC p x.f) := if_neg (by simp [*])
  refine LoopK.mk' ({k : Nat // k ≤ x.m.length} × (Nat → Nat))
    (fun ⟨⟨k, _⟩, cf1⟩ => ⟨[(9, .c (.p 3 x.r.toNat 0)), (81, .c (.sl 5 0 1 0 x.m.length cm)), (82, .c (.i .i64 x.m.length)), (83, .c (.i .i64 k))],
      [.one (wrc 1 2 id per W.la q), .one .no, .one (peM 3 W.M W.ck), prs 7 (setP W x.r ((x.m.take k).foldl akS (akC p x.f))).D cf1, .one .no, .one (ints wa x.m cm), .one (.cells true (encP (.sl 5 0 1 0 x.m.length cm) x)), rqs (setP W x.r ((x.m.take k).foldl akS (akC p x.f))).D cf1]⟩)
    (fun k => x.m.length - k.1.1)
    ⟨⟨⟨0, Nat.zero_le _⟩, cf⟩, [0, 1, 2, 3, 4, 5, 6, 4], ?_⟩ ?_
  · (repeat' first | refine And.intro ?_ ?_ | exact xeC | fail)
    all_goals first
      | (exact xmC)
      | exact fun y => prs_set (fun x _ => rfl) (fun y hy => if_neg hy) (fun y hy => rfl) (prC_cells (if_pos rfl) rfl) y
      | exact fun y => rqs_same (p' := akC p x.f) hp2 (if_pos rfl) rfl (fun y hy => if_neg hy) y
  rintro ⟨⟨k, hk⟩, cf1⟩
  have hp3 : (setP W x.r ((x.m.take k).foldl akS (akC p x.f))).D x.r.toNat = some ((x.m.take k).foldl akS (akC p x.f)) := if_pos rfl
  repeat' (first | (fail_if_success (with_reducible refine xstp ?_)); first | ((with_reducible refine And.intro (fun (hb : _ = true) => ?_) (fun (hb : _ = false) => ?_)) <;> replace hb := xnC hb <;> (try first | exact xfC | exact bff hb (by assumption) | exact bff (by assumption) hb)) | ((with_reducible refine And.intro ?_ ?_); focus exact xoC) | (with_reducible intro hc; (try simp only [capsP, and_true] at hc); (try exact xfC)) | ((fail_if_success (with_reducible first | refine xgon ?_ | intro _)); (conv => whnf); (fail_if_success (fail_if_success (with_reducible first | refine xstp ?_ | refine xgon ?_ | intro _)))))
  rotate_left 1
  · have ek : x.m.take k = x.m := List.take_of_length_le (by omega)
    rw [e1, e2, hP0]
    rw [ek]
    refine FinK.mk ⟨[0, 1, 2, 3, 4, 5, 7], _, _, ⟨cf1, rfl, rfl⟩, ?_⟩
    (repeat' first | refine And.intro ?_ ?_ | exact xeC | fail)
    all_goals (exact xmC)
  have hsk : (x.m.take (k + 1)).foldl akS (akC p x.f) = akS ((x.m.take k).foldl akS (akC p x.f)) (x.m.getD k default) := by
    rw [← List.take_append_getElem (show k < x.m.length by omega), List.foldl_append, getD_at (show k < x.m.length by omega)]
    rfl
  have hPl := ak_len x.m p x.f k
  generalize (x.m.take k).foldl akS (akC p x.f) = P at *
  refine ManyK.mk ⟨.cells true (encPr 7 x.r.toNat x.r.toNat P (cf1 x.r.toNat)), by simp only [hp3]; rfl, ?_⟩
  repeat' (first | (fail_if_success (with_reducible refine xstp ?_)); first | ((with_reducible refine And.intro (fun (hb : _ = true) => ?_) (fun (hb : _ = false) => ?_)) <;> replace hb := xnC hb <;> (try first | exact xfC | exact bff hb (by assumption) | exact bff (by assumption) hb)) | ((fail_if_success (with_reducible first | refine xgon ?_ | intro _)); (conv => whnf); (fail_if_success (fail_if_success (with_reducible first | refine xstp ?_ | refine xgon ?_ | intro _)))))
  · have e3 : akS P (x.m.getD k default) = ⟨P.nd, P.rel, P.st, P.ac, P.se, P.rq, true, P.bt⟩ := if_pos (by assumption)
    rw [e3] at hsk
    refine ManyK.mk ⟨.cells true (encPr 7 x.r.toNat x.r.toNat P (cf1 x.r.toNat)), by simp only [hp3]; rfl, ?_⟩
    repeat' (first | (fail_if_success (with_reducible refine xstp ?_)); first | ((with_reducible refine And.intro ?_ ?_); focus exact xoC) | ((fail_if_success (with_reducible first | refine xgon ?_ | intro _)); (conv => whnf); (fail_if_success (fail_if_success (with_reducible first | refine xstp ?_ | refine xgon ?_ | intro _)))))
    refine ⟨⟨⟨k + 1, by omega⟩, cf1⟩, [0, 1, 2, 3, 4, 5, 6, 7], by simp only; omega, ?_⟩
    simp only [hsk]
    (repeat' first | refine And.intro ?_ ?_ | exact xeC | fail)
    all_goals first
      | (exact xmC)
      | exact fun y => prs_set (fun x _ => rfl) (fun y hy => (if_neg hy).trans (if_neg hy).symm) (fun y hy => rfl) (prC_cells2 (if_pos rfl) (by simp [eqL, C.eqK, sameK, ifB, kNat, encPr, key])) y
      | exact fun y => rqs_same (p' := ⟨P.nd, P.rel, P.st, P.ac, P.se, P.rq, true, P.bt⟩) hp3 (if_pos rfl) rfl (fun y hy => (if_neg hy).trans (if_neg hy).symm) y
      | skip
    all_goals trace_state
  refine ManyK.mk ⟨.cells true (encPr 7 x.r.toNat x.r.toNat P (cf1 x.r.toNat)), by simp only [hp3]; rfl, ?_⟩
  repeat' (first | (fail_if_success (with_reducible refine xstp ?_)); first | ((with_reducible refine And.intro (fun (hb : _ = true) => ?_) (fun (hb : _ = false) => ?_)) <;> replace hb := xnC hb <;> (try first | exact xfC | exact bff hb (by assumption) | exact bff (by assumption) hb)) | ((with_reducible refine And.intro ?_ ?_); focus exact xoC) | ((fail_if_success (with_reducible first | refine xgon ?_ | intro _)); (conv => whnf); (fail_if_success (fail_if_success (with_reducible first | refine xstp ?_ | refine xgon ?_ | intro _)))))
  rotate_left 1
  · have e3 : akS P (x.m.getD k default) = P := by unfold akS; rw [if_neg (by omega), if_neg (fun h => by have := h.1; omega)]
    rw [e3] at hsk
    refine ⟨⟨⟨k + 1, by omega⟩, cf1⟩, [0, 1, 2, 3, 4, 5, 6, 7], by simp only; omega, ?_⟩
    simp only [hsk]
    (repeat' first | refine And.intro ?_ ?_ | exact xeC | fail)
    all_goals (exact xmC)
  refine ManyK.mk ⟨.cells true (encPr 7 x.r.toNat x.r.toNat P (cf1 x.r.toNat)), by simp only [hp3]; rfl, ?_⟩
  repeat' (first | (fail_if_success (with_reducible refine xstp ?_)); first | ((fail_if_success (with_reducible first | refine xgon ?_ | intro _)); (conv => whnf); (fail_if_success (fail_if_success (with_reducible first | refine xstp ?_ | refine xgon ?_ | intro _)))))
  have hpl := hrq _ _ hp2
  have hm32 := chk_m (x := x) (by omega)
  have hrow : rqO ((setP W x.r P).D x.r.toNat) (cf1 x.r.toNat) = ints true P.rq (cf1 x.r.toNat) := by rw [hp3]; rfl
  refine cH18zoE2 (σ := [.mem 7 (x.r.toNat)]) (nl := []) (ccontains true P.rq (cf1 x.r.toNat) (x.m.getD k default) (by omega)) ?_ (hle := by (repeat' first | refine And.intro ?_ ?_ | exact xeC | fail) <;> (refine ManyK.mk ⟨_, hrow, ?_⟩ <;> (repeat' first | refine And.intro ?_ ?_ | exact xeC | fail)))
  rintro v h' ⟨rfl, rfl⟩ hcaps
  refine rH18zoE1 ?_
  have hback : (fun y => if y = x.r.toNat then Ck.row true false 3 1 P.rq.length (cf1 x.r.toNat) (Go.X.rowOf Go.X.encI P.rq) else if y = x.r.toNat then Ck.row true false 3 1 P.rq.length (cf1 x.r.toNat) (Go.X.rowOf Go.X.encI P.rq) else rqO ((setP W x.r P).D y) (cf1 y)) = fun y => rqO ((setP W x.r P).D y) (cf1 y) := by
    funext y
    by_cases h : y = x.r.toNat
    · rw [if_pos h, h]; exact hrow.symm
    · rw [if_neg h, if_neg h]
  rw [hback]
  repeat' (first | (fail_if_success (with_reducible refine xstp ?_)); first | ((with_reducible refine And.intro (fun (hb : _ = true) => ?_) (fun (hb : _ = false) => ?_)) <;> replace hb := xnC hb <;> (try first | exact xfC | exact bff hb (by assumption) | exact bff (by assumption) hb)) | ((with_reducible refine And.intro ?_ ?_); focus exact xoC) | ((fail_if_success (with_reducible first | refine xgon ?_ | intro _)); (conv => whnf); (fail_if_success (fail_if_success (with_reducible first | refine xstp ?_ | refine xgon ?_ | intro _)))))
  rotate_left 1
  · have e3 : akS P (x.m.getD k default) = P := by unfold akS; rw [if_neg (by omega), if_neg (fun h => h.2 (by assumption))]
    rw [e3] at hsk
    refine ⟨⟨⟨k + 1, by omega⟩, cf1⟩, [0, 1, 2, 3, 4, 5, 6, 7], by simp only; omega, ?_⟩
    simp only [hsk]
    (repeat' first | refine And.intro ?_ ?_ | exact xeC | fail)
    all_goals first
      | (exact xmC)
      | skip
    all_goals trace_state
  have e3 : akS P (x.m.getD k default) = ⟨P.nd, P.rel, P.st, P.ac, P.se, P.rq ++ [x.m.getD k default], P.bg, P.bt⟩ := by unfold akS; rw [if_neg (by omega), if_pos ⟨by assumption, by assumption⟩]
  rw [e3] at hsk
  refine ManyK.mk ⟨.cells true (encPr 7 x.r.toNat x.r.toNat P (cf1 x.r.toNat)), by simp only [hp3]; rfl, ?_⟩
  repeat' (first | (fail_if_success (with_reducible refine xstp ?_)); first | ((with_reducible refine And.intro ?_ ?_); focus exact xoC) | ((fail_if_success (with_reducible first | refine xgon ?_ | intro _)); (conv => whnf); (fail_if_success (fail_if_success (with_reducible first | refine xstp ?_ | refine xgon ?_ | intro _)))))
  refine ManyK.mk ⟨ints true P.rq (cf1 x.r.toNat), hrow, ?_⟩
  repeat' (first | (fail_if_success (with_reducible refine xstp ?_)); first | ((with_reducible refine And.intro ?_ ?_); focus exact xoC) | ((with_reducible refine Or.inl ⟨?_, ?_, ?_⟩); (focus rfl); focus exact xaC) | (with_reducible intro hc; (try simp only [capsP, and_true] at hc); (try exact xfC)) | ((fail_if_success (with_reducible first | refine xgon ?_ | intro _)); (conv => whnf); (fail_if_success (fail_if_success (with_reducible first | refine xstp ?_ | refine xgon ?_ | intro _)))))
  rename_i c3
  refine ManyK.mk ⟨.cells true (encPr 7 x.r.toNat x.r.toNat P (cf1 x.r.toNat)), by simp only [hp3]; rfl, ?_⟩
  repeat' (first | (fail_if_success (with_reducible refine xstp ?_)); first | ((with_reducible refine And.intro ?_ ?_); focus exact xoC) | ((fail_if_success (with_reducible first | refine xgon ?_ | intro _)); (conv => whnf); (fail_if_success (fail_if_success (with_reducible first | refine xstp ?_ | refine xgon ?_ | intro _)))))
  have hl1 : (P.rq ++ [x.m.getD k default]).length = P.rq.length + 1 := by rw [List.length_append]; rfl
  have hki : ∀ y N, key [0, 1, 2, 3, 4, 5, 6, .adopt 7 x.r.toNat 9] N 7 y = (if y = x.r.toNat then 9 else 7, if y = x.r.toNat then 0 else y) := fun y N => rfl
  refine ⟨⟨⟨k + 1, by omega⟩, updC cf1 x.r c3⟩, [0, 1, 2, 3, 4, 5, 6, .adopt 7 x.r.toNat 9], by simp only; omega, ?_⟩
  simp only [hsk]
  (repeat' first | refine And.intro ?_ ?_ | exact xeC | fail)
  all_goals first
    | (exact xmC)
    | exact fun y => prs_set (fun y hy => by rw [hki, if_neg hy, if_neg hy]) (fun y hy => (if_neg hy).trans (if_neg hy).symm) (fun y hy => if_neg hy) (prC_cells (if_pos rfl) (by rw [hki, if_pos rfl, if_pos rfl, if_pos rfl]; unfold encPr; simp only [hl1])) y
    | (intro y hy
       show Ck.leK _ _ (Ck.rk _ _ (rqO (if y = x.r.toNat then _ else _) (if y = x.r.toNat then _ else _))) True
       rw [if_neg hy, if_neg hy]
       first
         | exact rqO_le
         | (show Ck.leK _ (if y = x.r.toNat then _ else _) _ True
            rw [if_neg hy]
            show Ck.leK _ (rqO (if y = x.r.toNat then _ else _) _) _ True
            rw [if_neg hy]
            exact rqO_le))
    | skip
  refine leK_cong (q'' := ints true (P.rq ++ [x.m.getD k default]) c3) ?_ ?_
  · show Ck.rk _ _ (rqO (if x.r.toNat = x.r.toNat then _ else _) (if x.r.toNat = x.r.toNat then _ else _)) = _
    rw [if_pos rfl, if_pos rfl]
    rfl
  (repeat' first | refine And.intro ?_ ?_ | exact xeC | fail)
  all_goals first
    | (exact xmC)
    | exact Nat.le_of_eq hl1
    | (intro i hi; exact app_rowG Go.X.encI P.rq (x.m.getD k default) _ (by rw [show 0 + ((k : Nat) : Int).toNat = k by omega]; rfl) i hi)
    | exact fun x => rqO_bel
    | exact fun x => prC_bel rfl
    | skip
  all_goals trace_state
end Go.Proofs.YtofcadbfjbefkaaGreat


namespace Go.Proofs.YtofcadbfjbefkaaGreat
open Go.X
set_option linter.unusedSimpArgs false
set_option linter.unusedVariables false
abbrev pkR (w : Bool) (l : List Pk) (c : Nat) : Ck := .row w false 47 11 l.length c (Go.X.rowOf (encP .nils) l)
/-- A gap; a sample; a heartbeat. -/
def gapK (id : Int) (X : Nat) (p : Pr) (lost first last at' : Int) : Pk := ⟨4, 0, p.nd, id, X, lost, first, last, at', [], []⟩
def datK (id : Int) (X : Nat) (p : Pr) (sq : Int) (s : Smp) : Pk := ⟨1, 0, p.nd, id, X, sq, 0, 0, s.t, [], s.p.data.toList⟩
def dat (id : Int) (l : List Smp) (X : Nat) (p : Pr) (at' : Int) (sq : Int) : Pk := if (getS l id sq).2 = true then datK id X p sq (getS l id sq).1 else gapK id X p 1 sq sq at'
def hbK (id : Int) (X : Nat) (p : Pr) (la at' : Int) : Pk := ⟨2, 0, p.nd, id, X, 0, p.st, la, at', [], []⟩
set_option maxRecDepth 10000 in
set_option maxHeartbeats 4000000 in
theorem cgap (id per la : Int) (q : Qos) (X : Nat) (p : Pr) (cq : Nat) (lost first last at' : Int) :
    Ctr Tryz.prog 73 [.c (.p 0 0 0), .c (.p 1 0 0), .c (.i .i64 lost), .c (.i .i64 first), .c (.i .i64 last), .c (.i .i64 at')] [.one (wrc 2 3 id per la q), .one (.cells true (encPr 4 0 X p cq)), .one .no, .one .no, .one .no]
      fun v h => v = .a (encP .nils (gapK id X p lost first last at')) ∧ h = [.one (wrc 2 3 id per la q), .one (.cells true (encPr 4 0 X p cq)), .one .no, .one .no, .one .no] := by
  refine Ctr.mk' tbv mixed Tryz.func73 rfl rfl rfl (fun _ _ => by kernel_rfl) (by kernel_rfl) (by rfl) (by rfl) (by (repeat' first | refine And.intro ?_ ?_ | exact xeC | fail)) ?_
  repeat' (first | (fail_if_success (with_reducible refine xstp ?_)); first | (with_reducible intro hc; (try simp only [capsP, and_true] at hc); (try exact xfC)) | ((fail_if_success (with_reducible first | refine xgon ?_ | intro _)); (conv => whnf); (fail_if_success (fail_if_success (with_reducible first | refine xstp ?_ | refine xgon ?_ | intro _)))))
  refine FinK.mk ⟨[0, 1, 2, 3, 4], _, _, ⟨rfl, rfl⟩, ?_⟩; (repeat' first | refine And.intro ?_ ?_ | exact xeC | fail)
theorem rH18zoF0 {σ : List Sg} {H h' : List Fam} {v : T} {K : T → List Fam → Prop} {H' : List Fam} {v' : T} {N : Nat} (hk : K v' H') (hN : H.length = N := by (try simp only [↓List.length_cons, ↓List.length_nil, Nat.reduceAdd]) <;> rfl) (h : givesF σ N H σ h' = some H' := by (try simp (maxSteps := 1000000) only [givesF, setF, updF, Fam.zeroth, Fam.rk, Ck.rk, C.rk, E.rk, T.rk, key, List.map_cons, List.map_nil, List.cons_append, List.nil_append, List.length_cons, List.length_nil, Option.map_some, Option.bind_some, Nat.reduceAdd, Nat.zero_add, Nat.add_zero, Nat.add_sub_cancel_left, Int.toNat_natCast, reps, List.all_cons, List.all_nil, C.flat, List.append_eq, Bool.not_true, Bool.and_true, Bool.or_false, Bool.or_self, Bool.not_false, List.append_nil, Bool.and_self, ↓prC_rk, ↓rqO_rk, encS]) <;> rfl) (hv : v.rk σ N = v' := by (try simp only [givesF, setF, updF, Fam.zeroth, Fam.rk, Ck.rk, C.rk, E.rk, T.rk, key, List.map_cons, List.map_nil, List.cons_append, List.nil_append, List.length_cons, List.length_nil, Option.map_some, Option.bind_some, Nat.reduceAdd, Nat.zero_add, Nat.add_zero, Nat.add_sub_cancel_left, Int.toNat_natCast, reps, List.all_cons, List.all_nil, C.flat, List.append_eq, Bool.not_true, Bool.and_true, Bool.or_false, Bool.or_self, Bool.not_false, List.append_nil, Bool.and_self, ↓prC_rk, ↓rqO_rk, encS]) <;> rfl) : RetG σ H h' v K := ret_mk3 hN h hv hk
theorem rH18zoF1 {σ : List Sg} {H h' : List Fam} {v : T} {K : T → List Fam → Prop} {H' : List Fam} {v' : T} {N : Nat} (hk : K v' H') (hN : H.length = N := by (try simp only [↓List.length_cons, ↓List.length_nil, Nat.reduceAdd]) <;> rfl) (h : givesF σ N H σ h' = some H' := by (try simp (maxSteps := 1000000) only [givesF, setF, updF, Fam.zeroth, Fam.rk, Ck.rk, C.rk, E.rk, T.rk, key, List.map_cons, List.map_nil, List.cons_append, List.nil_append, List.length_cons, List.length_nil, Option.map_some, Option.bind_some, Nat.reduceAdd, Nat.zero_add, Nat.add_zero, Nat.add_sub_cancel_left, Int.toNat_natCast, reps, List.all_cons, List.all_nil, C.flat, List.append_eq, Bool.not_true, Bool.and_true, Bool.or_false, Bool.or_self, Bool.not_false, List.append_nil, Bool.and_self, ↓prC_rk, ↓rqO_rk, encPr, encP]) <;> rfl) (hv : v.rk σ N = v' := by (try simp only [givesF, setF, updF, Fam.zeroth, Fam.rk, Ck.rk, C.rk, E.rk, T.rk, key, List.map_cons, List.map_nil, List.cons_append, List.nil_append, List.length_cons, List.length_nil, Option.map_some, Option.bind_some, Nat.reduceAdd, Nat.zero_add, Nat.add_zero, Nat.add_sub_cancel_left, Int.toNat_natCast, reps, List.all_cons, List.all_nil, C.flat, List.append_eq, Bool.not_true, Bool.and_true, Bool.or_false, Bool.or_self, Bool.not_false, List.append_nil, Bool.and_self, ↓prC_rk, ↓rqO_rk, encPr, encP]) <;> rfl) : RetG σ H h' v K := ret_mk3 hN h hv hk
theorem cH18zoF2 {P : Program} {F : Nat} {args : List T} {H : List Fam} {K : T → List Fam → Prop} {σ : List Sg} {nl : List Fam} {args0 : List T} {h0 : List Fam} {Q : T → List Fam → Prop} {H2 H1 : List Fam} {N n : Nat} (hc : Ctr P F args0 h0 Q) (hk : ∀ v h', Q v h' → capsP h' → RetG σ H2 h' v K) (hap : apart σ = true := by rfl) (hnl : nl.all nilB = true := by rfl) (h1 : H ++ nl = H1 := by first | exact List.append_nil _ | ((try simp only [List.cons_append, List.nil_append]) <;> rfl)) (hN : H1.length = N := by (try simp only [↓List.length_cons, ↓List.length_nil, Nat.reduceAdd]) <;> rfl) (hn : H.length = n := by (try simp only [↓List.length_cons, ↓List.length_nil, Nat.reduceAdd]) <;> rfl) (hH : givesF σ N H1 σ h0 = some H2 := by (try simp (maxSteps := 1000000) only [givesF, setF, updF, Fam.zeroth, Fam.rk, Ck.rk, C.rk, E.rk, T.rk, key, List.map_cons, List.map_nil, List.cons_append, List.nil_append, List.length_cons, List.length_nil, Option.map_some, Option.bind_some, Nat.reduceAdd, Nat.zero_add, Nat.add_zero, Nat.add_sub_cancel_left, Int.toNat_natCast, reps, List.all_cons, List.all_nil, C.flat, List.append_eq, Bool.not_true, Bool.and_true, Bool.or_false, Bool.or_self, Bool.not_false, List.append_nil, Bool.and_self, ↓prC_rk, ↓rqO_rk]) <;> rfl) (hle : leS n H1 σ N σ h0 (belsK N (h0.map (Fam.rk σ N)) (argsK n args (args0.map (T.rk σ N)) True)) := by repeat' first | refine And.intro ?_ ?_ | exact xeC | fail) : CallK P F args H K := CallK.mk3 hc hap hnl h1 hN hn hH hle hk
set_option maxRecDepth 10000 in
set_option maxHeartbeats 4000000 in
theorem cdata (id per la : Int) (q : Qos) (l : List Smp) (c X : Nat) (p : Pr) (cq : Nat) (sq at' : Int) (hl : l.length ≤ 1000000) :
    Ctr Tryz.prog 75 [.c (.p 0 0 0), .c (.p 4 0 0), .c (.i .i64 sq), .c (.i .i64 at')] [.one (wrc 1 2 id per la q), .one (hist 3 q l.length c), .one .no, .one (smps true l c), .one (.cells true (encPr 5 0 X p cq)), .one .no]
      fun v h => v = .a (encP .nils (dat id l X p at' sq)) ∧ h = [.one (wrc 1 2 id per la q), .one (hist 3 q l.length c), .one .no, .one (smps true l c), .one (.cells true (encPr 5 0 X p cq)), .one .no] := by
  refine Ctr.mk' tbv mixed Tryz.func75 rfl rfl rfl (fun _ _ => by kernel_rfl) (by kernel_rfl) (by rfl) (by rfl) (by (repeat' first | refine And.intro ?_ ?_ | exact xeC | fail)) ?_
  repeat' (first | (fail_if_success (with_reducible refine xstp ?_)); first | (with_reducible refine Both.mk ?_ ?_) | ((with_reducible refine And.intro ?_ ?_); focus exact xoC) | (with_reducible intro hc; (try simp only [capsP, and_true] at hc); (try exact xfC)) | ((fail_if_success (with_reducible first | refine xgon ?_ | intro _)); (conv => whnf); (fail_if_success (fail_if_success (with_reducible first | refine xstp ?_ | refine Both.mk ?_ ?_ | refine xgon ?_ | intro _)))))
  all_goals (
    refine cH18zoF2 (σ := [.whole 1, .whole 3]) (nl := []) (iget q l c id sq hl) ?_
    rintro v h' ⟨rfl, rfl⟩ hcaps
    refine rH18zoF0 ?_
    repeat' (first | (fail_if_success (with_reducible refine xstp ?_)); first | ((with_reducible refine And.intro (fun (hb : _ = true) => ?_) (fun (hb : _ = false) => ?_)) <;> replace hb := xnC hb <;> (try first | exact xfC | exact bff hb (by assumption) | exact bff (by assumption) hb)) | ((fail_if_success (with_reducible first | refine xgon ?_ | intro _)); (conv => whnf); (fail_if_success (fail_if_success (with_reducible first | refine xstp ?_ | refine xgon ?_ | intro _)))))
    · have e : dat id l X p at' sq = datK id X p sq (getS l id sq).1 := if_pos (by assumption)
      rw [e]
      refine FinK.mk ⟨[0, 1, 2, 3, 4, 5], _, _, ⟨rfl, rfl⟩, ?_⟩; (repeat' first | refine And.intro ?_ ?_ | exact xeC | fail)
    · have e : dat id l X p at' sq = gapK id X p 1 sq sq at' := if_neg (by simp [*])
      refine cH18zoF2 (σ := [.whole 0, .whole 4, .name 1, .name 2, .name 5]) (nl := []) (cgap id per la q X p cq 1 sq sq at') ?_
      rintro v h' ⟨rfl, rfl⟩ hcaps
      refine rH18zoF1 ?_
      repeat' (first | (fail_if_success (with_reducible refine xstp ?_)); first | ((fail_if_success (with_reducible first | refine xgon ?_ | intro _)); (conv => whnf); (fail_if_success (fail_if_success (with_reducible first | refine xstp ?_ | refine xgon ?_ | intro _)))))
      rw [e]
      refine FinK.mk ⟨[0, 1, 2, 3, 4, 5], _, _, ⟨rfl, rfl⟩, ?_⟩; (repeat' first | refine And.intro ?_ ?_ | exact xeC | fail))
end Go.Proofs.YtofcadbfjbefkaaGreat

