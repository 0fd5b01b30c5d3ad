/- Part 5 of the texts that a walk of this program rests on: an abstract machine, its soundness, contracts of functions. No statement of the seat is proved in this file. -/
import Derived.Test.YtofcadbfjbefkaaR4
namespace Go.Proofs.Ytofcadbfjbefkaa
open Go.X
set_option linter.unusedSimpArgs false
set_option linter.unusedVariables false
abbrev ptR (w : Bool) (F : Nat) (l : List Nat) (c : Nat) : Ck := .row w true 68 1 l.length c (fun i => [.p F (l.getD i default) 0])
def srtN (l : List Nat) : List Nat := l.mergeSort fun x y => decide (x ≤ y)
theorem srtN_of {l m : List Nat} (h1 : m.Pairwise (· ≤ ·)) (h2 : m.Perm l) : m = srtN l := by
  refine List.Perm.eq_of_pairwise (le := fun a b => a ≤ b) (fun a b _ _ h1 h2 => Nat.le_antisymm h1 h2) h1 ?_ (h2.trans (List.mergeSort_perm l _).symm)
  have := List.pairwise_mergeSort (le := fun x y : Nat => decide (x ≤ y)) (fun a b c => by simp; omega) (fun a b => by simp; omega) l
  exact this.imp fun h => of_decide_eq_true h
def KnB (D : Nat → Option Pr) (l : List Nat) : Prop := ∀ x ∈ l, (∃ p, D x = some p) ∧ x ≤ 1073741824
set_option maxRecDepth 10000 in
theorem ccmp (D : Nat → Option Pr) (cf : Nat → Nat) (x y : Nat) (hx : (∃ p, D x = some p) ∧ x ≤ 1073741824) (hy : (∃ p, D y = some p) ∧ y ≤ 1073741824) :
    Ctr Try.prog 41 [.c (.p 0 x 0), .c (.p 0 y 0)] [prs 1 D cf, .one .no] fun v h => v = .c (.i .i64 ((x : Int) - y)) ∧ h = [prs 1 D cf, .one .no] := by
  obtain ⟨⟨p, hp⟩, hx⟩ := hx
  obtain ⟨⟨p2, hp2⟩, hy⟩ := hy
  refine Ctr.mk' tbv mixed Try.func41 rfl rfl rfl (fun _ _ => by kernel_rfl) (by kernel_rfl) (by rfl) (by rfl) (by (repeat' first | refine And.intro ?_ ?_ | exact xeC | fail) <;> exact xmC) ?_
  repeat' (first | (fail_if_success (with_reducible refine xstp ?_)); first | (with_reducible intro hc; (try simp only [capsP, and_true] at hc); (try exact xfC)) | ((fail_if_success (with_reducible first | refine xgon ?_ | intro _)); (conv => whnf); (fail_if_success (fail_if_success (with_reducible first | refine xstp ?_ | refine xgon ?_ | intro _)))))
  all_goals try (
    refine ManyK.mk ⟨.cells true (encPr 1 x x p (cf x)), by simp only [hp]; rfl, ?_⟩
    repeat' (first | (fail_if_success (with_reducible refine xstp ?_)); first | ((fail_if_success (with_reducible first | refine xgon ?_ | intro _)); (conv => whnf); (fail_if_success (fail_if_success (with_reducible first | refine xstp ?_ | refine xgon ?_ | intro _)))))
    skip)
  all_goals try (
    refine ManyK.mk ⟨.cells true (encPr 1 y y p2 (cf y)), by simp only [hp2]; rfl, ?_⟩
    repeat' (first | (fail_if_success (with_reducible refine xstp ?_)); first | ((with_reducible refine And.intro ?_ ?_); focus exact xoC) | ((fail_if_success (with_reducible first | refine xgon ?_ | intro _)); (conv => whnf); (fail_if_success (fail_if_success (with_reducible first | refine xstp ?_ | refine xgon ?_ | intro _)))))
    skip)
  all_goals (
    refine FinK.mk ⟨[0, 1], _, _, ⟨rfl, rfl⟩, ?_⟩; (repeat' first | refine And.intro ?_ ?_ | exact xeC | fail)
    all_goals (exact xmC))
theorem fin_any {t : List (Nat × T)} {k : Int} : FinK 0 ⟨t, []⟩ (.c (.i .i64 k)) fun v h => ∃ k, v = .c (.i .i64 k) ∧ h = [] := by
  refine FinK.mk ⟨[], .c (.i .i64 k), [], ⟨k, rfl, rfl⟩, ?_⟩
  (repeat' first | refine And.intro ?_ ?_ | exact xeC | fail)
set_option maxRecDepth 10000 in
theorem cLen64 (n : Int) (h : 0 ≤ n ∧ n ≤ 12) : Ctr Try.prog 68 [.c (.i .u64 n)] [] fun v h => ∃ k, v = .c (.i .i64 k) ∧ h = [] := by
  refine Ctr.mk' tbv mixed Try.func68 rfl rfl rfl (fun _ _ => by kernel_rfl) (by kernel_rfl) (by rfl) (by rfl) (by (repeat' first | refine And.intro ?_ ?_ | exact xeC | fail)) ?_
  repeat' (first | (fail_if_success (with_reducible refine xstp ?_)); first | ((with_reducible refine And.intro (fun (hb : _ = true) => ?_) (fun (hb : _ = false) => ?_)) <;> replace hb := xnC hb <;> (try first | exact xfC | exact bff hb (by assumption) | exact bff (by assumption) hb)) | (with_reducible intro hc; (try simp only [capsP, and_true] at hc); (try exact xfC)) | ((fail_if_success (with_reducible first | refine xgon ?_ | intro _)); (conv => whnf); (fail_if_success (fail_if_success (with_reducible first | refine xstp ?_ | refine xgon ?_ | intro _)))))
  have hw : IntKind.u8.wrap n = n := by
    rw [IntKind.wrap_u8]; omega
  rw [hw]
  refine ⟨⟨h.1, ?_⟩, ?_⟩
  · show n < 256
    omega
  have hb8 : ∀ b : UInt8, In64 (0 + IntKind.i64.wrap ((b.toNat : Nat) : Int)) := fun b => by
    have hb := b.toNat_lt
    unfold In64
    rw [IntKind.wrap_i64]
    omega
  repeat' (first | (fail_if_success (with_reducible refine xstp ?_)); first | ((fail_if_success (with_reducible first | refine xgon ?_ | intro _)); (conv => whnf); (fail_if_success (fail_if_success (with_reducible first | refine xstp ?_ | refine xgon ?_ | intro _)))))
  refine ⟨hb8 _, ?_⟩
  repeat' (first | (fail_if_success (with_reducible refine xstp ?_)); first | ((fail_if_success (with_reducible first | refine xgon ?_ | intro _)); (conv => whnf); (fail_if_success (fail_if_success (with_reducible first | refine xstp ?_ | refine xgon ?_ | intro _)))))
  exact fin_any
theorem rH18oH0 {σ : List Sg} {H h' : List Fam} {v : T} {K : T → List Fam → Prop} {H' : List Fam} {v' : T} {N : Nat} (hk : K v' H') (hN : H.length = N := by (try simp only [↓List.length_cons, ↓List.length_nil, Nat.reduceAdd]) <;> rfl) (h : givesF σ N H σ h' = some H' := by (try simp (maxSteps := 1000000) only [givesF, setF, updF, Fam.zeroth, Fam.rk, Ck.rk, C.rk, E.rk, T.rk, key, List.map_cons, List.map_nil, List.cons_append, List.nil_append, List.length_cons, List.length_nil, Option.map_some, Option.bind_some, Nat.reduceAdd, Nat.zero_add, Nat.add_zero, Nat.add_sub_cancel_left, Int.toNat_natCast, reps, List.all_cons, List.all_nil, C.flat, List.append_eq, Bool.not_true, Bool.and_true, Bool.or_false, Bool.or_self, Bool.not_false, List.append_nil, Bool.and_self, ↓prC_rk, ↓rqO_rk]) <;> rfl) (hv : v.rk σ N = v' := by (try simp only [givesF, setF, updF, Fam.zeroth, Fam.rk, Ck.rk, C.rk, E.rk, T.rk, key, List.map_cons, List.map_nil, List.cons_append, List.nil_append, List.length_cons, List.length_nil, Option.map_some, Option.bind_some, Nat.reduceAdd, Nat.zero_add, Nat.add_zero, Nat.add_sub_cancel_left, Int.toNat_natCast, reps, List.all_cons, List.all_nil, C.flat, List.append_eq, Bool.not_true, Bool.and_true, Bool.or_false, Bool.or_self, Bool.not_false, List.append_nil, Bool.and_self, ↓prC_rk, ↓rqO_rk]) <;> rfl) : RetG σ H h' v K := ret_mk3 hN h hv hk
theorem cH18oH1 {P : Program} {F : Nat} {args : List T} {H : List Fam} {K : T → List Fam → Prop} {σ : List Sg} {nl : List Fam} {args0 : List T} {h0 : List Fam} {Q : T → List Fam → Prop} {H2 H1 : List Fam} {N n : Nat} (hc : Ctr P F args0 h0 Q) (hk : ∀ v h', Q v h' → capsP h' → RetG σ H2 h' v K) (hap : apart σ = true := by rfl) (hnl : nl.all nilB = true := by rfl) (h1 : H ++ nl = H1 := by first | exact List.append_nil _ | ((try simp only [List.cons_append, List.nil_append]) <;> rfl)) (hN : H1.length = N := by (try simp only [↓List.length_cons, ↓List.length_nil, Nat.reduceAdd]) <;> rfl) (hn : H.length = n := by (try simp only [↓List.length_cons, ↓List.length_nil, Nat.reduceAdd]) <;> rfl) (hH : givesF σ N H1 σ h0 = some H2 := by (try simp (maxSteps := 1000000) only [givesF, setF, updF, Fam.zeroth, Fam.rk, Ck.rk, C.rk, E.rk, T.rk, key, List.map_cons, List.map_nil, List.cons_append, List.nil_append, List.length_cons, List.length_nil, Option.map_some, Option.bind_some, Nat.reduceAdd, Nat.zero_add, Nat.add_zero, Nat.add_sub_cancel_left, Int.toNat_natCast, reps, List.all_cons, List.all_nil, C.flat, List.append_eq, Bool.not_true, Bool.and_true, Bool.or_false, Bool.or_self, Bool.not_false, List.append_nil, Bool.and_self, ↓prC_rk, ↓rqO_rk]) <;> rfl) (hle : leS n H1 σ N σ h0 (belsK N (h0.map (Fam.rk σ N)) (argsK n args (args0.map (T.rk σ N)) True)) := by repeat' first | refine And.intro ?_ ?_ | exact xeC | fail) : CallK P F args H K := CallK.mk3 hc hap hnl h1 hN hn hH hle hk
set_option maxRecDepth 10000 in
theorem cLen (n : Int) (h : 0 ≤ n ∧ n ≤ 12) : Ctr Try.prog 55 [.c (.i .u64 n)] [] fun v h => ∃ k, v = .c (.i .i64 k) ∧ h = [] := by
  refine Ctr.mk' tbv mixed Try.func55 rfl rfl rfl (fun _ _ => by kernel_rfl) (by kernel_rfl) (by rfl) (by rfl) (by (repeat' first | refine And.intro ?_ ?_ | exact xeC | fail)) ?_
  repeat' (first | (fail_if_success (with_reducible refine xstp ?_)); first | (with_reducible intro hc; (try simp only [capsP, and_true] at hc); (try exact xfC)) | ((fail_if_success (with_reducible first | refine xgon ?_ | intro _)); (conv => whnf); (fail_if_success (fail_if_success (with_reducible first | refine xstp ?_ | refine xgon ?_ | intro _)))))
  refine cH18oH1 (σ := []) (nl := []) (cLen64 n h) ?_
  rintro v h' ⟨k, rfl, rfl⟩ hcaps
  refine rH18oH0 ?_
  repeat' (first | (fail_if_success (with_reducible refine xstp ?_)); first | ((fail_if_success (with_reducible first | refine xgon ?_ | intro _)); (conv => whnf); (fail_if_success (fail_if_success (with_reducible first | refine xstp ?_ | refine xgon ?_ | intro _)))))
  refine FinK.mk ⟨[], _, _, ⟨k, rfl, rfl⟩, ?_⟩
  (repeat' first | refine And.intro ?_ ?_ | exact xeC | fail)
/-! ### insertion sort -/
theorem ins_next {A B : List Nat} {a x : Nat} (h : (A ++ [a] ++ B).Pairwise (· ≤ ·)) (hB : ∀ b ∈ B, x < b) (hx : x < a) : (∀ b ∈ a :: B, x < b) := fun b hb => by
  rcases List.mem_cons.1 hb with rfl | hb
  · exact hx
  · exact hB b hb
theorem ins_done {A B : List Nat} {x : Nat} (h : (A ++ B).Pairwise (· ≤ ·)) (hB : ∀ b ∈ B, x < b) (hA : ∀ a, A.getLast? = some a → a ≤ x) : (A ++ x :: B).Pairwise (· ≤ ·) := by
  rw [List.pairwise_append] at h ⊢
  refine ⟨h.1, List.pairwise_cons.2 ⟨fun b hb => Nat.le_of_lt (hB b hb), h.2.1⟩, fun a ha b hb => ?_⟩
  have hax : a ≤ x := by
    rcases List.eq_nil_or_concat A with rfl | ⟨A', y, rfl⟩
    · cases ha
    · have hy := hA y (by simp)
      have h1 := h.1
      simp only [List.concat_eq_append] at h1 ha
      rw [List.pairwise_append] at h1
      rcases List.mem_append.1 ha with ha | ha
      · exact Nat.le_trans (h1.2.2 a ha y (by simp)) hy
      · rw [List.mem_singleton.1 ha]; exact hy
  rcases List.mem_cons.1 hb with rfl | hb
  · exact hax
  · exact h.2.2 a ha b hb
theorem ins_perm {A B R l : List Nat} {x : Nat} (h : (A ++ B ++ x :: R).Perm l) : (A ++ x :: B ++ R).Perm l := by
  refine List.Perm.trans ?_ h
  rw [List.append_assoc, List.append_assoc]
  refine List.Perm.append_left A ?_
  show (x :: (B ++ R)).Perm (B ++ x :: R)
  exact List.perm_middle.symm
structure InsI (l : List Nat) (i : Nat) (S R : List Nat) : Prop where
  so : S.Pairwise (· ≤ ·)
  pe : (S ++ R).Perm l
  le : S.length = min i l.length
  po : 1 ≤ i
theorem ins_0 (l : List Nat) : InsI l 1 (l.take 1) (l.drop 1) := by
  refine ⟨?_, by rw [List.take_append_drop], by rw [List.length_take], Nat.le_refl _⟩
  cases l with
  | nil => exact List.Pairwise.nil
  | cons a l => simp
theorem sw_row {A B R : List Nat} {a x : Nat} (i : Nat) :
    (if i = A.length then [C.p 0 x 0] else if i = A.length + 1 then [C.p 0 a 0] else [C.p 0 ((A ++ [a] ++ x :: B ++ R).getD i default) 0]) = [C.p 0 ((A ++ x :: (a :: B) ++ R).getD i default) 0] := by
  by_cases h : i = A.length
  · rw [if_pos h, h]; simp [List.getD]
  · rw [if_neg h]
    by_cases h2 : i = A.length + 1
    · rw [if_pos h2, h2]; simp [List.getD, List.getElem?_append]
    · rw [if_neg h2]
      suffices e : (A ++ [a] ++ x :: B ++ R).getD i default = (A ++ x :: (a :: B) ++ R).getD i default by rw [e]
      simp only [List.getD, List.append_assoc, List.cons_append, List.nil_append]
      rcases Nat.lt_or_ge i A.length with h3 | h3
      · rw [List.getElem?_append_left h3, List.getElem?_append_left h3]
      · rw [List.getElem?_append_right h3, List.getElem?_append_right h3]
        obtain ⟨m, hm⟩ : ∃ m, i - A.length = m + 2 := ⟨i - A.length - 2, by omega⟩
        rw [hm]
        simp
set_option maxRecDepth 10000 in
set_option maxHeartbeats 8000000 in
theorem cinsert (D : Nat → Option Pr) (cf : Nat → Nat) (l : List Nat) (c : Nat) (hl : l.length ≤ 1000000) (hk : KnB D l) :
    Ctr Try.prog 59 [.c (.sl 2 0 1 0 l.length c), .c (.i .i64 0), .c (.i .i64 l.length), .c (.fn 41 [])] [prs 1 D cf, .one .no, .one (ptR true 0 l c)]
      fun v h => v = .t [] ∧ h = [prs 1 D cf, .one .no, .one (ptR true 0 (srtN l) c)] := by
  refine Ctr.mk' tbv mixed Try.func59 rfl rfl rfl (fun _ _ => by kernel_rfl) (by kernel_rfl) (by rfl) (by rfl) (by (repeat' first | refine And.intro ?_ ?_ | exact xeC | fail) <;> exact xmC) ?_
  repeat' (first | (fail_if_success (with_reducible refine xstp ?_)); first | ((with_reducible refine And.intro ?_ ?_); focus exact xoC) | (with_reducible intro hc; (try simp only [capsP, and_true] at hc); (try exact xfC)) | ((fail_if_success (with_reducible first | refine xgon ?_ | intro _)); (conv => whnf); (fail_if_success (fail_if_success (with_reducible first | refine xstp ?_ | refine xgon ?_ | intro _)))))
  refine LoopK.mk' {k : Nat × List Nat × List Nat // InsI l k.1 k.2.1 k.2.2}
    (fun ⟨(i, S, R), _⟩ => ⟨[(0, .c (.sl 2 0 1 0 l.length c)), (1, .c (.i .i64 0)), (2, .c (.i .i64 l.length)), (3, .c (.fn 41 [])), (8, .c (.i .i64 (i : Nat)))], [prs 1 D cf, .one .no, .one (ptR true 0 (S ++ R) c)]⟩) (fun k => l.length - k.1.1)
    ⟨⟨(1, l.take 1, l.drop 1), ins_0 l⟩, [0, 1, 2], ?_⟩ ?_
  · (repeat' first | refine And.intro ?_ ?_ | exact xeC | fail)
    all_goals first
      | (exact xmC)
      | (rw [List.take_append_drop]; done)
      | (rw [List.take_append_drop]; exact Nat.le_refl _)
      | (intro i hi; rw [List.take_append_drop]; rfl)
      | skip
    all_goals trace_state
  rintro ⟨⟨i, S, R⟩, hI⟩
  obtain ⟨hso, hpe, hle, hpo⟩ := hI
  simp only at hso hpe hle hpo
  have hlen := hpe.length_eq
  rw [List.length_append] at hlen
  repeat' (first | (fail_if_success (with_reducible refine xstp ?_)); first | ((with_reducible refine And.intro (fun (hb : _ = true) => ?_) (fun (hb : _ = false) => ?_)) <;> replace hb := xnC hb <;> (try first | exact xfC | exact bff hb (by assumption) | exact bff (by assumption) hb)) | (with_reducible intro hc; (try simp only [capsP, and_true] at hc); (try exact xfC)) | ((fail_if_success (with_reducible first | refine xgon ?_ | intro _)); (conv => whnf); (fail_if_success (fail_if_success (with_reducible first | refine xstp ?_ | refine xgon ?_ | intro _)))))
  rotate_left 1
  · have hR : R = [] := List.eq_nil_of_length_eq_zero (by omega)
    subst hR
    rw [List.append_nil] at hpe
    have e : S = srtN l := srtN_of hso hpe
    rw [← e]
    refine FinK.mk ⟨[0, 1, 2], _, _, ⟨rfl, rfl⟩, ?_⟩
    (repeat' first | refine And.intro ?_ ?_ | exact xeC | fail)
    all_goals first
      | (exact xmC)
      | (rw [List.append_nil]; done)
      | (rw [List.append_nil]; exact Nat.le_refl _)
      | (intro i hi; rw [List.append_nil]; rfl)
      | skip
    all_goals trace_state
  have hil : i < l.length := by omega
  obtain ⟨x, R', rfl⟩ : ∃ x R', R = x :: R' := by
    cases R with
    | nil => simp at hlen; omega
    | cons x R' => exact ⟨x, R', rfl⟩
  have hSi : S.length = i := by omega
  have hxk := hk x (hpe.subset (by simp))
  refine LoopK.mk' {k : List Nat × List Nat // k.1 ++ k.2 = S ∧ ∀ b ∈ k.2, x < b}
    (fun ⟨(A, B), _⟩ => ⟨[(0, .c (.sl 2 0 1 0 l.length c)), (1, .c (.i .i64 0)), (2, .c (.i .i64 l.length)), (3, .c (.fn 41 [])), (8, .c (.i .i64 (i : Nat))), (9, .c (.i .i64 (A.length : Nat)))], [prs 1 D cf, .one .no, .one (ptR true 0 (A ++ x :: B ++ R') c)]⟩) (fun k => k.1.1.length)
    ⟨⟨(S, []), ⟨List.append_nil _, by simp⟩⟩, [0, 1, 2], ?_⟩ ?_
  · (repeat' first | refine And.intro ?_ ?_ | exact xeC | fail)
    all_goals first
      | (exact xmC)
      | (rw [List.append_assoc]; rfl)
      | (rw [List.append_assoc]; exact Nat.le_refl _)
      | (intro i hi; rw [List.append_assoc]; rfl)
      | (show (i : Int) = S.length; omega)
      | skip
    all_goals trace_state
  rintro ⟨⟨A, B⟩, hAB, hB⟩
  simp only at hAB hB
  subst hAB
  have hll : (A ++ x :: B ++ R').length = l.length := by simp at hlen ⊢; omega
  have hall : (A ++ x :: B ++ R').length ≤ 1000000 := by omega
  have hAl : A.length + B.length = i := by rw [← hSi, List.length_append]
  obtain rfl | ⟨A', a, rfl⟩ : A = [] ∨ ∃ A' a, A = A' ++ [a] := by
    rcases List.eq_nil_or_concat A with h | ⟨A', a, h⟩
    · exact .inl h
    · exact .inr ⟨A', a, by rw [h, List.concat_eq_append]⟩
  · have h00 : ([] : List Nat).length = 0 := rfl
    repeat' (first | (fail_if_success (with_reducible refine xstp ?_)); first | ((with_reducible refine And.intro (fun (hb : _ = true) => ?_) (fun (hb : _ = false) => ?_)) <;> replace hb := xnC hb <;> (try first | exact xfC | exact bff hb (by assumption) | exact bff (by assumption) hb)) | ((with_reducible refine And.intro ?_ ?_); focus exact xoC) | (with_reducible intro hc; (try simp only [capsP, and_true] at hc); (try exact xfC)) | ((fail_if_success (with_reducible first | refine xgon ?_ | intro _)); (conv => whnf); (fail_if_success (fail_if_success (with_reducible first | refine xstp ?_ | refine xgon ?_ | intro _)))))
    have hI2 : InsI l (i + 1) ([] ++ x :: B) R' := ⟨ins_done hso hB (fun a h => by cases h), ins_perm hpe, by simp at hSi ⊢; omega, by omega⟩
    refine ⟨⟨(i + 1, [] ++ x :: B, R'), hI2⟩, [0, 1, 2], by simp only; omega, ?_⟩
    (repeat' first | refine And.intro ?_ ?_ | exact xeC | fail)
    all_goals first | (exact xmC) | skip
    all_goals trace_state
  · have hak := hk a (hpe.subset (by simp))
    have hjl : (A' ++ [a]).length = A'.length + 1 := by simp
    have e1 : (A' ++ [a] ++ x :: B ++ R').getD (0 + (((A' ++ [a]).length : Nat) : Int).toNat) default = x := by
      rw [show 0 + (((A' ++ [a]).length : Nat) : Int).toNat = A'.length + 1 by omega]
      simp [List.getD, List.getElem?_append]
    have e2 : (A' ++ [a] ++ x :: B ++ R').getD (0 + ((((A' ++ [a]).length : Nat) : Int) - 1).toNat) default = a := by
      rw [show 0 + ((((A' ++ [a]).length : Nat) : Int) - 1).toNat = A'.length by omega]
      simp [List.getD, List.getElem?_append]
    repeat' (first | (fail_if_success (with_reducible refine xstp ?_)); first | ((with_reducible refine And.intro (fun (hb : _ = true) => ?_) (fun (hb : _ = false) => ?_)) <;> replace hb := xnC hb <;> (try first | exact xfC | exact bff hb (by assumption) | exact bff (by assumption) hb)) | ((with_reducible refine And.intro ?_ ?_); focus exact xoC) | (with_reducible intro hc; (try simp only [capsP, and_true] at hc); (try exact xfC)) | ((fail_if_success (with_reducible first | refine xgon ?_ | intro _)); (conv => whnf); (fail_if_success (fail_if_success (with_reducible first | refine xstp ?_ | refine xgon ?_ | intro _)))))
    rw [e1, e2]
    refine cH18oH1 (σ := [.whole 0, .name 1]) (nl := []) (ccmp D cf x a hxk hak) ?_ (hle := by (repeat' first | refine And.intro ?_ ?_ | exact xeC | fail) <;> exact xmC)
    rintro v h' ⟨rfl, rfl⟩ hcaps
    refine rH18oH0 ?_
    repeat' (first | (fail_if_success (with_reducible refine xstp ?_)); first | ((with_reducible refine And.intro (fun (hb : _ = true) => ?_) (fun (hb : _ = false) => ?_)) <;> replace hb := xnC hb <;> (try first | exact xfC | exact bff hb (by assumption) | exact bff (by assumption) hb)) | ((with_reducible refine And.intro ?_ ?_); focus exact xoC) | ((fail_if_success (with_reducible first | refine xgon ?_ | intro _)); (conv => whnf); (fail_if_success (fail_if_success (with_reducible first | refine xstp ?_ | refine xgon ?_ | intro _)))))
    · have hxa : x < a := by omega
      rw [e2]
      repeat' (first | (fail_if_success (with_reducible refine xstp ?_)); first | ((with_reducible refine And.intro (fun (hb : _ = true) => ?_) (fun (hb : _ = false) => ?_)) <;> replace hb := xnC hb <;> (try first | exact xfC | exact bff hb (by assumption) | exact bff (by assumption) hb)) | (with_reducible refine Both.mk ?_ ?_) | ((with_reducible refine And.intro ?_ ?_); focus exact xoC) | ((with_reducible refine Or.inl ⟨?_, ?_, ?_⟩); (focus rfl); focus exact xaC) | ((with_reducible refine xwB ?_ ?_); focus exact xaC) | ((with_reducible refine xwC ?_ ?_); focus exact xaC) | ((with_reducible refine xwD ?_ ?_); focus exact xaC) | ((with_reducible refine xwE ?_ ?_); focus exact xaC) | (with_reducible intro hc; (try simp only [capsP, and_true] at hc); (try exact xfC)) | ((fail_if_success (with_reducible first | refine xgon ?_ | intro _)); (conv => whnf); (fail_if_success (fail_if_success (with_reducible first | refine xstp ?_ | refine Both.mk ?_ ?_ | refine xgon ?_ | intro _)))))
      have e3 : (fun i => if i = 0 + (((A' ++ [a]).length : Nat) : Int).toNat then [C.p 0 a 0] else (fun i => [C.p 0 ((A' ++ [a] ++ x :: B ++ R').getD i default) 0]) i) (0 + ((((A' ++ [a]).length : Nat) : Int) - 1).toNat) = [C.p 0 a 0] := by
        show (if _ then _ else _) = _
        rw [if_neg (by omega)]
        show [C.p 0 ((A' ++ [a] ++ x :: B ++ R').getD _ default) 0] = _
        rw [e2]
      rw [e1, e3]
      repeat' (first | (fail_if_success (with_reducible refine xstp ?_)); first | ((with_reducible refine And.intro ?_ ?_); focus exact xoC) | ((fail_if_success (with_reducible first | refine xgon ?_ | intro _)); (conv => whnf); (fail_if_success (fail_if_success (with_reducible first | refine xstp ?_ | refine xgon ?_ | intro _)))))
      refine ⟨⟨(A', a :: B), ⟨by simp, ins_next hso hB hxa⟩⟩, [0, 1, 2], by simp only; omega, ?_⟩
      (repeat' first | refine And.intro ?_ ?_ | exact xeC | fail)
      all_goals first
        | (exact xmC)
        | omega
        | (simp only [List.length_append, List.length_cons, List.length_nil]; omega)
        | (intro i hi
           have s1 : 0 + ((((A' ++ [a]).length : Nat) : Int) - 1).toNat = A'.length := by omega
           have s2 : 0 + (((A' ++ [a]).length : Nat) : Int).toNat = A'.length + 1 := by omega
           rw [s1, s2]
           exact sw_row i)
    · have hxa : a ≤ x := by omega
      have hI2 : InsI l (i + 1) (A' ++ [a] ++ x :: B) R' := ⟨ins_done hso hB (fun b h => by simp at h; omega), ins_perm hpe, by simp at hSi ⊢; omega, by omega⟩
      refine ⟨⟨(i + 1, A' ++ [a] ++ x :: B, R'), hI2⟩, [0, 1, 2], by simp only; omega, ?_⟩
      (repeat' first | refine And.intro ?_ ?_ | exact xeC | fail)
      all_goals (exact xmC)
set_option maxRecDepth 10000 in
set_option maxHeartbeats 8000000 in
theorem cpdq (D : Nat → Option Pr) (cf : Nat → Nat) (l : List Nat) (c : Nat) (lim : Int) (hl : l.length ≤ 12) (hk : KnB D l) :
    Ctr Try.prog 54 [.c (.sl 2 0 1 0 l.length c), .c (.i .i64 0), .c (.i .i64 l.length), .c (.i .i64 lim), .c (.fn 41 [])] [prs 1 D cf, .one .no, .one (ptR true 0 l c)]
      fun v h => v = .t [] ∧ h = [prs 1 D cf, .one .no, .one (ptR true 0 (srtN l) c)] := by
  refine Ctr.mk' tbv mixed Try.func54 rfl rfl rfl (fun _ _ => by kernel_rfl) (by kernel_rfl) (by rfl) (by rfl) (by (repeat' first | refine And.intro ?_ ?_ | exact xeC | fail) <;> exact xmC) ?_
  repeat' (first | (fail_if_success (with_reducible refine xstp ?_)); first | (with_reducible intro hc; (try simp only [capsP, and_true] at hc); (try exact xfC)) | ((fail_if_success (with_reducible first | refine xgon ?_ | intro _)); (conv => whnf); (fail_if_success (fail_if_success (with_reducible first | refine xstp ?_ | refine xgon ?_ | intro _)))))
  refine LoopK.mk' Unit (fun _ => ⟨[(0, .c (.sl 2 0 1 0 l.length c)), (1, .c (.i .i64 0)), (2, .c (.i .i64 l.length)), (4, .c (.fn 41 []))], [prs 1 D cf, .one .no, .one (ptR true 0 l c)]⟩) (fun _ => 0) ⟨(), [0, 1, 2], ?_⟩ ?_
  · (repeat' first | refine And.intro ?_ ?_ | exact xeC | fail)
    all_goals (exact xmC)
  rintro ⟨⟩
  repeat' (first | (fail_if_success (with_reducible refine xstp ?_)); first | ((with_reducible refine And.intro (fun (hb : _ = true) => ?_) (fun (hb : _ = false) => ?_)) <;> replace hb := xnC hb <;> (try first | exact xfC | exact bff hb (by assumption) | exact bff (by assumption) hb)) | ((with_reducible refine And.intro ?_ ?_); focus exact xoC) | (with_reducible intro hc; (try simp only [capsP, and_true] at hc); (try exact xfC)) | ((fail_if_success (with_reducible first | refine xgon ?_ | intro _)); (conv => whnf); (fail_if_success (fail_if_success (with_reducible first | refine xstp ?_ | refine xgon ?_ | intro _)))))
  refine cH18oH1 (σ := [.whole 0, .name 1, .whole 2]) (nl := []) (cinsert D cf l c (by omega) hk) ?_ (hle := by (repeat' first | refine And.intro ?_ ?_ | exact xeC | fail) <;> exact xmC)
  rintro v h' ⟨rfl, rfl⟩ hcaps
  refine rH18oH0 ?_
  repeat' (first | (fail_if_success (with_reducible refine xstp ?_)); first | ((fail_if_success (with_reducible first | refine xgon ?_ | intro _)); (conv => whnf); (fail_if_success (fail_if_success (with_reducible first | refine xstp ?_ | refine xgon ?_ | intro _)))))
  refine FinK.mk ⟨[0, 1, 2], _, _, ⟨rfl, rfl⟩, ?_⟩
  (repeat' first | refine And.intro ?_ ?_ | exact xeC | fail)
  all_goals (exact xmC)
set_option maxRecDepth 10000 in
set_option maxHeartbeats 8000000 in
theorem csortF (D : Nat → Option Pr) (cf : Nat → Nat) (l : List Nat) (c : Nat) (hl : l.length ≤ 12) (hk : KnB D l) :
    Ctr Try.prog 40 [.c (.sl 2 0 1 0 l.length c), .c (.fn 41 [])] [prs 1 D cf, .one .no, .one (ptR true 0 l c)]
      fun v h => v = .t [] ∧ h = [prs 1 D cf, .one .no, .one (ptR true 0 (srtN l) c)] := by
  refine Ctr.mk' tbv mixed Try.func40 rfl rfl rfl (fun _ _ => by kernel_rfl) (by kernel_rfl) (by rfl) (by rfl) (by (repeat' first | refine And.intro ?_ ?_ | exact xeC | fail) <;> exact xmC) ?_
  repeat' (first | (fail_if_success (with_reducible refine xstp ?_)); first | (with_reducible intro hc; (try simp only [capsP, and_true] at hc); (try exact xfC)) | ((fail_if_success (with_reducible first | refine xgon ?_ | intro _)); (conv => whnf); (fail_if_success (fail_if_success (with_reducible first | refine xstp ?_ | refine xgon ?_ | intro _)))))
  have hw : IntKind.u64.wrap (l.length : Int) = l.length := by rw [IntKind.wrap_u64]; omega
  rw [hw]
  refine cH18oH1 (σ := []) (nl := []) (cLen (l.length : Int) (by omega)) ?_
  rintro v h' ⟨lim, rfl, rfl⟩ hcaps
  refine rH18oH0 ?_
  repeat' (first | (fail_if_success (with_reducible refine xstp ?_)); first | ((fail_if_success (with_reducible first | refine xgon ?_ | intro _)); (conv => whnf); (fail_if_success (fail_if_success (with_reducible first | refine xstp ?_ | refine xgon ?_ | intro _)))))
  refine cH18oH1 (σ := [.whole 0, .name 1, .whole 2]) (nl := []) (cpdq D cf l c lim hl hk) ?_ (hle := by (repeat' first | refine And.intro ?_ ?_ | exact xeC | fail) <;> exact xmC)
  rintro v h' ⟨rfl, rfl⟩ hcaps
  refine rH18oH0 ?_
  repeat' (first | (fail_if_success (with_reducible refine xstp ?_)); first | ((fail_if_success (with_reducible first | refine xgon ?_ | intro _)); (conv => whnf); (fail_if_success (fail_if_success (with_reducible first | refine xstp ?_ | refine xgon ?_ | intro _)))))
  refine FinK.mk ⟨[0, 1, 2], _, _, ⟨rfl, rfl⟩, ?_⟩
  (repeat' first | refine And.intro ?_ ?_ | exact xeC | fail)
  all_goals (exact xmC)
/-! ### sorted -/
def numW (W : Ws) : List Nat := W.M.map fun e => e.2.toNat
theorem srtN_perm {l m : List Nat} (h : l.Perm m) : srtN l = srtN m := by
  refine srtN_of ?_ ((List.mergeSort_perm l _).trans h)
  have := List.pairwise_mergeSort (le := fun x y : Nat => decide (x ≤ y)) (fun a b c => by simp; omega) (fun a b => by simp; omega) l
  exact this.imp fun h => of_decide_eq_true h
theorem srt_num {W : Ws} {Q : List Nat} (hW : WOk W) (hQ : Seen W Q) (hall : ∀ i, i < W.M.length → i ∈ Q) : srtN (Q.map fun i => (W.M.getD i default).2.toNat) = srtN (numW W) := by
  have h1 : Q.Perm (List.range W.M.length) := (List.perm_ext_iff_of_nodup hQ.nd List.nodup_range).2 fun i => ⟨fun h => List.mem_range.2 (hQ.lt i h), fun h => hall i (List.mem_range.1 h)⟩
  have h2 : numW W = (List.range W.M.length).map fun i => (W.M.getD i default).2.toNat := by
    unfold numW
    apply List.ext_getElem (by simp)
    intro i h1 h2
    simp only [List.getElem_map, List.getElem_range]
    rw [getD_at (by simpa using h1)]
  rw [h2]
  exact srtN_perm (h1.map _)
set_option maxRecDepth 10000 in
set_option maxHeartbeats 8000000 in
theorem csorted (id per la : Int) (q : Qos) (W : Ws) (cf : Nat → Nat) (hW : WOk W) (hM : W.M.length ≤ 12) :
    Ctr Try.prog 26 [.c (.p 0 0 0)] [.one (wrc 1 2 id per la q), .one .no, .one (peM 3 W.M W.ck), prs 4 W.D cf, .one .no]
      fun v h => ∃ c, v = .c (.sl 5 0 1 0 (srtN (numW W)).length c) ∧ h = [.one (wrc 1 2 id per la q), .one .no, .one (peM 3 W.M W.ck), prs 4 W.D cf, .one .no, .one (ptR true 3 (srtN (numW W)) c)] := by
  refine Ctr.mk' tbv mixed Try.func26 rfl rfl rfl (fun _ _ => by kernel_rfl) (by kernel_rfl) (by rfl) (by rfl) (by (repeat' first | refine And.intro ?_ ?_ | exact xeC | fail) <;> exact xmC) ?_
  repeat' (first | (fail_if_success (with_reducible refine xstp ?_)); first | (with_reducible intro hc; (try simp only [capsP, and_true] at hc); (try exact xfC)) | ((fail_if_success (with_reducible first | refine xgon ?_ | intro _)); (conv => whnf); (fail_if_success (fail_if_success (with_reducible first | refine xstp ?_ | refine xgon ?_ | intro _)))))
  refine LoopK.mk' ({Q : List Nat // Seen W Q} × Nat)
    (fun ⟨⟨Q, _⟩, c⟩ => ⟨[(3, .c (.sl 6 0 1 0 (Q.map fun i => (W.M.getD i default).2.toNat).length c)), (10, .c (.p 5 0 0))], [.one (wrc 1 2 id per la q), .one .no, .one (peM 3 W.M W.ck), prs 4 W.D cf, .one .no, .one (.iter 2 0 W.ck (Q.map fun q => (W.M.getD q default).1)), .one (ptR true 3 (Q.map fun i => (W.M.getD i default).2.toNat) c)]⟩) (fun Q => W.M.length - Q.1.1.length)
    ⟨⟨⟨[], ⟨by simp, by simp⟩⟩, 0⟩, [0, 1, 2, 3, 4, 5, 99], ?_⟩ ?_
  · (repeat' first | refine And.intro ?_ ?_ | exact xeC | fail)
    all_goals first | (exact xmC) | (intro i hi; exact absurd hi (Nat.not_lt_zero i)) | skip
    all_goals trace_state
  rintro ⟨⟨Q, hQ⟩, c⟩
  have hQl := hQ.le
  have hlm : (Q.map fun i => (W.M.getD i default).2.toNat).length = Q.length := List.length_map _
  repeat' (first | (fail_if_success (with_reducible refine xstp ?_)); first | (with_reducible refine Both.mk ?_ ?_) | ((with_reducible refine And.intro ?_ ?_); focus exact xoC) | (with_reducible intro hc; (try simp only [capsP, and_true] at hc); (try exact xfC)) | ((fail_if_success (with_reducible first | refine xgon ?_ | intro _)); (conv => whnf); (fail_if_success (fail_if_success (with_reducible first | refine xstp ?_ | refine Both.mk ?_ ?_ | refine xgon ?_ | intro _)))))
  · rename_i i hi
    have hQ' := hQ.next hi hc
    have hQl' := hQ'.le
    rw [List.length_append, List.length_singleton] at hQl'
    repeat' (first | (fail_if_success (with_reducible refine xstp ?_)); first | ((with_reducible refine And.intro (fun (hb : _ = true) => ?_) (fun (hb : _ = false) => ?_)) <;> replace hb := xnC hb <;> (try first | exact xfC | exact bff hb (by assumption) | exact bff (by assumption) hb)) | (with_reducible refine Both.mk ?_ ?_) | ((with_reducible refine And.intro ?_ ?_); focus exact xoC) | ((with_reducible refine Or.inl ⟨?_, ?_, ?_⟩); (focus rfl); focus exact xaC) | ((with_reducible refine xwB ?_ ?_); focus exact xaC) | ((with_reducible refine xwC ?_ ?_); focus exact xaC) | ((with_reducible refine xwD ?_ ?_); focus exact xaC) | ((with_reducible refine xwE ?_ ?_); focus exact xaC) | (with_reducible intro hc; (try simp only [capsP, and_true] at hc); (try exact xfC)) | ((fail_if_success (with_reducible first | refine xgon ?_ | intro _)); (conv => whnf); (fail_if_success (fail_if_success (with_reducible first | refine xstp ?_ | refine Both.mk ?_ ?_ | refine xgon ?_ | intro _)))))
    refine ⟨i, hi, List.getLast?_concat, ?_⟩
    repeat' (first | (fail_if_success (with_reducible refine xstp ?_)); first | ((with_reducible refine And.intro ?_ ?_); focus exact xoC) | ((with_reducible refine Or.inl ⟨?_, ?_, ?_⟩); (focus rfl); focus exact xaC) | (with_reducible intro hc; (try simp only [capsP, and_true] at hc); (try exact xfC)) | ((fail_if_success (with_reducible first | refine xgon ?_ | intro _)); (conv => whnf); (fail_if_success (fail_if_success (with_reducible first | refine xstp ?_ | refine xgon ?_ | intro _)))))
    rename_i c2
    refine ⟨⟨⟨Q ++ [i], hQ'⟩, c2⟩, [0, 1, 2, 3, 4, 5, 8], by simp only [List.length_append, List.length_singleton]; omega, ?_⟩
    (repeat' first | refine And.intro ?_ ?_ | exact xeC | fail)
    all_goals first
      | (exact xmC)
      | (rw [List.map_append]; rfl)
      | (simp only [List.map_append, List.length_append, List.length_map, List.map_cons, List.map_nil, List.length_cons, List.length_nil]; done)
      | (simp only [List.map_append, List.length_append, List.length_map, List.map_cons, List.map_nil, List.length_cons, List.length_nil]; omega)
      | (intro a ha
         rw [List.map_append] at ha
         show _ = [C.p 3 ((List.map (fun i => (W.M.getD i default).2.toNat) (Q ++ [i])).getD a default) 0]
         rw [List.map_append]
         exact app_rowG (fun x => [C.p 3 x 0]) (Q.map fun i => (W.M.getD i default).2.toNat) (W.M.getD i default).2.toNat _ rfl a ha)
      | skip
    all_goals trace_state
  · have hall := hQ.all hW hc
    have hke : KnB W.D (Q.map fun i => (W.M.getD i default).2.toNat) := fun x hx => by
      obtain ⟨i, hi, rfl⟩ := List.mem_map.1 hx
      have := hW.a i (hQ.lt i hi)
      exact ⟨this.2, by omega⟩
    have hsr := srt_num hW hQ hall
    refine cH18oH1 (σ := [.whole 3, .name 4, .whole 6]) (nl := []) (csortF W.D cf (Q.map fun i => (W.M.getD i default).2.toNat) c (by omega) hke) ?_ (hle := by (repeat' first | refine And.intro ?_ ?_ | exact xeC | fail) <;> exact xmC)
    rintro v h' ⟨rfl, rfl⟩ hcaps
    rw [hsr]
    refine rH18oH0 ?_
    repeat' (first | (fail_if_success (with_reducible refine xstp ?_)); first | ((fail_if_success (with_reducible first | refine xgon ?_ | intro _)); (conv => whnf); (fail_if_success (fail_if_success (with_reducible first | refine xstp ?_ | refine xgon ?_ | intro _)))))
    have hlen2 : (srtN (numW W)).length = (Q.map fun i => (W.M.getD i default).2.toNat).length := by rw [← hsr]; exact List.length_mergeSort _
    refine FinK.mk ⟨[0, 1, 2, 3, 4, 6], _, _, ⟨c, rfl, rfl⟩, ?_⟩
    (repeat' first | refine And.intro ?_ ?_ | exact xeC | fail)
    all_goals first
      | (exact xmC)
      | exact hlen2
      | exact hlen2.symm
      | exact Nat.le_of_eq hlen2
      | skip
    all_goals trace_state
end Go.Proofs.Ytofcadbfjbefkaa


namespace Go.Proofs.Ytofcadbfjbefkaa
open Go.X
set_option linter.unusedSimpArgs false
set_option linter.unusedVariables false
def polF1 (id : Int) (l : List Smp) (la at' : Int) (D : Nat → Option Pr) (x : Nat) : List Pk := match D x with | some p => polL id l x p la at' | none => []
def polF (id : Int) (l : List Smp) (la at' : Int) (D : Nat → Option Pr) (L : List Nat) : List Pk := L.flatMap (polF1 id l la at' D)
def polD (per la at' : Int) (D : Nat → Option Pr) (L : List Nat) : Nat → Option Pr := fun y => if y ∈ L then (D y).map fun p => polP per p la at' else D y
def polC (cf : Nat → Nat) (L : List Nat) : Nat → Nat := fun y => if y ∈ L then 0 else cf y
def atOk (at' : Int) : Prop := 0 ≤ at' ∧ at' ≤ 1099511627776
instance (a : Int) : Decidable (atOk a) := by unfold atOk; infer_instance
/-- What Poll sends, and leaves. -/
def poL (id : Int) (q : Qos) (at' : Int) (W : Ws) : List Pk := if atOk at' then polF id (stay q W.l at') W.la at' W.D (srtN (numW W)) else []
def poW (per : Int) (q : Qos) (at' : Int) (W : Ws) : Ws := if atOk at' then ⟨stay q W.l at', W.la, W.M, W.ck, polD per W.la at' W.D (srtN (numW W))⟩ else W
abbrev wP (id per : Int) (q : Qos) (W : Ws) (c : Nat) (cf : Nat → Nat) (o : List Pk) (co : Nat) : List Fam :=
  [.one (wrc 1 2 id per W.la q), .one (hist 6 q W.l.length c), .one (peM 4 W.M W.ck), .one .no, prs 7 W.D cf, .one .no, .one (smps true W.l c), rqs W.D cf, .one (pkR true o co)]
theorem polF_succ (id : Int) (l : List Smp) (la at' : Int) (D : Nat → Option Pr) (L : List Nat) {k : Nat} (hk : k < L.length) : polF id l la at' D (L.take (k + 1)) = polF id l la at' D (L.take k) ++ polF1 id l la at' D (L.getD k default) := by
  unfold polF
  rw [← List.take_append_getElem hk, List.flatMap_append, getD_at hk]
  simp
theorem polL_le {id : Int} {l : List Smp} {X : Nat} {p : Pr} {la at' : Int} (hp : PrOk la p) (hla : 0 ≤ la ∧ la ≤ 1000000) : (polL id l X p la at').length ≤ 1100003 := by
  have h1 := polB_le id X p at'
  have h2 := polR_le id l X p at' p.rq.length
  have h3 := polN_le id l X p at' (la - p.se).toNat
  have h4 : (polH id X p la at').length ≤ 1 := by unfold polH; split <;> simp
  have h5 := hp.rq
  have h6 := hp.se
  unfold polL
  simp only [List.length_append]
  omega
theorem polF_le {id : Int} {l : List Smp} {la at' : Int} {D : Nat → Option Pr} (hD : ∀ y p, D y = some p → PrOk la p) (hla : 0 ≤ la ∧ la ≤ 1000000) : ∀ L : List Nat, (polF id l la at' D L).length ≤ 1100003 * L.length
  | [] => Nat.le_refl _
  | x :: L => by
    have ih := polF_le (id := id) (l := l) (at' := at') hD hla L
    have h1 : (polF1 id l la at' D x).length ≤ 1100003 := by
      unfold polF1
      cases h : D x with
      | none => exact Nat.zero_le _
      | some p => exact polL_le (hD x p h) hla
    unfold polF at ih ⊢
    rw [List.flatMap_cons, List.length_append, List.length_cons]
    omega
theorem srt_nd {W : Ws} (hW : WOk W) : (srtN (numW W)).Nodup := by
  refine (List.mergeSort_perm _ _).nodup_iff.2 ?_
  unfold numW
  rw [List.nodup_iff_pairwise_ne, List.pairwise_map, List.pairwise_iff_getElem]
  intro i j hi hj hij e
  have h1 := hW.ne i j hij hj
  have h2 := (hW.a i hi).1
  have h3 := (hW.a j hj).1
  rw [getD_at hi] at h1 h2
  rw [getD_at hj] at h1 h3
  omega
theorem prs_set2 {N N' F F' X : Nat} {σ : List Sg} {D D' : Nat → Option Pr} {cf cf' : Nat → Nat} {c0 c1 : Ck} (hk : ∀ x, x ≠ X → key σ N' F x = (F', x)) (hD : ∀ y, y ≠ X → D' y = D y) (hc : ∀ y, y ≠ X → cf' y = cf y)
    (h1 : c1.leK N ((prC F X X (D' X) (cf' X)).rk σ N') True) (y : Nat) : (if y = X then c1 else if y = X then c0 else prC F' y y (D y) (cf y)).leK N ((prC F y y (D' y) (cf' y)).rk σ N') True := by
  by_cases h : y = X
  · subst h; rw [if_pos rfl]; exact h1
  · rw [if_neg h, if_neg h, hD y h, hc y h]; exact prC_le (hk y h)
theorem stay_le (q : Qos) (l : List Smp) (t : Int) : (stay q l t).length ≤ l.length := List.length_filter_le _ _
theorem rH18oI0 {σ : List Sg} {H h' : List Fam} {v : T} {K : T → List Fam → Prop} {H' : List Fam} {v' : T} {N : Nat} (hk : K v' H') (hN : H.length = N := by (try simp only [↓List.length_cons, ↓List.length_nil, Nat.reduceAdd]) <;> rfl) (h : givesF σ N H σ h' = some H' := by (try simp (maxSteps := 1000000) only [givesF, setF, updF, Fam.zeroth, Fam.rk, Ck.rk, C.rk, E.rk, T.rk, key, List.map_cons, List.map_nil, List.cons_append, List.nil_append, List.length_cons, List.length_nil, Option.map_some, Option.bind_some, Nat.reduceAdd, Nat.zero_add, Nat.add_zero, Nat.add_sub_cancel_left, Int.toNat_natCast, reps, List.all_cons, List.all_nil, C.flat, List.append_eq, Bool.not_true, Bool.and_true, Bool.or_false, Bool.or_self, Bool.not_false, List.append_nil, Bool.and_self, ↓prC_rk, ↓rqO_rk]) <;> rfl) (hv : v.rk σ N = v' := by (try simp only [givesF, setF, updF, Fam.zeroth, Fam.rk, Ck.rk, C.rk, E.rk, T.rk, key, List.map_cons, List.map_nil, List.cons_append, List.nil_append, List.length_cons, List.length_nil, Option.map_some, Option.bind_some, Nat.reduceAdd, Nat.zero_add, Nat.add_zero, Nat.add_sub_cancel_left, Int.toNat_natCast, reps, List.all_cons, List.all_nil, C.flat, List.append_eq, Bool.not_true, Bool.and_true, Bool.or_false, Bool.or_self, Bool.not_false, List.append_nil, Bool.and_self, ↓prC_rk, ↓rqO_rk]) <;> rfl) : RetG σ H h' v K := ret_mk3 hN h hv hk
theorem cH18oI1 {P : Program} {F : Nat} {args : List T} {H : List Fam} {K : T → List Fam → Prop} {σ : List Sg} {nl : List Fam} {args0 : List T} {h0 : List Fam} {Q : T → List Fam → Prop} {H2 H1 : List Fam} {N n : Nat} (hc : Ctr P F args0 h0 Q) (hk : ∀ v h', Q v h' → capsP h' → RetG σ H2 h' v K) (hap : apart σ = true := by rfl) (hnl : nl.all nilB = true := by rfl) (h1 : H ++ nl = H1 := by first | exact List.append_nil _ | ((try simp only [List.cons_append, List.nil_append]) <;> rfl)) (hN : H1.length = N := by (try simp only [↓List.length_cons, ↓List.length_nil, Nat.reduceAdd]) <;> rfl) (hn : H.length = n := by (try simp only [↓List.length_cons, ↓List.length_nil, Nat.reduceAdd]) <;> rfl) (hH : givesF σ N H1 σ h0 = some H2 := by (try simp (maxSteps := 1000000) only [givesF, setF, updF, Fam.zeroth, Fam.rk, Ck.rk, C.rk, E.rk, T.rk, key, List.map_cons, List.map_nil, List.cons_append, List.nil_append, List.length_cons, List.length_nil, Option.map_some, Option.bind_some, Nat.reduceAdd, Nat.zero_add, Nat.add_zero, Nat.add_sub_cancel_left, Int.toNat_natCast, reps, List.all_cons, List.all_nil, C.flat, List.append_eq, Bool.not_true, Bool.and_true, Bool.or_false, Bool.or_self, Bool.not_false, List.append_nil, Bool.and_self, ↓prC_rk, ↓rqO_rk]) <;> rfl) (hle : leS n H1 σ N σ h0 (belsK N (h0.map (Fam.rk σ N)) (argsK n args (args0.map (T.rk σ N)) True)) := by repeat' first | refine And.intro ?_ ?_ | exact xeC | fail) : CallK P F args H K := CallK.mk3 hc hap hnl h1 hN hn hH hle hk
set_option maxRecDepth 10000 in
set_option maxHeartbeats 16000000 in
theorem cpollW (id per : Int) (q : Qos) (W : Ws) (c : Nat) (cf : Nat → Nat) (at' : Int) (hW : WOk W) (hM : W.M.length ≤ 12) (hl : W.l.length ≤ 1000000) (hla : 0 ≤ W.la ∧ W.la ≤ 1000000) (hD : ∀ y p, W.D y = some p → PrOk W.la p) (hper : 1 ≤ per ∧ per ≤ 1099511627776) (hlt : ∀ x ∈ W.l, 0 ≤ x.t ∧ x.t ≤ 1099511627776) (hq : 0 ≤ q.life ∧ q.life ≤ 1099511627776) :
    Ctr Try.prog 9 [.c (.p 0 0 0), .c (.i .i64 at')] (wB id per q W c cf)
      fun v h => ∃ c' cf' co, v = .c (.sl 8 0 11 0 (poL id q at' W).length co) ∧ h = wP id per q (poW per q at' W) c' cf' (poL id q at' W) co := by
  refine Ctr.mk' tbv mixed Try.func9 rfl rfl rfl (fun _ _ => by kernel_rfl) (by kernel_rfl) (by rfl) (by rfl) (by (repeat' first | refine And.intro ?_ ?_ | exact xeC | fail) <;> exact xmC) ?_
  repeat' (first | (fail_if_success (with_reducible refine xstp ?_)); first | ((with_reducible refine And.intro (fun (hb : _ = true) => ?_) (fun (hb : _ = false) => ?_)) <;> replace hb := xnC hb <;> (try first | exact xfC | exact bff hb (by assumption) | exact bff (by assumption) hb)) | (with_reducible intro hc; (try simp only [capsP, and_true] at hc); (try exact xfC)) | ((fail_if_success (with_reducible first | refine xgon ?_ | intro _)); (conv => whnf); (fail_if_success (fail_if_success (with_reducible first | refine xstp ?_ | refine xgon ?_ | intro _)))))
  all_goals try (
    have hat : ¬ atOk at' := by unfold atOk; omega
    have e1 : poL id q at' W = [] := if_neg hat
    have e2 : poW per q at' W = W := if_neg hat
    rw [e1, e2]
    refine FinK.mk ⟨[0, 1, 2, 3, 4, 5, 3, 5, 99], _, _, ⟨c, cf, 0, rfl, rfl⟩, ?_⟩
    (repeat' first | refine And.intro ?_ ?_ | exact xeC | fail)
    all_goals first | (exact xmC) | (intro i hi; exact absurd hi (Nat.not_lt_zero i))
    done)
  have hat : atOk at' := by unfold atOk; omega
  have hat2 : 0 ≤ at' ∧ at' ≤ 1099511627776 := hat
  have hsl := stay_le q W.l at'
  have hol := polF_le (id := id) (l := stay q W.l at') (at' := at') hD hla
  have e1 : poL id q at' W = polF id (stay q W.l at') W.la at' W.D (srtN (numW W)) := if_pos hat
  have e2 : poW per q at' W = ⟨stay q W.l at', W.la, W.M, W.ck, polD per W.la at' W.D (srtN (numW W))⟩ := if_pos hat
  rw [e1, e2]
  refine cH18oI1 (σ := [.whole 1, .whole 3]) (nl := []) (iexpire q W.l c at' hl hlt hq) ?_
  rintro v h' ⟨cg, cs, rfl, rfl⟩ hcaps
  refine rH18oI0 ?_
  repeat' (first | (fail_if_success (with_reducible refine xstp ?_)); first | ((fail_if_success (with_reducible first | refine xgon ?_ | intro _)); (conv => whnf); (fail_if_success (fail_if_success (with_reducible first | refine xstp ?_ | refine xgon ?_ | intro _)))))
  refine cH18oI1 (σ := [.whole 0, .name 1, .whole 2, .whole 4, .name 5]) (nl := []) (csorted id per W.la q W cf hW hM) ?_ (hle := by (repeat' first | refine And.intro ?_ ?_ | exact xeC | fail) <;> exact xmC)
  rintro v h' ⟨cp, rfl, rfl⟩ hcaps
  have hLl : (srtN (numW W)).length ≤ 12 := by unfold srtN numW; rw [List.length_mergeSort, List.length_map]; exact hM
  have hLm : ∀ x ∈ srtN (numW W), ∃ p, W.D x = some p := fun x hx => by
    have hx := List.mem_mergeSort.1 hx
    obtain ⟨e, he, rfl⟩ := List.mem_map.1 hx
    obtain ⟨i, hi, rfl⟩ := List.mem_iff_getElem.1 he
    have := (hW.a i hi).2
    rwa [getD_at hi] at this
  have hLn : (srtN (numW W)).Nodup := srt_nd hW
  generalize srtN (numW W) = L at *
  refine rH18oI0 ?_
  repeat' (first | (fail_if_success (with_reducible refine xstp ?_)); first | ((fail_if_success (with_reducible first | refine xgon ?_ | intro _)); (conv => whnf); (fail_if_success (fail_if_success (with_reducible first | refine xstp ?_ | refine xgon ?_ | intro _)))))
  refine LoopK.mk' ({k : Nat // k ≤ L.length} × Nat)
    (fun ⟨⟨k, _⟩, co⟩ => ⟨[(0, .c (.p 0 0 0)), (1, .c (.i .i64 at')), (5, .c (.sl 9 0 11 0 (polF id (stay q W.l at') W.la at' W.D (L.take k)).length co)), (32, .c (.sl 7 0 1 0 L.length cp)), (33, .c (.i .i64 L.length)), (34, .c (.i .i64 k))],
      [.one (wrc 1 2 id per W.la q), .one (hist 6 q (stay q W.l at').length cs), .one (peM 4 W.M W.ck), .one .no, prs 8 (polD per W.la at' W.D (L.take k)) (polC cf (L.take k)), .one .no, .one (smps true (stay q W.l at') cs), .one (ptR true 4 L cp), rqs (polD per W.la at' W.D (L.take k)) (polC cf (L.take k)), .one (pkR true (polF id (stay q W.l at') W.la at' W.D (L.take k)) co)]⟩)
    (fun k => L.length - k.1.1)
    ⟨⟨⟨0, Nat.zero_le _⟩, 0⟩, [0, 1, 2, 3, 4, 5, 6, 8, 5, 99], ?_⟩ ?_
  · (repeat' first | refine And.intro ?_ ?_ | exact xeC | fail)
    all_goals first
      | (exact xmC)
      | (intro i hi; exact absurd hi (Nat.not_lt_zero i))
      | exact fun x => prC_le rfl
      | exact fun x => rqO_le
      | skip
    all_goals trace_state
  rintro ⟨⟨k, hk⟩, co⟩
  have hok := hol (L.take k)
  rw [List.length_take] at hok
  repeat' (first | (fail_if_success (with_reducible refine xstp ?_)); first | ((with_reducible refine And.intro (fun (hb : _ = true) => ?_) (fun (hb : _ = false) => ?_)) <;> replace hb := xnC hb <;> (try first | exact xfC | exact bff hb (by assumption) | exact bff (by assumption) hb)) | ((with_reducible refine And.intro ?_ ?_); focus exact xoC) | (with_reducible intro hc; (try simp only [capsP, and_true] at hc); (try exact xfC)) | ((fail_if_success (with_reducible first | refine xgon ?_ | intro _)); (conv => whnf); (fail_if_success (fail_if_success (with_reducible first | refine xstp ?_ | refine xgon ?_ | intro _)))))
  rotate_left 1
  · have ek : L.take k = L := List.take_of_length_le (by omega)
    rw [ek]
    refine FinK.mk ⟨[0, 1, 2, 3, 4, 5, 6, 8, 9], _, _, ⟨cs, polC cf L, co, rfl, rfl⟩, ?_⟩
    (repeat' first | refine And.intro ?_ ?_ | exact xeC | fail)
    all_goals first
      | (exact xmC)
      | exact fun x => prC_le rfl
      | exact fun x => rqO_le
      | exact fun x => prC_bel rfl
      | skip
    all_goals trace_state
  have hkl : k < L.length := by omega
  rw [show 0 + ((k : Nat) : Int).toNat = k by omega]
  have hxL : L.getD k default ∈ L := by rw [getD_at hkl]; exact List.getElem_mem _
  have hxn : L.getD k default ∉ L.take k := fun h => by
    obtain ⟨j, hj, e⟩ := List.mem_iff_getElem.1 h
    rw [List.length_take] at hj
    rw [List.getElem_take, getD_at hkl] at e
    have := (List.getElem_inj hLn).1 e
    omega
  have hFs := polF_succ id (stay q W.l at') W.la at' W.D L hkl
  obtain ⟨p, hp⟩ := hLm _ hxL
  have hts : L.take (k + 1) = L.take k ++ [L.getD k default] := by rw [← List.take_append_getElem hkl, getD_at hkl]
  generalize L.getD k default = x at *
  have hcell : prC 8 x x (polD per W.la at' W.D (L.take k) x) (polC cf (L.take k) x) = .cells true (encPr 8 x x p (cf x)) := by
    unfold polD polC; rw [if_neg hxn, if_neg hxn, hp]; rfl
  have hrow : rqO (polD per W.la at' W.D (L.take k) x) (polC cf (L.take k) x) = ints true p.rq (cf x) := by
    unfold polD polC; rw [if_neg hxn, if_neg hxn, hp]; rfl
  have hF1 : polF1 id (stay q W.l at') W.la at' W.D x = polL id (stay q W.l at') x p W.la at' := by unfold polF1; rw [hp]
  have hll := polL_le (id := id) (l := stay q W.l at') (X := x) (at' := at') (hD x p hp) hla
  rw [hF1] at hFs
  refine cH18oI1 (σ := [.whole 0, .whole 1, .name 2, .whole 6, .mem 4 (x), .mem 8 (x)]) (nl := []) (cpoll1 id per W.la q (stay q W.l at') cs x p (cf x) at' (by omega) hla (hD x p hp) hat2 hper) ?_ (hle := by (repeat' first | refine And.intro ?_ ?_ | exact xeC | fail) <;> (refine ManyK.mk ⟨_, hcell, ?_⟩ <;> (repeat' first | refine And.intro ?_ ?_ | exact xeC | fail) <;> refine ManyK.mk ⟨_, hrow, ?_⟩ <;> (repeat' first | refine And.intro ?_ ?_ | exact xeC | fail)))
  rintro v h' ⟨cr, rfl, rfl⟩ hcaps
  generalize polL id (stay q W.l at') x p W.la at' = y at *
  refine ret_mk3 (by (try simp only [↓List.length_cons, ↓List.length_nil, Nat.reduceAdd]); rfl) (by (try simp (maxSteps := 1000000) only [givesF, setF, updF, Fam.zeroth, Fam.rk, Ck.rk, C.rk, E.rk, T.rk, key, List.map_cons, List.map_nil, List.cons_append, List.nil_append, List.length_cons, List.length_nil, Option.map_some, Option.bind_some, Nat.reduceAdd, Nat.zero_add, Nat.add_zero, Nat.add_sub_cancel_left, Int.toNat_natCast, reps, List.all_cons, List.all_nil, C.flat, List.append_eq, Bool.not_true, Bool.and_true, Bool.or_false, Bool.or_self, Bool.not_false, List.append_nil, Bool.and_self, ↓prC_rk, ↓rqO_rk, encPr]); rfl) (by (try simp only [givesF, setF, updF, Fam.zeroth, Fam.rk, Ck.rk, C.rk, E.rk, T.rk, key, List.map_cons, List.map_nil, List.cons_append, List.nil_append, List.length_cons, List.length_nil, Option.map_some, Option.bind_some, Nat.reduceAdd, Nat.zero_add, Nat.add_zero, Nat.add_sub_cancel_left, Int.toNat_natCast, reps, List.all_cons, List.all_nil, C.flat, List.append_eq, Bool.not_true, Bool.and_true, Bool.or_false, Bool.or_self, Bool.not_false, List.append_nil, Bool.and_self, ↓prC_rk, ↓rqO_rk, encPr]); rfl) ?_
  repeat' (first | (fail_if_success (with_reducible refine xstp ?_)); first | ((with_reducible refine And.intro ?_ ?_); focus exact xoC) | ((with_reducible refine Or.inl ⟨?_, ?_, ?_⟩); (focus rfl); focus exact xaC) | (with_reducible intro hc; (try simp only [capsP, and_true] at hc); (try exact xfC)) | ((fail_if_success (with_reducible first | refine xgon ?_ | intro _)); (conv => whnf); (fail_if_success (fail_if_success (with_reducible first | refine xstp ?_ | refine xgon ?_ | intro _)))))
  rename_i c3
  have hDn : ∀ y, y ≠ x → polD per W.la at' W.D (L.take k ++ [x]) y = polD per W.la at' W.D (L.take k) y := fun y hy => by
    unfold polD; simp [hy]
  have hCn : ∀ y, y ≠ x → polC cf (L.take k ++ [x]) y = polC cf (L.take k) y := fun y hy => by
    unfold polC; simp [hy]
  have hDx : polD per W.la at' W.D (L.take k ++ [x]) x = some (polP per p W.la at') := by unfold polD; simp [hp]
  have hCx : polC cf (L.take k ++ [x]) x = 0 := by unfold polC; simp
  have hki : ∀ y N, key [0, 1, 2, 3, 4, 5, 6, 7, .adopt 8 x 11, 12] N 8 y = (if y = x then 11 else 8, if y = x then 0 else y) := fun y N => rfl
  refine ⟨⟨⟨k + 1, by omega⟩, c3⟩, [0, 1, 2, 3, 4, 5, 6, 7, .adopt 8 x 11, 12], by simp only; omega, ?_⟩
  rw [hts] at hFs
  simp only [hts, hFs]
  (repeat' first | refine And.intro ?_ ?_ | exact xeC | fail)
  all_goals first
    | (exact xmC)
    | (simp only [List.length_append]; done)
    | (simp only [List.length_append]; exact Nat.le_refl _)
    | (intro i hi; exact app_rowL (encP .nils) (polF id (stay q W.l at') W.la at' W.D (L.take k)) y 0 _ (fun j hj => by rw [Nat.zero_add]; rfl) i hi)
    | exact fun y => prs_set2 (fun y hy => by rw [hki, if_neg hy, if_neg hy]) hDn hCn (prC_cells hDx (by rw [hki, if_pos rfl, if_pos rfl, hCx]; rfl)) y
    | (intro y hy
       show Ck.leK _ (if y = x then _ else if y = x then _ else _) (Ck.rk _ _ (rqO (polD per W.la at' W.D (L.take k ++ [x]) y) (polC cf (L.take k ++ [x]) y))) True
       rw [if_neg hy, if_neg hy, hDn y hy, hCn y hy]
       exact rqO_le)
    | skip
  refine leK_cong (q'' := ints true [] 0) (by show Ck.rk _ _ (rqO (polD per W.la at' W.D (L.take k ++ [x]) x) (polC cf (L.take k ++ [x]) x)) = _; rw [hDx, hCx]; rfl) ?_
  (repeat' first | refine And.intro ?_ ?_ | exact xeC | fail)
  all_goals first
    | (exact xmC)
    | (simp only [List.length_append]; done)
    | (simp only [List.length_append]; exact Nat.le_refl _)
    | (intro i hi; exact app_rowL (encP .nils) (polF id (stay q W.l at') W.la at' W.D (L.take k)) y 0 _ (fun j hj => by rw [Nat.zero_add]; rfl) i hi)
    | (intro i hi; exact absurd hi (Nat.not_lt_zero i))
    | skip
end Go.Proofs.Ytofcadbfjbefkaa


namespace Go.Proofs.Ytofcadbfjbefkaa
open Go.X
set_option linter.unusedSimpArgs false
set_option linter.unusedVariables false
/-- A writer with the one reader 3. -/
def oneW (l : List Smp) (la : Int) (p : Pr) : Ws := ⟨l, la, [(0, 3)], 1, fun y => if y = 3 then some p else none⟩
def noW (l : List Smp) (la : Int) : Ws := ⟨l, la, [], 0, fun _ => none⟩
theorem noW_ok (l : List Smp) (la : Int) : WOk (noW l la) := ⟨fun i hi => absurd hi (Nat.not_lt_zero i), fun x p h => (by cases h), fun a b _ hb => absurd hb (Nat.not_lt_zero b), fun a b _ hb => absurd hb (Nat.not_lt_zero b), fun i hi => absurd hi (Nat.not_lt_zero i)⟩
theorem oneW_ok (l : List Smp) (la : Int) (p : Pr) : WOk (oneW l la p) := by
  refine ⟨fun i hi => ?_, fun x p' h => ?_, fun a b hab hb => ?_, fun a b hab hb => ?_, fun i hi => ?_⟩
  · have : i < 1 := hi
    obtain rfl : i = 0 := by omega
    exact ⟨⟨show (1 : Int) ≤ 3 by decide, show (3 : Int) ≤ 1073741824 by decide⟩, p, rfl⟩
  · have h : (if x = 3 then some p else none) = some p' := h
    split at h
    · rename_i e; subst e; exact ⟨0, Nat.one_pos, rfl, by decide⟩
    · cases h
  · have : b < 1 := hb; omega
  · have : b < 1 := hb; omega
  · have : i < 1 := hi
    obtain rfl : i = 0 := by omega
    exact Nat.one_pos
theorem oneW_D {l : List Smp} {la : Int} {p : Pr} {P : Pr → Prop} (h : P p) : ∀ y p', (oneW l la p).D y = some p' → P p' := fun y p' e => by
  have e : (if y = 3 then some p else none) = some p' := e
  split at e
  · rw [← Option.some.inj e]; exact h
  · cases e
theorem one_add (l : List Smp) (la : Int) (p : Pr) : addPW (noW l la) 3 p = oneW l la p := by
  unfold addPW noW oneW
  rfl
theorem one_srt (l : List Smp) (la : Int) (p : Pr) : srtN (numW (oneW l la p)) = [3] := by
  show List.mergeSort [3] _ = [3]
  exact List.mergeSort_singleton _
theorem one_poL {id : Int} {q : Qos} {at' : Int} {l : List Smp} {la : Int} {p : Pr} (h : atOk at') : poL id q at' (oneW l la p) = polL id (stay q l at') 3 p la at' := by
  unfold poL
  rw [if_pos h, one_srt]
  show (polF1 _ _ _ _ _ 3 ++ []) = _
  rw [List.append_nil]
  rfl
theorem one_poW {per : Int} {q : Qos} {at' : Int} {l : List Smp} {la : Int} {p : Pr} (h : atOk at') : poW per q at' (oneW l la p) = oneW (stay q l at') la (polP per p la at') := by
  unfold poW
  rw [if_pos h, one_srt]
  unfold oneW polD
  simp only [Ws.mk.injEq, true_and]
  funext y
  by_cases h3 : y = 3
  · subst h3; simp
  · simp [h3]
/-! ### Nobody -/
set_option maxRecDepth 10000 in
theorem nwrite (a : Int) (s : ByteArray) : Ctr Try.prog 7 [.c .nilp, .c (.i .i64 a), .c (.s s)] [] fun v h => v = .t [.c (.i .i64 0), .c (.i .i64 6)] ∧ h = [] := by
  refine Ctr.mk' tbv mixed Try.func7 rfl rfl rfl (fun _ _ => by kernel_rfl) (by kernel_rfl) (by rfl) (by rfl) (by (repeat' first | refine And.intro ?_ ?_ | exact xeC | fail)) ?_
  repeat' (first | (fail_if_success (with_reducible refine xstp ?_)); first | (with_reducible intro hc; (try simp only [capsP, and_true] at hc); (try exact xfC)) | ((fail_if_success (with_reducible first | refine xgon ?_ | intro _)); (conv => whnf); (fail_if_success (fail_if_success (with_reducible first | refine xstp ?_ | refine xgon ?_ | intro _)))))
  refine FinK.mk ⟨[], _, _, ⟨rfl, rfl⟩, ?_⟩; (repeat' first | refine And.intro ?_ ?_ | exact xeC | fail)
set_option maxRecDepth 10000 in
theorem nnext : Ctr Try.prog 12 [.c .nilp] [] fun v h => v = .t [.c (.i .i64 0), .c .ff] ∧ h = [] := by
  refine Ctr.mk' tbv mixed Try.func12 rfl rfl rfl (fun _ _ => by kernel_rfl) (by kernel_rfl) (by rfl) (by rfl) (by (repeat' first | refine And.intro ?_ ?_ | exact xeC | fail)) ?_
  repeat' (first | (fail_if_success (with_reducible refine xstp ?_)); first | (with_reducible intro hc; (try simp only [capsP, and_true] at hc); (try exact xfC)) | ((fail_if_success (with_reducible first | refine xgon ?_ | intro _)); (conv => whnf); (fail_if_success (fail_if_success (with_reducible first | refine xstp ?_ | refine xgon ?_ | intro _)))))
  refine FinK.mk ⟨[], _, _, ⟨rfl, rfl⟩, ?_⟩; (repeat' first | refine And.intro ?_ ?_ | exact xeC | fail)
set_option maxRecDepth 10000 in
theorem nack (x : Pk) (n c xm : Nat) (a : Int) : Ctr Try.prog 13 [.c .nilp, .a (encP (.sl 0 xm 1 0 n c) x), .c (.i .i64 a)] [.one .no] fun v h => v = .c (.i .i64 6) ∧ h = [.one .no] := by
  refine Ctr.mk' tbv mixed Try.func13 rfl rfl rfl (fun _ _ => by kernel_rfl) (by kernel_rfl) (by rfl) (by rfl) (by (repeat' first | refine And.intro ?_ ?_ | exact xeC | fail)) ?_
  repeat' (first | (fail_if_success (with_reducible refine xstp ?_)); first | (with_reducible intro hc; (try simp only [capsP, and_true] at hc); (try exact xfC)) | ((fail_if_success (with_reducible first | refine xgon ?_ | intro _)); (conv => whnf); (fail_if_success (fail_if_success (with_reducible first | refine xstp ?_ | refine xgon ?_ | intro _)))))
  refine FinK.mk ⟨[0], _, _, ⟨rfl, rfl⟩, ?_⟩; (repeat' first | refine And.intro ?_ ?_ | exact xeC | fail)
set_option maxRecDepth 10000 in
theorem npoll (a : Int) : Ctr Try.prog 9 [.c .nilp, .c (.i .i64 a)] [] fun v h => v = .c .nils ∧ h = [] := by
  refine Ctr.mk' tbv mixed Try.func9 rfl rfl rfl (fun _ _ => by kernel_rfl) (by kernel_rfl) (by rfl) (by rfl) (by (repeat' first | refine And.intro ?_ ?_ | exact xeC | fail)) ?_
  repeat' (first | (fail_if_success (with_reducible refine xstp ?_)); first | (with_reducible intro hc; (try simp only [capsP, and_true] at hc); (try exact xfC)) | ((fail_if_success (with_reducible first | refine xgon ?_ | intro _)); (conv => whnf); (fail_if_success (fail_if_success (with_reducible first | refine xstp ?_ | refine xgon ?_ | intro _)))))
  refine FinK.mk ⟨[], _, _, ⟨rfl, rfl⟩, ?_⟩; (repeat' first | refine And.intro ?_ ?_ | exact xeC | fail)
set_option maxRecDepth 10000 in
theorem nheld : Ctr Try.prog 14 [.c .nilp] [] fun v h => v = .c .nils ∧ h = [] := by
  refine Ctr.mk' tbv mixed Try.func14 rfl rfl rfl (fun _ _ => by kernel_rfl) (by kernel_rfl) (by rfl) (by rfl) (by (repeat' first | refine And.intro ?_ ?_ | exact xeC | fail)) ?_
  repeat' (first | (fail_if_success (with_reducible refine xstp ?_)); first | (with_reducible intro hc; (try simp only [capsP, and_true] at hc); (try exact xfC)) | ((fail_if_success (with_reducible first | refine xgon ?_ | intro _)); (conv => whnf); (fail_if_success (fail_if_success (with_reducible first | refine xstp ?_ | refine xgon ?_ | intro _)))))
  refine FinK.mk ⟨[], _, _, ⟨rfl, rfl⟩, ?_⟩; (repeat' first | refine And.intro ?_ ?_ | exact xeC | fail)
set_option maxRecDepth 10000 in
theorem nacked (a : Int) : Ctr Try.prog 11 [.c .nilp, .c (.i .i64 a)] [] fun v h => v = .c (.i .i64 0) ∧ h = [] := by
  refine Ctr.mk' tbv mixed Try.func11 rfl rfl rfl (fun _ _ => by kernel_rfl) (by kernel_rfl) (by rfl) (by rfl) (by (repeat' first | refine And.intro ?_ ?_ | exact xeC | fail)) ?_
  repeat' (first | (fail_if_success (with_reducible refine xstp ?_)); first | (with_reducible intro hc; (try simp only [capsP, and_true] at hc); (try exact xfC)) | ((fail_if_success (with_reducible first | refine xgon ?_ | intro _)); (conv => whnf); (fail_if_success (fail_if_success (with_reducible first | refine xstp ?_ | refine xgon ?_ | intro _)))))
  refine FinK.mk ⟨[], _, _, ⟨rfl, rfl⟩, ?_⟩; (repeat' first | refine And.intro ?_ ?_ | exact xeC | fail)
set_option maxRecDepth 10000 in
theorem nunm (a : Int) : Ctr Try.prog 15 [.c .nilp, .c (.i .i64 a)] [] fun v h => v = .c (.i .i64 6) ∧ h = [] := by
  refine Ctr.mk' tbv mixed Try.func15 rfl rfl rfl (fun _ _ => by kernel_rfl) (by kernel_rfl) (by rfl) (by rfl) (by (repeat' first | refine And.intro ?_ ?_ | exact xeC | fail)) ?_
  repeat' (first | (fail_if_success (with_reducible refine xstp ?_)); first | (with_reducible intro hc; (try simp only [capsP, and_true] at hc); (try exact xfC)) | ((fail_if_success (with_reducible first | refine xgon ?_ | intro _)); (conv => whnf); (fail_if_success (fail_if_success (with_reducible first | refine xstp ?_ | refine xgon ?_ | intro _)))))
  refine FinK.mk ⟨[], _, _, ⟨rfl, rfl⟩, ?_⟩; (repeat' first | refine And.intro ?_ ?_ | exact xeC | fail)
/-! ### awake -/
def awQ : Qos := ⟨true, false, false, 1, 0, 0, 0⟩
def awS : Smp := ⟨7, 1, 5, ⟨#[97]⟩⟩
def awP : Pr := ⟨2, true, 1, 0, 0, [], false, 0⟩
theorem aw_ma : maE awQ 3 2 0 awQ W0 = 0 ∧ maW awQ 3 2 0 awQ W0 = oneW [] 0 awP := ⟨rfl, by rw [show maW awQ 3 2 0 awQ W0 = addPW (noW [] 0) 3 awP from rfl, one_add]⟩
theorem aw_wr : wrE 7 awQ (oneW [] 0 awP) 5 ⟨#[97]⟩ = 0 ∧ wrN 7 awQ (oneW [] 0 awP) 5 ⟨#[97]⟩ = 1 ∧ wrW 7 awQ (oneW [] 0 awP) 5 ⟨#[97]⟩ = oneW [awS] 1 awP := ⟨by decide, by decide, rfl⟩
theorem aw_po : poL 7 awQ 5 (oneW [awS] 1 awP) = [datK 7 3 awP 1 awS, hbK 7 3 awP 1 5] := by
  rw [one_poL (by decide), (exp_zero (q := awQ) rfl [awS] 5).2]
  unfold polL
  rw [show polB 7 3 awP 5 = [] from rfl, show polR 7 [awS] 3 awP 5 awP.rq.length = [] by unfold polR; rw [show awP.rq.length = 0 from rfl, List.take_zero]; rfl]
  rfl
theorem rH18oJ0 {σ : List Sg} {H h' : List Fam} {v : T} {K : T → List Fam → Prop} {H' : List Fam} {v' : T} {N : Nat} (hk : K v' H') (hN : H.length = N := by (try simp only [↓List.length_cons, ↓List.length_nil, Nat.reduceAdd]) <;> rfl) (h : givesF σ N H σ h' = some H' := by (try simp (maxSteps := 1000000) only [givesF, setF, updF, Fam.zeroth, Fam.rk, Ck.rk, C.rk, E.rk, T.rk, key, List.map_cons, List.map_nil, List.cons_append, List.nil_append, List.length_cons, List.length_nil, Option.map_some, Option.bind_some, Nat.reduceAdd, Nat.zero_add, Nat.add_zero, Nat.add_sub_cancel_left, Int.toNat_natCast, reps, List.all_cons, List.all_nil, C.flat, List.append_eq, Bool.not_true, Bool.and_true, Bool.or_false, Bool.or_self, Bool.not_false, List.append_nil, Bool.and_self, ↓prC_rk, ↓rqO_rk, encQ]) <;> rfl) (hv : v.rk σ N = v' := by (try simp only [givesF, setF, updF, Fam.zeroth, Fam.rk, Ck.rk, C.rk, E.rk, T.rk, key, List.map_cons, List.map_nil, List.cons_append, List.nil_append, List.length_cons, List.length_nil, Option.map_some, Option.bind_some, Nat.reduceAdd, Nat.zero_add, Nat.add_zero, Nat.add_sub_cancel_left, Int.toNat_natCast, reps, List.all_cons, List.all_nil, C.flat, List.append_eq, Bool.not_true, Bool.and_true, Bool.or_false, Bool.or_self, Bool.not_false, List.append_nil, Bool.and_self, ↓prC_rk, ↓rqO_rk, encQ]) <;> rfl) : RetG σ H h' v K := ret_mk3 hN h hv hk
theorem cH18oJ1 {P : Program} {F : Nat} {args : List T} {H : List Fam} {K : T → List Fam → Prop} {σ : List Sg} {nl : List Fam} {args0 : List T} {h0 : List Fam} {Q : T → List Fam → Prop} {H2 H1 : List Fam} {N n : Nat} (hc : Ctr P F args0 h0 Q) (hk : ∀ v h', Q v h' → capsP h' → RetG σ H2 h' v K) (hap : apart σ = true := by rfl) (hnl : nl.all nilB = true := by rfl) (h1 : H ++ nl = H1 := by first | exact List.append_nil _ | ((try simp only [List.cons_append, List.nil_append]) <;> rfl)) (hN : H1.length = N := by (try simp only [↓List.length_cons, ↓List.length_nil, Nat.reduceAdd]) <;> rfl) (hn : H.length = n := by (try simp only [↓List.length_cons, ↓List.length_nil, Nat.reduceAdd]) <;> rfl) (hH : givesF σ N H1 σ h0 = some H2 := by (try simp (maxSteps := 1000000) only [givesF, setF, updF, Fam.zeroth, Fam.rk, Ck.rk, C.rk, E.rk, T.rk, key, List.map_cons, List.map_nil, List.cons_append, List.nil_append, List.length_cons, List.length_nil, Option.map_some, Option.bind_some, Nat.reduceAdd, Nat.zero_add, Nat.add_zero, Nat.add_sub_cancel_left, Int.toNat_natCast, reps, List.all_cons, List.all_nil, C.flat, List.append_eq, Bool.not_true, Bool.and_true, Bool.or_false, Bool.or_self, Bool.not_false, List.append_nil, Bool.and_self, ↓prC_rk, ↓rqO_rk]) <;> rfl) (hle : leS n H1 σ N σ h0 (belsK N (h0.map (Fam.rk σ N)) (argsK n args (args0.map (T.rk σ N)) True)) := by repeat' first | refine And.intro ?_ ?_ | exact xeC | fail) : CallK P F args H K := CallK.mk3 hc hap hnl h1 hN hn hH hle hk
set_option maxRecDepth 20000 in
set_option maxHeartbeats 8000000 in
theorem cawake : Ctr Try.prog 10 [] [] fun v h => v = .c .tt ∧ h = [] := by
  refine Ctr.mk' tbv mixed Try.func10 rfl rfl rfl (fun _ _ => by kernel_rfl) (by kernel_rfl) (by rfl) (by rfl) (by (repeat' first | refine And.intro ?_ ?_ | exact xeC | fail)) ?_
  repeat' (first | (fail_if_success (with_reducible refine xstp ?_)); first | (with_reducible intro hc; (try simp only [capsP, and_true] at hc); (try exact xfC)) | ((fail_if_success (with_reducible first | refine xgon ?_ | intro _)); (conv => whnf); (fail_if_success (fail_if_success (with_reducible first | refine xstp ?_ | refine xgon ?_ | intro _)))))
  refine cH18oJ1 (σ := []) (nl := []) (cnewW 7 10 awQ) ?_
  rintro v h' (⟨hq, rfl, rfl⟩ | ⟨hq, rfl, rfl⟩) hcaps
  rotate_left 1
  · exact absurd (by decide) hq
  refine rH18oJ0 ?_
  repeat' (first | (fail_if_success (with_reducible refine xstp ?_)); first | ((with_reducible refine And.intro (fun (hb : _ = true) => ?_) (fun (hb : _ = false) => ?_)) <;> replace hb := xnC hb <;> (try first | exact xfC | exact bff hb (by assumption) | exact bff (by assumption) hb)) | ((fail_if_success (with_reducible first | refine xgon ?_ | intro _)); (conv => whnf); (fail_if_success (fail_if_success (with_reducible first | refine xstp ?_ | refine xgon ?_ | intro _)))))
  refine cH18oJ1 (σ := [.whole 0, .whole 1, .whole 2, .whole 3, .whole 4, .whole 5]) (nl := []) (cmatchW 7 10 awQ W0 0 (fun _ => 0) 3 2 0 awQ W0_ok (by decide) (by decide) (by intro s hs; cases hs)) ?_ (hle := by (repeat' first | refine And.intro ?_ ?_ | exact xeC | fail) <;> exact xmC)
  rw [aw_ma.1, aw_ma.2]
  rintro v h' ⟨cf1, rfl, rfl⟩ hcaps
  refine rH18oJ0 ?_
  repeat' (first | (fail_if_success (with_reducible refine xstp ?_)); first | ((with_reducible refine And.intro (fun (hb : _ = true) => ?_) (fun (hb : _ = false) => ?_)) <;> replace hb := xnC hb <;> (try first | exact xfC | exact bff hb (by assumption) | exact bff (by assumption) hb)) | ((fail_if_success (with_reducible first | refine xgon ?_ | intro _)); (conv => whnf); (fail_if_success (fail_if_success (with_reducible first | refine xstp ?_ | refine xgon ?_ | intro _)))))
  refine cH18oJ1 (σ := [.whole 0, .whole 1, .whole 2, .whole 3, .whole 6, .whole 7]) (nl := []) (cwrite 7 10 awQ (oneW [] 0 awP) 0 cf1 5 ⟨#[97]⟩ (oneW_ok _ _ _) (by decide) (by decide)) ?_ (hle := by (repeat' first | refine And.intro ?_ ?_ | exact xeC | fail) <;> exact xmC)
  rw [aw_wr.1, aw_wr.2.1, aw_wr.2.2]
  rintro v h' ⟨c2, rfl, rfl⟩ hcaps
  refine rH18oJ0 ?_
  repeat' (first | (fail_if_success (with_reducible refine xstp ?_)); first | ((fail_if_success (with_reducible first | refine xgon ?_ | intro _)); (conv => whnf); (fail_if_success (fail_if_success (with_reducible first | refine xstp ?_ | refine xgon ?_ | intro _)))))
  refine cH18oJ1 (σ := [.whole 0, .whole 1, .whole 2, .whole 8, .whole 6, .whole 7]) (nl := []) (cpollW 7 10 awQ (oneW [awS] 1 awP) c2 cf1 5 (oneW_ok _ _ _) (by decide) (by decide) (by decide) (oneW_D ⟨by decide, by decide, by decide, by decide⟩) (by decide) (by intro s hs; rw [List.mem_singleton.1 hs]; decide) (by decide)) ?_ (hle := by (repeat' first | refine And.intro ?_ ?_ | exact xeC | fail) <;> exact xmC)
  rw [aw_po, one_poW (by decide)]
  rintro v h' ⟨c3, cf3, co, rfl, rfl⟩ hcaps
  refine rH18oJ0 ?_
  repeat' (first | (fail_if_success (with_reducible refine xstp ?_)); first | ((with_reducible refine And.intro (fun (hb : _ = true) => ?_) (fun (hb : _ = false) => ?_)) <;> replace hb := xnC hb <;> (try first | exact xfC | exact bff hb (by assumption) | exact bff (by assumption) hb | (exfalso; simp only [List.length_nil] at hb; omega) | (exfalso; revert hb; decide) | (exfalso; simp at hb; done))) | (with_reducible refine Both.mk ?_ ?_) | ((with_reducible refine And.intro ?_ ?_); focus exact xoC) | ((with_reducible refine Or.inl ⟨?_, ?_, ?_⟩); (focus rfl); focus exact xaC) | ((with_reducible refine xwB ?_ ?_); focus exact xaC) | ((with_reducible refine xwC ?_ ?_); focus exact xaC) | ((with_reducible refine xwD ?_ ?_); focus exact xaC) | ((with_reducible refine xwE ?_ ?_); focus exact xaC) | (with_reducible intro hc; (try simp only [capsP, and_true] at hc); (try exact xfC)) | ((fail_if_success (with_reducible first | refine xgon ?_ | intro _)); (conv => whnf); (fail_if_success (fail_if_success (with_reducible first | refine xstp ?_ | refine Both.mk ?_ ?_ | refine xgon ?_ | intro _)))))
  refine FinK.mk ⟨[], _, _, ⟨rfl, rfl⟩, ?_⟩
  (repeat' first | refine And.intro ?_ ?_ | exact xeC | fail)
  all_goals exact decide_eq_true rfl
end Go.Proofs.Ytofcadbfjbefkaa


namespace Go.Proofs.Ytofcadbfjbefkaa
open Go.X
set_option linter.unusedVariables false
theorem WOk.congr {W W' : Ws} (h : WOk W) (hM : W'.M = W.M) (hck : W'.ck = W.ck) (hD : ∀ x, (W'.D x).isSome = (W.D x).isSome) : WOk W' := by
  refine ⟨fun i hi => ?_, fun x p hx => ?_, fun a b hab hb => ?_, fun a b hab hb => ?_, fun i hi => ?_⟩
  · rw [hM] at hi ⊢
    obtain ⟨h1, p, h2⟩ := h.a i hi
    refine ⟨h1, Option.isSome_iff_exists.1 ?_⟩
    rw [hD, h2]; rfl
  · have : (W.D x).isSome = true := by rw [← hD, hx]; rfl
    obtain ⟨p', hp'⟩ := Option.isSome_iff_exists.1 this
    rw [hM]
    exact h.b x p' hp'
  · rw [hM] at hb ⊢; exact h.ne a b hab hb
  · rw [hM] at hb ⊢; exact h.st a b hab hb
  · rw [hM] at hi ⊢; rw [hck]; exact h.lt i hi
theorem addPW_ok {W : Ws} (h : WOk W) {r : Int} {p : Pr} (hr : 1 ≤ r ∧ r ≤ 1073741824) (hn : W.get r = none) : WOk (addPW W r p) := by
  have hno : ∀ i, i < W.M.length → (W.M.getD i default).2 ≠ r := fun i hi e => by
    obtain ⟨p, h1, _⟩ := getP_yes h hi e
    rw [hn] at h1; cases h1
  have hcase : ∀ i, i < (addPW W r p).M.length → (i < W.M.length ∧ (addPW W r p).M.getD i default = W.M.getD i default) ∨ (i = W.M.length ∧ (addPW W r p).M.getD i default = (W.ck, r)) := fun i hi => by
    rw [addPW_len] at hi
    rcases (by omega : i < W.M.length ∨ i = W.M.length) with h | h
    · exact .inl ⟨h, addPW_lt h⟩
    · subst h; exact .inr ⟨rfl, addPW_eq⟩
  refine ⟨fun i hi => ?_, fun x p' hx => ?_, fun a b hab hb => ?_, fun a b hab hb => ?_, fun i hi => ?_⟩
  · rcases hcase i hi with ⟨h1, e⟩ | ⟨h1, e⟩
    · rw [e]
      obtain ⟨h2, p', h3⟩ := h.a i h1
      refine ⟨h2, p', ?_⟩
      show (if _ = _ then _ else _) = _
      rw [if_neg (fun e => hno i h1 (by omega)), h3]
    · rw [e]
      exact ⟨hr, p, if_pos rfl⟩
  · have hx : (if x = r.toNat then some p else W.D x) = some p' := hx
    split at hx
    · rename_i e
      exact ⟨W.M.length, by rw [addPW_len]; omega, by rw [addPW_eq]; simp only; omega, by omega⟩
    · obtain ⟨i, hi, e1, e2⟩ := h.b x p' hx
      exact ⟨i, by rw [addPW_len]; omega, by rw [addPW_lt hi]; exact e1, e2⟩
  · rcases hcase b hb with ⟨h1, e⟩ | ⟨h1, e⟩
    · rw [e, addPW_lt (by omega)]; exact h.ne a b hab h1
    · rw [e, addPW_lt (by omega)]; exact hno a (by omega)
  · rcases hcase b hb with ⟨h1, e⟩ | ⟨h1, e⟩
    · rw [e, addPW_lt (by omega)]; exact h.st a b hab h1
    · rw [e, addPW_lt (by omega)]
      have := h.lt a (by omega)
      simp only
      omega
  · show _ < W.ck + 1
    rcases hcase i hi with ⟨h1, e⟩ | ⟨h1, e⟩
    · rw [e]; have := h.lt i h1; omega
    · rw [e]; simp only; omega
theorem unW_ok {W : Ws} (h : WOk W) (r : Int) : WOk (unW r W) := by
  unfold unW
  split
  · rename_i hg
    have hr : 1 ≤ r := by
      unfold Ws.get at hg
      split at hg
      · assumption
      · cases hg
    have hpne : W.M.Pairwise fun a b => a.2 ≠ b.2 := by
      rw [List.pairwise_iff_getElem]
      intro i j hi hj hij
      have := h.ne i j hij hj
      rwa [getD_at hi, getD_at hj] at this
    have hpst : W.M.Pairwise fun a b => a.1 ≠ b.1 := by
      rw [List.pairwise_iff_getElem]
      intro i j hi hj hij
      have := h.st i j hij hj
      rwa [getD_at hi, getD_at hj] at this
    have hmem : ∀ i, i < (W.M.filter fun e => decide (e.2 ≠ r)).length → ∃ j, j < W.M.length ∧ (W.M.filter fun e => decide (e.2 ≠ r)).getD i default = W.M.getD j default ∧ (W.M.getD j default).2 ≠ r := fun i hi => by
      have hm : (W.M.filter fun e => decide (e.2 ≠ r)).getD i default ∈ W.M.filter fun e => decide (e.2 ≠ r) := by rw [getD_at hi]; exact List.getElem_mem _
      obtain ⟨h1, h2⟩ := List.mem_filter.1 hm
      obtain ⟨j, hj, e⟩ := List.mem_iff_getElem.1 h1
      refine ⟨j, hj, by rw [getD_at hj, e], ?_⟩
      rw [getD_at hj, e]
      exact of_decide_eq_true h2
    refine ⟨fun i hi => ?_, fun x p hx => ?_, fun a b hab hb => ?_, fun a b hab hb => ?_, fun i hi => ?_⟩
    · obtain ⟨j, hj, e, h1⟩ := hmem i hi
      show (1 ≤ ((W.M.filter _).getD i default).2 ∧ _) ∧ ∃ p, (if ((W.M.filter _).getD i default).2.toNat = r.toNat then none else W.D ((W.M.filter _).getD i default).2.toNat) = some p
      rw [e]
      obtain ⟨h2, p, h3⟩ := h.a j hj
      refine ⟨h2, p, ?_⟩
      rw [if_neg (fun e => h1 (by omega)), h3]
    · have hx : (if x = r.toNat then none else W.D x) = some p := hx
      split at hx
      · cases hx
      · rename_i hne
        obtain ⟨i, hi, e1, e2⟩ := h.b x p hx
        have hm : W.M.getD i default ∈ W.M.filter fun e => decide (e.2 ≠ r) := List.mem_filter.2 ⟨by rw [getD_at hi]; exact List.getElem_mem _, decide_eq_true fun e => hne (by omega)⟩
        obtain ⟨j, hj, e⟩ := List.mem_iff_getElem.1 hm
        refine ⟨j, hj, ?_, e2⟩
        show ((W.M.filter _).getD j default).2 = _
        rw [getD_at hj, e]
        exact e1
    · have hp := hpne.filter fun e => decide (e.2 ≠ r)
      rw [List.pairwise_iff_getElem] at hp
      have hb : b < (W.M.filter fun e => decide (e.2 ≠ r)).length := hb
      have := hp a b (by omega) hb hab
      show ((W.M.filter _).getD a default).2 ≠ ((W.M.filter _).getD b default).2
      rwa [getD_at (show a < (W.M.filter fun e => decide (e.2 ≠ r)).length by omega), getD_at hb]
    · have hp := hpst.filter fun e => decide (e.2 ≠ r)
      rw [List.pairwise_iff_getElem] at hp
      have hb : b < (W.M.filter fun e => decide (e.2 ≠ r)).length := hb
      have := hp a b (by omega) hb hab
      show ((W.M.filter _).getD a default).1 ≠ ((W.M.filter _).getD b default).1
      rwa [getD_at (show a < (W.M.filter fun e => decide (e.2 ≠ r)).length by omega), getD_at hb]
    · obtain ⟨j, hj, e, _⟩ := hmem i hi
      show ((W.M.filter _).getD i default).1 < W.ck
      rw [e]
      exact h.lt j hj
  · exact h
/-! ### As many readers as there may be -/
def crQ : Qos := ⟨false, false, false, 1, 0, 0, 0⟩
def crP : Pr := ⟨0, false, 1, 0, 0, [], false, 0⟩
def crM : Nat → List (Nat × Int)
  | 0 => []
  | k + 1 => crM k ++ [(k, (k : Int) + 1)]
abbrev crW (k : Nat) : Ws := ⟨[], 0, crM k, k, fun y => if 1 ≤ y ∧ y ≤ k then some crP else none⟩
theorem crW_len : ∀ k, (crW k).M.length = k
  | 0 => rfl
  | k + 1 => by
    show (crM k ++ [(k, (k : Int) + 1)]).length = k + 1
    rw [List.length_append, show (crM k).length = k from crW_len k]
    rfl
theorem cr_succ (k : Nat) : addPW (crW k) ((k : Int) + 1) crP = crW (k + 1) := by
  unfold addPW crW
  simp only [Ws.mk.injEq, true_and]
  refine ⟨rfl, ?_⟩
  funext y
  by_cases h : y = ((k : Int) + 1).toNat
  · rw [if_pos h, if_pos (by omega)]
  · rw [if_neg h]
    by_cases h2 : 1 ≤ y ∧ y ≤ k
    · rw [if_pos h2, if_pos (by omega)]
    · rw [if_neg h2, if_neg (by omega)]
theorem crW_D (k y : Nat) : (crW k).D y = if 1 ≤ y ∧ y ≤ k then some crP else none := rfl
theorem crW_get (k : Nat) (r : Int) : (crW k).get r = if 1 ≤ r ∧ r ≤ k then some crP else none := by
  unfold Ws.get
  split
  · rw [crW_D]
    split
    · rw [if_pos (by omega)]
    · rw [if_neg (by omega)]
  · rw [if_neg (by omega)]
theorem cr_nget {k : Nat} {r : Int} (h : ¬ (1 ≤ r ∧ r ≤ k)) : (crW k).get r = none := by rw [crW_get, if_neg h]
theorem cr_pget {k : Nat} {r : Int} (h : 1 ≤ r ∧ r ≤ k) : (crW k).get r = some crP := by rw [crW_get, if_pos h]
theorem crW_ok : ∀ k, k ≤ 1000 → WOk (crW k)
  | 0, _ => by
    have : crW 0 = noW [] 0 := by
      unfold crW noW
      simp only [Ws.mk.injEq, true_and]
      refine ⟨rfl, ?_⟩
      funext y
      exact if_neg (by omega)
    rw [this]
    exact noW_ok [] 0
  | k + 1, h => by
    rw [← cr_succ]
    exact addPW_ok (crW_ok k (by omega)) (by omega) (cr_nget (by omega))
theorem cr_add {k : Nat} (h : k < 32) : maE crQ ((k : Int) + 1) 0 0 crQ (crW k) = 0 ∧ maW crQ ((k : Int) + 1) 0 0 crQ (crW k) = crW (k + 1) := by
  have e1 : maE crQ ((k : Int) + 1) 0 0 crQ (crW k) = 0 := by
    unfold maE
    rw [if_neg (by omega), if_neg (by decide), if_neg (by decide), cr_nget (by omega), crW_len]
    show (if 32 ≤ k then (15 : Int) else 0) = 0
    exact if_neg (by omega)
  refine ⟨e1, ?_⟩
  unfold maW
  rw [if_pos e1]
  have : newP crQ crQ (crW k) 0 0 = crP := by
    rfl
  rw [this, cr_succ]
theorem cr_33 : maE crQ 33 0 0 crQ (crW 32) = 15 := by
  unfold maE
  rw [if_neg (by omega), if_neg (by decide), if_neg (by decide), cr_nget (by omega), crW_len]
  rfl
theorem cr_1 : maE crQ 1 0 0 crQ (crW 32) = 7 := by
  unfold maE
  rw [if_neg (by omega), if_neg (by decide), if_neg (by decide), cr_pget (by omega)]
  rfl
theorem cr_big : maE crQ 1073741825 0 0 crQ (crW 32) = 4 := by
  unfold maE
  rw [if_pos (by omega)]
theorem ma_no {q q2 : Qos} {r nd at' : Int} {W : Ws} (h : maE q r nd at' q2 W ≠ 0) : maW q r nd at' q2 W = W := if_neg h
theorem cr_un : unE 1 (crW 32) = 0 := by
  unfold unE
  rw [cr_pget (by omega)]
  rfl
abbrev crU : Ws := ⟨[], 0, (crM 32).filter fun e => decide (e.2 ≠ 1), 32, fun y => if y = (1 : Int).toNat then none else (crW 32).D y⟩
theorem cr_unW : unW 1 (crW 32) = crU := by
  unfold unW
  rw [if_pos (by rw [cr_pget (by omega)]; rfl)]
theorem cr_last : maE crQ 1073741824 0 0 crQ (crU) = 0 := by
  have hn : (crU).get 1073741824 = none := by
    unfold Ws.get
    rw [if_pos (by omega)]
    show (if (1073741824 : Int).toNat = (1 : Int).toNat then none else (crW 32).D (1073741824 : Int).toNat) = none
    rw [if_neg (by decide), crW_D, if_neg (by decide)]
  have hl : (crU).M.length ≤ 31 := by
    show ((crW 32).M.filter fun e => decide (e.2 ≠ 1)).length ≤ 31
    have h0 : (crW 32).M.getD 0 default = (0, 1) := by decide
    have := un_erase (crW_ok 32 (by decide)) (k := 0) (by rw [crW_len]; decide) (w := 1) (by rw [h0])
    rw [this, List.length_eraseIdx_of_lt (by rw [crW_len]; decide), crW_len]
    decide
  unfold maE
  rw [if_neg (by omega), if_neg (by decide), if_neg (by decide), hn]
  show (if 32 ≤ (crU).M.length then (15 : Int) else 0) = 0
  exact if_neg (by omega)
theorem cr_lastW : maW crQ 1073741824 0 0 crQ crU = addPW crU 1073741824 crP := by
  unfold maW
  rw [if_pos cr_last]
  rfl
end Go.Proofs.Ytofcadbfjbefkaa


namespace Go.Proofs.Ytofcadbfjbefkaa
open Go.X
set_option linter.unusedSimpArgs false
set_option linter.unusedVariables false
theorem crU_le {N N' : Nat} {σ : List Sg} {cf : Nat → Nat} (x : Nat) : (rqO ((crW 32).D x) (cf x)).leK N ((rqO (crU.D x) (cf x)).rk σ N') True := by
  rw [← cr_unW]; exact rqs_un x
theorem rH18oL0 {σ : List Sg} {H h' : List Fam} {v : T} {K : T → List Fam → Prop} {H' : List Fam} {v' : T} {N : Nat} (hk : K v' H') (hN : H.length = N := by (try simp only [↓List.length_cons, ↓List.length_nil, Nat.reduceAdd]) <;> rfl) (h : givesF σ N H σ h' = some H' := by (try simp (maxSteps := 1000000) only [givesF, setF, updF, Fam.zeroth, Fam.rk, Ck.rk, C.rk, E.rk, T.rk, key, List.map_cons, List.map_nil, List.cons_append, List.nil_append, List.length_cons, List.length_nil, Option.map_some, Option.bind_some, Nat.reduceAdd, Nat.zero_add, Nat.add_zero, Nat.add_sub_cancel_left, Int.toNat_natCast, reps, List.all_cons, List.all_nil, C.flat, List.append_eq, Bool.not_true, Bool.and_true, Bool.or_false, Bool.or_self, Bool.not_false, List.append_nil, Bool.and_self, ↓prC_rk, ↓rqO_rk, encQ]) <;> rfl) (hv : v.rk σ N = v' := by (try simp only [givesF, setF, updF, Fam.zeroth, Fam.rk, Ck.rk, C.rk, E.rk, T.rk, key, List.map_cons, List.map_nil, List.cons_append, List.nil_append, List.length_cons, List.length_nil, Option.map_some, Option.bind_some, Nat.reduceAdd, Nat.zero_add, Nat.add_zero, Nat.add_sub_cancel_left, Int.toNat_natCast, reps, List.all_cons, List.all_nil, C.flat, List.append_eq, Bool.not_true, Bool.and_true, Bool.or_false, Bool.or_self, Bool.not_false, List.append_nil, Bool.and_self, ↓prC_rk, ↓rqO_rk, encQ]) <;> rfl) : RetG σ H h' v K := ret_mk3 hN h hv hk
theorem cH18oL2 {P : Program} {F : Nat} {args : List T} {H : List Fam} {K : T → List Fam → Prop} {σ : List Sg} {nl : List Fam} {args0 : List T} {h0 : List Fam} {Q : T → List Fam → Prop} {H2 H1 : List Fam} {N n : Nat} (hc : Ctr P F args0 h0 Q) (hk : ∀ v h', Q v h' → capsP h' → RetG σ H2 h' v K) (hap : apart σ = true := by rfl) (hnl : nl.all nilB = true := by rfl) (h1 : H ++ nl = H1 := by first | exact List.append_nil _ | ((try simp only [List.cons_append, List.nil_append]) <;> rfl)) (hN : H1.length = N := by (try simp only [↓List.length_cons, ↓List.length_nil, Nat.reduceAdd]) <;> rfl) (hn : H.length = n := by (try simp only [↓List.length_cons, ↓List.length_nil, Nat.reduceAdd]) <;> rfl) (hH : givesF σ N H1 σ h0 = some H2 := by (try simp (maxSteps := 1000000) only [givesF, setF, updF, Fam.zeroth, Fam.rk, Ck.rk, C.rk, E.rk, T.rk, key, List.map_cons, List.map_nil, List.cons_append, List.nil_append, List.length_cons, List.length_nil, Option.map_some, Option.bind_some, Nat.reduceAdd, Nat.zero_add, Nat.add_zero, Nat.add_sub_cancel_left, Int.toNat_natCast, reps, List.all_cons, List.all_nil, C.flat, List.append_eq, Bool.not_true, Bool.and_true, Bool.or_false, Bool.or_self, Bool.not_false, List.append_nil, Bool.and_self, ↓prC_rk, ↓rqO_rk]) <;> rfl) (hle : leS n H1 σ N σ h0 (belsK N (h0.map (Fam.rk σ N)) (argsK n args (args0.map (T.rk σ N)) True)) := by repeat' first | refine And.intro ?_ ?_ | exact xeC | fail) : CallK P F args H K := CallK.mk3 hc hap hnl h1 hN hn hH hle hk
set_option maxRecDepth 20000 in
set_option maxHeartbeats 8000000 in
theorem ccrowded (id per : Int) (c : Nat) (cf : Nat → Nat) : Ctr Try.prog 17 [.c (.p 0 0 0)] (wB id per crQ (crW 0) c cf)
    fun v h => ∃ c' cf', v = .c .tt ∧ h = wM id per crQ (addPW crU 1073741824 crP) c' cf' := by
  refine Ctr.mk' tbv mixed Try.func17 rfl rfl rfl (fun _ _ => by kernel_rfl) (by kernel_rfl) (by rfl) (by rfl) (by (repeat' first | refine And.intro ?_ ?_ | exact xeC | fail) <;> exact xmC) ?_
  repeat' (first | (fail_if_success (with_reducible refine xstp ?_)); first | (with_reducible intro hc; (try simp only [capsP, and_true] at hc); (try exact xfC)) | ((fail_if_success (with_reducible first | refine xgon ?_ | intro _)); (conv => whnf); (fail_if_success (fail_if_success (with_reducible first | refine xstp ?_ | refine xgon ?_ | intro _)))))
  refine LoopK.mk' ({k : Nat // k ≤ 32} × Nat × (Nat → Nat))
    (fun ⟨⟨k, _⟩, c, cf⟩ => ⟨[(0, .c (.p 0 0 0)), (3, .c (.p 6 0 0)), (4, .c (.i .i64 ((k : Int) + 1)))],
      [.one (wrc 1 2 id per 0 crQ), .one (hist 3 crQ 0 c), .one (peM 7 (crW k).M (crW k).ck), .one (smps true (crW k).l c), .one .no, .one .no, .one (.cells true (encQ crQ)), prs 8 (crW k).D cf, rqs (crW k).D cf]⟩)
    (fun k => 32 - k.1.1)
    ⟨⟨⟨0, by decide⟩, c, cf⟩, [0, 1, 2, 3, 4, 5, 6, 4, 5], ?_⟩ ?_
  · (repeat' first | refine And.intro ?_ ?_ | exact xeC | fail)
    all_goals (exact xmC)
  rintro ⟨⟨k, hk⟩, c, cf⟩
  repeat' (first | (fail_if_success (with_reducible refine xstp ?_)); first | ((with_reducible refine And.intro (fun (hb : _ = true) => ?_) (fun (hb : _ = false) => ?_)) <;> replace hb := xnC hb <;> (try first | exact xfC | exact bff hb (by assumption) | exact bff (by assumption) hb)) | (with_reducible intro hc; (try simp only [capsP, and_true] at hc); (try exact xfC)) | ((fail_if_success (with_reducible first | refine xgon ?_ | intro _)); (conv => whnf); (fail_if_success (fail_if_success (with_reducible first | refine xstp ?_ | refine xgon ?_ | intro _)))))
  · refine cH18oL2 (σ := [.whole 0, .whole 1, .whole 2, .whole 3, .whole 7, .whole 8]) (nl := []) (cmatchW id per crQ (crW k) c cf ((k : Int) + 1) 0 0 crQ (crW_ok k (by omega)) (Nat.zero_le _) ⟨Int.le_refl 0, show (0 : Int) ≤ 1000000 by decide⟩ (by intro s hs; cases hs)) ?_ (hle := by (repeat' first | refine And.intro ?_ ?_ | exact xeC | fail) <;> exact xmC)
    rw [(cr_add (show k < 32 by omega)).1, (cr_add (show k < 32 by omega)).2]
    rintro v h' ⟨cf1, rfl, rfl⟩ hcaps
    refine rH18oL0 ?_
    repeat' (first | (fail_if_success (with_reducible refine xstp ?_)); first | ((with_reducible refine And.intro (fun (hb : _ = true) => ?_) (fun (hb : _ = false) => ?_)) <;> replace hb := xnC hb <;> (try first | exact xfC | exact bff hb (by assumption) | exact bff (by assumption) hb)) | ((with_reducible refine And.intro ?_ ?_); focus exact xoC) | ((fail_if_success (with_reducible first | refine xgon ?_ | intro _)); (conv => whnf); (fail_if_success (fail_if_success (with_reducible first | refine xstp ?_ | refine xgon ?_ | intro _)))))
    refine ⟨⟨⟨k + 1, by omega⟩, c, cf1⟩, [0, 1, 2, 3, 4, 5, 6, 9, 10], by simp only; omega, ?_⟩
    (repeat' first | refine And.intro ?_ ?_ | exact xeC | fail)
    all_goals (exact xmC)
  obtain rfl : k = 32 := by omega
  refine cH18oL2 (σ := [.whole 0, .whole 1, .whole 2, .whole 3, .whole 7, .whole 8]) (nl := []) (cmatchW id per crQ (crW 32) c cf 33 0 0 crQ (crW_ok 32 (by omega)) (Nat.zero_le _) (by decide) (by intro s hs; cases hs)) ?_ (hle := by (repeat' first | refine And.intro ?_ ?_ | exact xeC | fail) <;> exact xmC)
  rw [ma_no (show maE crQ 33 0 0 crQ (crW 32) ≠ 0 by rw [cr_33]; decide), cr_33]
  rintro v h' ⟨cf1, rfl, rfl⟩ hcaps
  refine rH18oL0 ?_
  repeat' (first | (fail_if_success (with_reducible refine xstp ?_)); first | ((with_reducible refine And.intro (fun (hb : _ = true) => ?_) (fun (hb : _ = false) => ?_)) <;> replace hb := xnC hb <;> (try first | exact xfC | exact bff hb (by assumption) | exact bff (by assumption) hb)) | ((fail_if_success (with_reducible first | refine xgon ?_ | intro _)); (conv => whnf); (fail_if_success (fail_if_success (with_reducible first | refine xstp ?_ | refine xgon ?_ | intro _)))))
  refine cH18oL2 (σ := [.whole 0, .whole 1, .whole 2, .whole 3, .whole 9, .whole 10]) (nl := []) (cmatchW id per crQ (crW 32) c cf1 1 0 0 crQ (crW_ok 32 (by omega)) (Nat.zero_le _) (by decide) (by intro s hs; cases hs)) ?_ (hle := by (repeat' first | refine And.intro ?_ ?_ | exact xeC | fail) <;> exact xmC)
  rw [ma_no (show maE crQ 1 0 0 crQ (crW 32) ≠ 0 by rw [cr_1]; decide), cr_1]
  rintro v h' ⟨cf2, rfl, rfl⟩ hcaps
  refine rH18oL0 ?_
  repeat' (first | (fail_if_success (with_reducible refine xstp ?_)); first | ((with_reducible refine And.intro (fun (hb : _ = true) => ?_) (fun (hb : _ = false) => ?_)) <;> replace hb := xnC hb <;> (try first | exact xfC | exact bff hb (by assumption) | exact bff (by assumption) hb)) | ((fail_if_success (with_reducible first | refine xgon ?_ | intro _)); (conv => whnf); (fail_if_success (fail_if_success (with_reducible first | refine xstp ?_ | refine xgon ?_ | intro _)))))
  refine cH18oL2 (σ := [.whole 0, .whole 1, .whole 2, .whole 3, .whole 11, .whole 12]) (nl := []) (cmatchW id per crQ (crW 32) c cf2 1073741825 0 0 crQ (crW_ok 32 (by omega)) (Nat.zero_le _) (by decide) (by intro s hs; cases hs)) ?_ (hle := by (repeat' first | refine And.intro ?_ ?_ | exact xeC | fail) <;> exact xmC)
  rw [ma_no (show maE crQ 1073741825 0 0 crQ (crW 32) ≠ 0 by rw [cr_big]; decide), cr_big]
  rintro v h' ⟨cf3, rfl, rfl⟩ hcaps
  refine rH18oL0 ?_
  repeat' (first | (fail_if_success (with_reducible refine xstp ?_)); first | ((with_reducible refine And.intro (fun (hb : _ = true) => ?_) (fun (hb : _ = false) => ?_)) <;> replace hb := xnC hb <;> (try first | exact xfC | exact bff hb (by assumption) | exact bff (by assumption) hb)) | ((fail_if_success (with_reducible first | refine xgon ?_ | intro _)); (conv => whnf); (fail_if_success (fail_if_success (with_reducible first | refine xstp ?_ | refine xgon ?_ | intro _)))))
  refine cH18oL2 (σ := [.whole 0, .name 1, .whole 2, .whole 13, .name 14]) (nl := []) (cunW id per 0 crQ (crW 32) cf3 1 (crW_ok 32 (by omega))) ?_ (hle := by (repeat' first | refine And.intro ?_ ?_ | exact xeC | fail) <;> exact xmC)
  rw [cr_un, cr_unW]
  rintro v h' ⟨rfl, rfl⟩ hcaps
  refine rH18oL0 ?_
  repeat' (first | (fail_if_success (with_reducible refine xstp ?_)); first | ((with_reducible refine And.intro (fun (hb : _ = true) => ?_) (fun (hb : _ = false) => ?_)) <;> replace hb := xnC hb <;> (try first | exact xfC | exact bff hb (by assumption) | exact bff (by assumption) hb)) | ((fail_if_success (with_reducible first | refine xgon ?_ | intro _)); (conv => whnf); (fail_if_success (fail_if_success (with_reducible first | refine xstp ?_ | refine xgon ?_ | intro _)))))
  refine cH18oL2 (σ := [.whole 0, .whole 1, .whole 2, .whole 3, .whole 13, .whole 14]) (nl := []) (cmatchW id per crQ crU c cf3 1073741824 0 0 crQ (by rw [← cr_unW]; exact unW_ok (crW_ok 32 (by omega)) 1) (Nat.zero_le _) (by decide) (by intro s hs; cases hs)) ?_ (hle := by (repeat' first | refine And.intro ?_ ?_ | exact xeC | fail) <;> first | exact xmC | exact fun x => crU_le x)
  rw [show maW crQ 1073741824 0 0 crQ crU = addPW crU 1073741824 crP from cr_lastW, cr_last]
  rintro v h' ⟨cf4, rfl, rfl⟩ hcaps
  refine rH18oL0 ?_
  repeat' (first | (fail_if_success (with_reducible refine xstp ?_)); first | ((with_reducible refine And.intro (fun (hb : _ = true) => ?_) (fun (hb : _ = false) => ?_)) <;> replace hb := xnC hb <;> (try first | exact xfC | exact bff hb (by assumption) | exact bff (by assumption) hb | (exfalso; simp only [List.length_nil] at hb; omega) | (exfalso; revert hb; decide) | (exfalso; simp at hb; done))) | (with_reducible refine Both.mk ?_ ?_) | ((with_reducible refine And.intro ?_ ?_); focus exact xoC) | ((with_reducible refine Or.inl ⟨?_, ?_, ?_⟩); (focus rfl); focus exact xaC) | ((with_reducible refine xwB ?_ ?_); focus exact xaC) | ((with_reducible refine xwC ?_ ?_); focus exact xaC) | ((with_reducible refine xwD ?_ ?_); focus exact xaC) | ((with_reducible refine xwE ?_ ?_); focus exact xaC) | (with_reducible intro hc; (try simp only [capsP, and_true] at hc); (try exact xfC)) | ((fail_if_success (with_reducible first | refine xgon ?_ | intro _)); (conv => whnf); (fail_if_success (fail_if_success (with_reducible first | refine xstp ?_ | refine Both.mk ?_ ?_ | refine xgon ?_ | intro _)))))
  refine FinK.mk ⟨[0, 1, 2, 3, 4, 5, 15, 16], _, _, ⟨c, cf4, rfl, rfl⟩, ?_⟩
  (repeat' first | refine And.intro ?_ ?_ | exact xeC | fail)
  all_goals (exact xmC)
theorem crW0 : W0 = crW 0 := by
  unfold W0 crW
  simp only [Ws.mk.injEq, true_and]
  refine ⟨rfl, ?_⟩
  funext y
  exact (if_neg (by omega)).symm
theorem cnewC (id per : Int) (q : Qos) : Ctr Try.prog 6 [.c (.i .i64 id), .a (encQ q), .c (.i .i64 per)] []
      fun v h => ((idOk id per ∧ okQ q) ∧ v = .t [.c (.p 0 0 0), .c (.i .i64 0)] ∧ h = wB id per q (crW 0) 0 fun _ => 0) ∨ (¬ (idOk id per ∧ okQ q) ∧ v = .t [.c .nilp, .c (.i .i64 4)] ∧ h = []) := by
  rw [← crW0]
  exact cnewW id per q
theorem chk_mf {x : Pk} (h : chk x = 0) (i : Nat) (hi : i < x.m.length) : x.f ≤ x.m.getD i default := by
  have hb : ¬ badP x := fun hb => by
    unfold chk at h
    split at h
    · omega
    · split at h
      · omega
      · split at h
        · omega
        · first | omega | (rw [if_pos hb] at h; omega)
  by_cases hf : x.f ≤ x.m.getD i default
  · exact hf
  · exact absurd ⟨i, hi, .inl (by omega)⟩ hb
theorem ak0 (id : Int) (x : Pk) : akE id x (crW 0) = if chk x = 0 ∧ x.k = 3 ∧ x.w = id ∧ x.f = 1 ∧ x.m.length = 0 then 6 else 4 := by
  unfold akE
  split
  · rename_i h
    have h : chk x ≠ 0 ∨ x.k ≠ 3 ∨ x.w ≠ id ∨ (0 : Int) + 1 < x.f := h
    rw [if_neg (by omega)]
  · rename_i h
    have h : ¬ (chk x ≠ 0 ∨ x.k ≠ 3 ∨ x.w ≠ id ∨ (0 : Int) + 1 < x.f) := h
    have h1 := chk_f (x := x) (by omega) (by omega)
    split
    · rename_i h2
      obtain ⟨n, hn, _⟩ := h2
      have := List.length_pos_of_mem hn
      rw [if_neg (by omega)]
    · rename_i h2
      have h0 : x.m.length = 0 := by
        by_cases h0 : x.m.length = 0
        · exact h0
        · refine absurd ⟨x.m.getD 0 default, by rw [getD_at (by omega)]; exact List.getElem_mem _, ?_⟩ h2
          have := chk_mf (x := x) (by omega) 0 (by omega)
          show (0 : Int) < _
          omega
      rw [if_neg (by rw [cr_nget (by omega)]; decide), if_pos (by omega)]
theorem akW0 (id : Int) (x : Pk) : akW id x (crW 0) = crW 0 := by
  unfold akW
  rw [if_neg (by rw [ak0]; split <;> decide)]
theorem ma_8 : maE crQ 1 8 0 crQ (crW 0) = 4 := by
  unfold maE
  rw [if_pos (by omega)]
theorem crW_rq (k : Nat) : ∀ y p, (crW k).D y = some p → p.rq.length ≤ 100000 := fun y p h => by
  rw [crW_D] at h
  split at h
  · rw [← Option.some.inj h]; exact Nat.zero_le _
  · cases h
def badQ : Qos := ⟨false, false, false, 0, 0, 0, 0⟩
theorem rH18oL1 {σ : List Sg} {H h' : List Fam} {v : T} {K : T → List Fam → Prop} {H' : List Fam} {v' : T} {N : Nat} (hk : K v' H') (hN : H.length = N := by (try simp only [↓List.length_cons, ↓List.length_nil, Nat.reduceAdd]) <;> rfl) (h : givesF σ N H σ h' = some H' := by (try simp (maxSteps := 1000000) only [givesF, setF, updF, Fam.zeroth, Fam.rk, Ck.rk, C.rk, E.rk, T.rk, key, List.map_cons, List.map_nil, List.cons_append, List.nil_append, List.length_cons, List.length_nil, Option.map_some, Option.bind_some, Nat.reduceAdd, Nat.zero_add, Nat.add_zero, Nat.add_sub_cancel_left, Int.toNat_natCast, reps, List.all_cons, List.all_nil, C.flat, List.append_eq, Bool.not_true, Bool.and_true, Bool.or_false, Bool.or_self, Bool.not_false, List.append_nil, Bool.and_self, ↓prC_rk, ↓rqO_rk, encP, encQ]) <;> rfl) (hv : v.rk σ N = v' := by (try simp only [givesF, setF, updF, Fam.zeroth, Fam.rk, Ck.rk, C.rk, E.rk, T.rk, key, List.map_cons, List.map_nil, List.cons_append, List.nil_append, List.length_cons, List.length_nil, Option.map_some, Option.bind_some, Nat.reduceAdd, Nat.zero_add, Nat.add_zero, Nat.add_sub_cancel_left, Int.toNat_natCast, reps, List.all_cons, List.all_nil, C.flat, List.append_eq, Bool.not_true, Bool.and_true, Bool.or_false, Bool.or_self, Bool.not_false, List.append_nil, Bool.and_self, ↓prC_rk, ↓rqO_rk, encP, encQ]) <;> rfl) : RetG σ H h' v K := ret_mk3 hN h hv hk
set_option maxRecDepth 20000 in
set_option maxHeartbeats 8000000 in
theorem crefuses (id per : Int) (x : Pk) (cm : Nat) (hp : x.p.length ≤ 140737488351232) (hm : x.m.length ≤ 9223372036854775807) : Ctr Try.prog 5 [.c (.i .i64 id), .c (.i .i64 per), .a (encP (.sl 0 0 1 0 x.m.length cm) x)] [.one (ints false x.m cm)]
    fun v h => v = .c .tt ∧ h = [.one (ints false x.m cm)] := by
  refine Ctr.mk' tbv mixed Try.func5 rfl rfl rfl (fun _ _ => by kernel_rfl) (by kernel_rfl) (by rfl) (by rfl) (by (repeat' first | refine And.intro ?_ ?_ | exact xeC | fail)) ?_
  repeat' (first | (fail_if_success (with_reducible refine xstp ?_)); first | (with_reducible intro hc; (try simp only [capsP, and_true] at hc); (try exact xfC)) | ((fail_if_success (with_reducible first | refine xgon ?_ | intro _)); (conv => whnf); (fail_if_success (fail_if_success (with_reducible first | refine xstp ?_ | refine xgon ?_ | intro _)))))
  refine cH18oL2 (σ := []) (nl := []) (cnewC id per crQ) ?_
  rintro v h' (⟨hq, rfl, rfl⟩ | ⟨hq, rfl, rfl⟩) hcaps
  rotate_left 1
  · have hi : ¬ idOk id per := fun h => hq ⟨h, by decide⟩
    refine rH18oL1 ?_
    repeat' (first | (fail_if_success (with_reducible refine xstp ?_)); first | ((fail_if_success (with_reducible first | refine xgon ?_ | intro _)); (conv => whnf); (fail_if_success (fail_if_success (with_reducible first | refine xstp ?_ | refine xgon ?_ | intro _)))))
    refine cH18oL2 (σ := []) (nl := []) (nwrite 0 ⟨#[]⟩) ?_
    rintro v h' ⟨rfl, rfl⟩ hcaps
    refine rH18oL1 ?_
    repeat' (first | (fail_if_success (with_reducible refine xstp ?_)); first | ((fail_if_success (with_reducible first | refine xgon ?_ | intro _)); (conv => whnf); (fail_if_success (fail_if_success (with_reducible first | refine xstp ?_ | refine xgon ?_ | intro _)))))
    refine cH18oL2 (σ := []) (nl := []) (nnext) ?_
    rintro v h' ⟨rfl, rfl⟩ hcaps
    refine rH18oL1 ?_
    repeat' (first | (fail_if_success (with_reducible refine xstp ?_)); first | ((with_reducible refine And.intro (fun (hb : _ = true) => ?_) (fun (hb : _ = false) => ?_)) <;> replace hb := xnC hb <;> (try first | exact xfC | exact bff hb (by assumption) | exact bff (by assumption) hb)) | ((fail_if_success (with_reducible first | refine xgon ?_ | intro _)); (conv => whnf); (fail_if_success (fail_if_success (with_reducible first | refine xstp ?_ | refine xgon ?_ | intro _)))))
    refine cH18oL2 (σ := [.name 0]) (nl := []) (nack x x.m.length cm 0 0) ?_
    rintro v h' ⟨rfl, rfl⟩ hcaps
    refine rH18oL1 ?_
    repeat' (first | (fail_if_success (with_reducible refine xstp ?_)); first | ((with_reducible refine And.intro (fun (hb : _ = true) => ?_) (fun (hb : _ = false) => ?_)) <;> replace hb := xnC hb <;> (try first | exact xfC | exact bff hb (by assumption) | exact bff (by assumption) hb)) | ((fail_if_success (with_reducible first | refine xgon ?_ | intro _)); (conv => whnf); (fail_if_success (fail_if_success (with_reducible first | refine xstp ?_ | refine xgon ?_ | intro _)))))
    refine cH18oL2 (σ := []) (nl := []) (npoll 0) ?_
    rintro v h' ⟨rfl, rfl⟩ hcaps
    refine rH18oL1 ?_
    repeat' (first | (fail_if_success (with_reducible refine xstp ?_)); first | ((with_reducible refine And.intro (fun (hb : _ = true) => ?_) (fun (hb : _ = false) => ?_)) <;> replace hb := xnC hb <;> (try first | exact xfC | exact bff hb (by assumption) | exact bff (by assumption) hb)) | ((fail_if_success (with_reducible first | refine xgon ?_ | intro _)); (conv => whnf); (fail_if_success (fail_if_success (with_reducible first | refine xstp ?_ | refine xgon ?_ | intro _)))))
    refine cH18oL2 (σ := []) (nl := []) (nheld) ?_
    rintro v h' ⟨rfl, rfl⟩ hcaps
    refine rH18oL1 ?_
    repeat' (first | (fail_if_success (with_reducible refine xstp ?_)); first | ((with_reducible refine And.intro (fun (hb : _ = true) => ?_) (fun (hb : _ = false) => ?_)) <;> replace hb := xnC hb <;> (try first | exact xfC | exact bff hb (by assumption) | exact bff (by assumption) hb)) | ((fail_if_success (with_reducible first | refine xgon ?_ | intro _)); (conv => whnf); (fail_if_success (fail_if_success (with_reducible first | refine xstp ?_ | refine xgon ?_ | intro _)))))
    refine cH18oL2 (σ := []) (nl := []) (nacked 1) ?_
    rintro v h' ⟨rfl, rfl⟩ hcaps
    refine rH18oL1 ?_
    repeat' (first | (fail_if_success (with_reducible refine xstp ?_)); first | ((with_reducible refine And.intro (fun (hb : _ = true) => ?_) (fun (hb : _ = false) => ?_)) <;> replace hb := xnC hb <;> (try first | exact xfC | exact bff hb (by assumption) | exact bff (by assumption) hb)) | ((fail_if_success (with_reducible first | refine xgon ?_ | intro _)); (conv => whnf); (fail_if_success (fail_if_success (with_reducible first | refine xstp ?_ | refine xgon ?_ | intro _)))))
    refine cH18oL2 (σ := []) (nl := []) (nunm 1) ?_
    rintro v h' ⟨rfl, rfl⟩ hcaps
    refine rH18oL1 ?_
    repeat' (first | (fail_if_success (with_reducible refine xstp ?_)); first | ((with_reducible refine And.intro (fun (hb : _ = true) => ?_) (fun (hb : _ = false) => ?_)) <;> replace hb := xnC hb <;> (try first | exact xfC | exact bff hb (by assumption) | exact bff (by assumption) hb)) | ((fail_if_success (with_reducible first | refine xgon ?_ | intro _)); (conv => whnf); (fail_if_success (fail_if_success (with_reducible first | refine xstp ?_ | refine xgon ?_ | intro _)))))
    rotate_right 1
    · exact absurd ⟨⟨by omega, by omega⟩, by omega, by omega⟩ hi
    · refine cH18oL2 (σ := []) (nl := []) (cawake) ?_
      rintro v h' ⟨rfl, rfl⟩ hcaps
      refine rH18oL1 ?_
      repeat' (first | (fail_if_success (with_reducible refine xstp ?_)); first | ((with_reducible refine And.intro (fun (hb : _ = true) => ?_) (fun (hb : _ = false) => ?_)) <;> replace hb := xnC hb <;> (try first | exact xfC | exact bff hb (by assumption) | exact bff (by assumption) hb | (exfalso; simp only [List.length_nil] at hb; omega) | (exfalso; revert hb; decide) | (exfalso; simp at hb; done))) | (with_reducible refine Both.mk ?_ ?_) | ((with_reducible refine And.intro ?_ ?_); focus exact xoC) | ((with_reducible refine Or.inl ⟨?_, ?_, ?_⟩); (focus rfl); focus exact xaC) | ((with_reducible refine xwB ?_ ?_); focus exact xaC) | ((with_reducible refine xwC ?_ ?_); focus exact xaC) | ((with_reducible refine xwD ?_ ?_); focus exact xaC) | ((with_reducible refine xwE ?_ ?_); focus exact xaC) | (with_reducible intro hc; (try simp only [capsP, and_true] at hc); (try exact xfC)) | ((fail_if_success (with_reducible first | refine xgon ?_ | intro _)); (conv => whnf); (fail_if_success (fail_if_success (with_reducible first | refine xstp ?_ | refine Both.mk ?_ ?_ | refine xgon ?_ | intro _)))))
      refine FinK.mk ⟨[0], _, _, ⟨rfl, rfl⟩, ?_⟩; (repeat' first | refine And.intro ?_ ?_ | exact xeC | fail)
    · refine cH18oL2 (σ := []) (nl := []) (cawake) ?_
      rintro v h' ⟨rfl, rfl⟩ hcaps
      refine rH18oL1 ?_
      repeat' (first | (fail_if_success (with_reducible refine xstp ?_)); first | ((with_reducible refine And.intro (fun (hb : _ = true) => ?_) (fun (hb : _ = false) => ?_)) <;> replace hb := xnC hb <;> (try first | exact xfC | exact bff hb (by assumption) | exact bff (by assumption) hb | (exfalso; simp only [List.length_nil] at hb; omega) | (exfalso; revert hb; decide) | (exfalso; simp at hb; done))) | (with_reducible refine Both.mk ?_ ?_) | ((with_reducible refine And.intro ?_ ?_); focus exact xoC) | ((with_reducible refine Or.inl ⟨?_, ?_, ?_⟩); (focus rfl); focus exact xaC) | ((with_reducible refine xwB ?_ ?_); focus exact xaC) | ((with_reducible refine xwC ?_ ?_); focus exact xaC) | ((with_reducible refine xwD ?_ ?_); focus exact xaC) | ((with_reducible refine xwE ?_ ?_); focus exact xaC) | (with_reducible intro hc; (try simp only [capsP, and_true] at hc); (try exact xfC)) | ((fail_if_success (with_reducible first | refine xgon ?_ | intro _)); (conv => whnf); (fail_if_success (fail_if_success (with_reducible first | refine xstp ?_ | refine Both.mk ?_ ?_ | refine xgon ?_ | intro _)))))
      refine FinK.mk ⟨[0], _, _, ⟨rfl, rfl⟩, ?_⟩; (repeat' first | refine And.intro ?_ ?_ | exact xeC | fail)
    · refine cH18oL2 (σ := []) (nl := []) (cawake) ?_
      rintro v h' ⟨rfl, rfl⟩ hcaps
      refine rH18oL1 ?_
      repeat' (first | (fail_if_success (with_reducible refine xstp ?_)); first | ((with_reducible refine And.intro (fun (hb : _ = true) => ?_) (fun (hb : _ = false) => ?_)) <;> replace hb := xnC hb <;> (try first | exact xfC | exact bff hb (by assumption) | exact bff (by assumption) hb | (exfalso; simp only [List.length_nil] at hb; omega) | (exfalso; revert hb; decide) | (exfalso; simp at hb; done))) | (with_reducible refine Both.mk ?_ ?_) | ((with_reducible refine And.intro ?_ ?_); focus exact xoC) | ((with_reducible refine Or.inl ⟨?_, ?_, ?_⟩); (focus rfl); focus exact xaC) | ((with_reducible refine xwB ?_ ?_); focus exact xaC) | ((with_reducible refine xwC ?_ ?_); focus exact xaC) | ((with_reducible refine xwD ?_ ?_); focus exact xaC) | ((with_reducible refine xwE ?_ ?_); focus exact xaC) | (with_reducible intro hc; (try simp only [capsP, and_true] at hc); (try exact xfC)) | ((fail_if_success (with_reducible first | refine xgon ?_ | intro _)); (conv => whnf); (fail_if_success (fail_if_success (with_reducible first | refine xstp ?_ | refine Both.mk ?_ ?_ | refine xgon ?_ | intro _)))))
      refine FinK.mk ⟨[0], _, _, ⟨rfl, rfl⟩, ?_⟩; (repeat' first | refine And.intro ?_ ?_ | exact xeC | fail)
    · refine cH18oL2 (σ := []) (nl := []) (cawake) ?_
      rintro v h' ⟨rfl, rfl⟩ hcaps
      refine rH18oL1 ?_
      repeat' (first | (fail_if_success (with_reducible refine xstp ?_)); first | ((with_reducible refine And.intro (fun (hb : _ = true) => ?_) (fun (hb : _ = false) => ?_)) <;> replace hb := xnC hb <;> (try first | exact xfC | exact bff hb (by assumption) | exact bff (by assumption) hb | (exfalso; simp only [List.length_nil] at hb; omega) | (exfalso; revert hb; decide) | (exfalso; simp at hb; done))) | (with_reducible refine Both.mk ?_ ?_) | ((with_reducible refine And.intro ?_ ?_); focus exact xoC) | ((with_reducible refine Or.inl ⟨?_, ?_, ?_⟩); (focus rfl); focus exact xaC) | ((with_reducible refine xwB ?_ ?_); focus exact xaC) | ((with_reducible refine xwC ?_ ?_); focus exact xaC) | ((with_reducible refine xwD ?_ ?_); focus exact xaC) | ((with_reducible refine xwE ?_ ?_); focus exact xaC) | (with_reducible intro hc; (try simp only [capsP, and_true] at hc); (try exact xfC)) | ((fail_if_success (with_reducible first | refine xgon ?_ | intro _)); (conv => whnf); (fail_if_success (fail_if_success (with_reducible first | refine xstp ?_ | refine Both.mk ?_ ?_ | refine xgon ?_ | intro _)))))
      refine FinK.mk ⟨[0], _, _, ⟨rfl, rfl⟩, ?_⟩; (repeat' first | refine And.intro ?_ ?_ | exact xeC | fail)
  have hi : idOk id per := hq.1
  have hi2 : (1 ≤ id ∧ id ≤ 1073741824) ∧ 1 ≤ per ∧ per ≤ 1099511627776 := hi
  refine rH18oL1 ?_
  repeat' (first | (fail_if_success (with_reducible refine xstp ?_)); first | ((fail_if_success (with_reducible first | refine xgon ?_ | intro _)); (conv => whnf); (fail_if_success (fail_if_success (with_reducible first | refine xstp ?_ | refine xgon ?_ | intro _)))))
  refine cH18oL2 (σ := []) (nl := []) (nwrite 0 ⟨#[]⟩) ?_
  rintro v h' ⟨rfl, rfl⟩ hcaps
  refine rH18oL1 ?_
  repeat' (first | (fail_if_success (with_reducible refine xstp ?_)); first | ((fail_if_success (with_reducible first | refine xgon ?_ | intro _)); (conv => whnf); (fail_if_success (fail_if_success (with_reducible first | refine xstp ?_ | refine xgon ?_ | intro _)))))
  refine cH18oL2 (σ := []) (nl := []) (nnext) ?_
  rintro v h' ⟨rfl, rfl⟩ hcaps
  refine rH18oL1 ?_
  repeat' (first | (fail_if_success (with_reducible refine xstp ?_)); first | ((with_reducible refine And.intro (fun (hb : _ = true) => ?_) (fun (hb : _ = false) => ?_)) <;> replace hb := xnC hb <;> (try first | exact xfC | exact bff hb (by assumption) | exact bff (by assumption) hb)) | ((fail_if_success (with_reducible first | refine xgon ?_ | intro _)); (conv => whnf); (fail_if_success (fail_if_success (with_reducible first | refine xstp ?_ | refine xgon ?_ | intro _)))))
  refine cH18oL2 (σ := [.name 0]) (nl := []) (nack x x.m.length cm 0 0) ?_
  rintro v h' ⟨rfl, rfl⟩ hcaps
  refine rH18oL1 ?_
  repeat' (first | (fail_if_success (with_reducible refine xstp ?_)); first | ((with_reducible refine And.intro (fun (hb : _ = true) => ?_) (fun (hb : _ = false) => ?_)) <;> replace hb := xnC hb <;> (try first | exact xfC | exact bff hb (by assumption) | exact bff (by assumption) hb)) | ((fail_if_success (with_reducible first | refine xgon ?_ | intro _)); (conv => whnf); (fail_if_success (fail_if_success (with_reducible first | refine xstp ?_ | refine xgon ?_ | intro _)))))
  refine cH18oL2 (σ := []) (nl := []) (npoll 0) ?_
  rintro v h' ⟨rfl, rfl⟩ hcaps
  refine rH18oL1 ?_
  repeat' (first | (fail_if_success (with_reducible refine xstp ?_)); first | ((with_reducible refine And.intro (fun (hb : _ = true) => ?_) (fun (hb : _ = false) => ?_)) <;> replace hb := xnC hb <;> (try first | exact xfC | exact bff hb (by assumption) | exact bff (by assumption) hb)) | ((fail_if_success (with_reducible first | refine xgon ?_ | intro _)); (conv => whnf); (fail_if_success (fail_if_success (with_reducible first | refine xstp ?_ | refine xgon ?_ | intro _)))))
  refine cH18oL2 (σ := []) (nl := []) (nheld) ?_
  rintro v h' ⟨rfl, rfl⟩ hcaps
  refine rH18oL1 ?_
  repeat' (first | (fail_if_success (with_reducible refine xstp ?_)); first | ((with_reducible refine And.intro (fun (hb : _ = true) => ?_) (fun (hb : _ = false) => ?_)) <;> replace hb := xnC hb <;> (try first | exact xfC | exact bff hb (by assumption) | exact bff (by assumption) hb)) | ((fail_if_success (with_reducible first | refine xgon ?_ | intro _)); (conv => whnf); (fail_if_success (fail_if_success (with_reducible first | refine xstp ?_ | refine xgon ?_ | intro _)))))
  refine cH18oL2 (σ := []) (nl := []) (nacked 1) ?_
  rintro v h' ⟨rfl, rfl⟩ hcaps
  refine rH18oL1 ?_
  repeat' (first | (fail_if_success (with_reducible refine xstp ?_)); first | ((with_reducible refine And.intro (fun (hb : _ = true) => ?_) (fun (hb : _ = false) => ?_)) <;> replace hb := xnC hb <;> (try first | exact xfC | exact bff hb (by assumption) | exact bff (by assumption) hb)) | ((fail_if_success (with_reducible first | refine xgon ?_ | intro _)); (conv => whnf); (fail_if_success (fail_if_success (with_reducible first | refine xstp ?_ | refine xgon ?_ | intro _)))))
  refine cH18oL2 (σ := []) (nl := []) (nunm 1) ?_
  rintro v h' ⟨rfl, rfl⟩ hcaps
  refine rH18oL1 ?_
  repeat' (first | (fail_if_success (with_reducible refine xstp ?_)); first | ((with_reducible refine And.intro (fun (hb : _ = true) => ?_) (fun (hb : _ = false) => ?_)) <;> replace hb := xnC hb <;> (try first | exact xfC | exact bff hb (by assumption) | exact bff (by assumption) hb)) | ((fail_if_success (with_reducible first | refine xgon ?_ | intro _)); (conv => whnf); (fail_if_success (fail_if_success (with_reducible first | refine xstp ?_ | refine xgon ?_ | intro _)))))
  all_goals first | (exfalso; omega) | skip
  refine cH18oL2 (σ := []) (nl := []) (cnewC id per badQ) ?_
  rintro v h' (⟨hb, rfl, rfl⟩ | ⟨hb, rfl, rfl⟩) hcaps
  · exact absurd hb.2 (by decide)
  refine rH18oL1 ?_
  repeat' (first | (fail_if_success (with_reducible refine xstp ?_)); first | ((with_reducible refine And.intro (fun (hb : _ = true) => ?_) (fun (hb : _ = false) => ?_)) <;> replace hb := xnC hb <;> (try first | exact xfC | exact bff hb (by assumption) | exact bff (by assumption) hb)) | ((fail_if_success (with_reducible first | refine xgon ?_ | intro _)); (conv => whnf); (fail_if_success (fail_if_success (with_reducible first | refine xstp ?_ | refine xgon ?_ | intro _)))))
  · refine cH18oL2 (σ := []) (nl := []) (cawake) ?_
    rintro v h' ⟨rfl, rfl⟩ hcaps
    refine rH18oL1 ?_
    repeat' (first | (fail_if_success (with_reducible refine xstp ?_)); first | ((with_reducible refine And.intro (fun (hb : _ = true) => ?_) (fun (hb : _ = false) => ?_)) <;> replace hb := xnC hb <;> (try first | exact xfC | exact bff hb (by assumption) | exact bff (by assumption) hb | (exfalso; simp only [List.length_nil] at hb; omega) | (exfalso; revert hb; decide) | (exfalso; simp at hb; done))) | (with_reducible refine Both.mk ?_ ?_) | ((with_reducible refine And.intro ?_ ?_); focus exact xoC) | ((with_reducible refine Or.inl ⟨?_, ?_, ?_⟩); (focus rfl); focus exact xaC) | ((with_reducible refine xwB ?_ ?_); focus exact xaC) | ((with_reducible refine xwC ?_ ?_); focus exact xaC) | ((with_reducible refine xwD ?_ ?_); focus exact xaC) | ((with_reducible refine xwE ?_ ?_); focus exact xaC) | (with_reducible intro hc; (try simp only [capsP, and_true] at hc); (try exact xfC)) | ((fail_if_success (with_reducible first | refine xgon ?_ | intro _)); (conv => whnf); (fail_if_success (fail_if_success (with_reducible first | refine xstp ?_ | refine Both.mk ?_ ?_ | refine xgon ?_ | intro _)))))
    refine FinK.mk ⟨[0], _, _, ⟨rfl, rfl⟩, ?_⟩; (repeat' first | refine And.intro ?_ ?_ | exact xeC | fail)
  · refine cH18oL2 (σ := []) (nl := []) (cawake) ?_
    rintro v h' ⟨rfl, rfl⟩ hcaps
    refine rH18oL1 ?_
    repeat' (first | (fail_if_success (with_reducible refine xstp ?_)); first | ((with_reducible refine And.intro (fun (hb : _ = true) => ?_) (fun (hb : _ = false) => ?_)) <;> replace hb := xnC hb <;> (try first | exact xfC | exact bff hb (by assumption) | exact bff (by assumption) hb | (exfalso; simp only [List.length_nil] at hb; omega) | (exfalso; revert hb; decide) | (exfalso; simp at hb; done))) | (with_reducible refine Both.mk ?_ ?_) | ((with_reducible refine And.intro ?_ ?_); focus exact xoC) | ((with_reducible refine Or.inl ⟨?_, ?_, ?_⟩); (focus rfl); focus exact xaC) | ((with_reducible refine xwB ?_ ?_); focus exact xaC) | ((with_reducible refine xwC ?_ ?_); focus exact xaC) | ((with_reducible refine xwD ?_ ?_); focus exact xaC) | ((with_reducible refine xwE ?_ ?_); focus exact xaC) | (with_reducible intro hc; (try simp only [capsP, and_true] at hc); (try exact xfC)) | ((fail_if_success (with_reducible first | refine xgon ?_ | intro _)); (conv => whnf); (fail_if_success (fail_if_success (with_reducible first | refine xstp ?_ | refine Both.mk ?_ ?_ | refine xgon ?_ | intro _)))))
    refine FinK.mk ⟨[0], _, _, ⟨rfl, rfl⟩, ?_⟩; (repeat' first | refine And.intro ?_ ?_ | exact xeC | fail)
  have hz : (mkS x.p).size = x.p.length := rfl
  refine cH18oL2 (σ := [.whole 0]) (nl := []) (cCheckR x false cm (by omega) (by omega)) ?_
  rintro v h' ⟨rfl, rfl⟩ hcaps
  refine rH18oL1 ?_
  repeat' (first | (fail_if_success (with_reducible refine xstp ?_)); first | ((with_reducible refine And.intro (fun (hb : _ = true) => ?_) (fun (hb : _ = false) => ?_)) <;> replace hb := xnC hb <;> (try first | exact xfC | exact bff hb (by assumption) | exact bff (by assumption) hb)) | ((fail_if_success (with_reducible first | refine xgon ?_ | intro _)); (conv => whnf); (fail_if_success (fail_if_success (with_reducible first | refine xstp ?_ | refine xgon ?_ | intro _)))))
  all_goals (
    refine cH18oL2 (σ := [.whole 2, .name 3, .whole 4, .whole 6, .whole 7, .whole 0]) (nl := []) (cack id per crQ (crW 0) (fun _ => 0) x false cm 0 (crW_ok 0 (by omega)) (by decide) (by omega) (by omega) (crW_rq 0)) ?_ (hle := by (repeat' first | refine And.intro ?_ ?_ | exact xeC | fail) <;> first | exact xmC | (show (1 : Nat) = 2; trace_state))
    rw [ak0, akW0]
    rintro v h' ⟨cf1, rfl, rfl⟩ hcaps
    by_cases hF : chk x = 0 ∧ x.k = 3 ∧ x.w = id ∧ x.f = 1 ∧ x.m.length = 0)
  all_goals first | (exfalso; omega) | skip
  · rw [if_pos hF, hF.2.2.2.2]
    refine rH18oL1 ?_
    repeat' (first | (fail_if_success (with_reducible refine xstp ?_)); first | ((with_reducible refine And.intro (fun (hb : _ = true) => ?_) (fun (hb : _ = false) => ?_)) <;> replace hb := xnC hb <;> (try first | exact xfC | exact bff hb (by assumption) | exact bff (by assumption) hb)) | ((fail_if_success (with_reducible first | refine xgon ?_ | intro _)); (conv => whnf); (fail_if_success (fail_if_success (with_reducible first | refine xstp ?_ | refine xgon ?_ | intro _)))))
    rotate_left 1
    · exact absurd hb (by decide)
    refine cH18oL2 (σ := [.whole 2, .whole 3, .whole 4, .whole 5, .whole 6, .whole 8]) (nl := []) (cmatchW id per crQ (crW 0) 0 cf1 1 8 0 crQ (crW_ok 0 (by omega)) (Nat.zero_le _) (by decide) (by intro s hs; cases hs)) ?_ (hle := by (repeat' first | refine And.intro ?_ ?_ | exact xeC | fail) <;> exact xmC)
    rw [ma_no (show maE crQ 1 8 0 crQ (crW 0) ≠ 0 by rw [ma_8]; decide), ma_8]
    rintro v h' ⟨cf2, rfl, rfl⟩ hcaps
    refine rH18oL1 ?_
    repeat' (first | (fail_if_success (with_reducible refine xstp ?_)); first | ((with_reducible refine And.intro (fun (hb : _ = true) => ?_) (fun (hb : _ = false) => ?_)) <;> replace hb := xnC hb <;> (try first | exact xfC | exact bff hb (by assumption) | exact bff (by assumption) hb)) | ((fail_if_success (with_reducible first | refine xgon ?_ | intro _)); (conv => whnf); (fail_if_success (fail_if_success (with_reducible first | refine xstp ?_ | refine xgon ?_ | intro _)))))
    refine cH18oL2 (σ := [.whole 2, .whole 3, .whole 4, .whole 5, .whole 9, .whole 10]) (nl := []) (ccrowded id per 0 cf2) ?_ (hle := by (repeat' first | refine And.intro ?_ ?_ | exact xeC | fail) <;> exact xmC)
    rintro v h' ⟨c3, cf3, rfl, rfl⟩ hcaps
    refine rH18oL1 ?_
    repeat' (first | (fail_if_success (with_reducible refine xstp ?_)); first | ((fail_if_success (with_reducible first | refine xgon ?_ | intro _)); (conv => whnf); (fail_if_success (fail_if_success (with_reducible first | refine xstp ?_ | refine xgon ?_ | intro _)))))
    refine cH18oL2 (σ := []) (nl := []) (cawake) ?_
    rintro v h' ⟨rfl, rfl⟩ hcaps
    refine rH18oL1 ?_
    repeat' (first | (fail_if_success (with_reducible refine xstp ?_)); first | ((with_reducible refine And.intro (fun (hb : _ = true) => ?_) (fun (hb : _ = false) => ?_)) <;> replace hb := xnC hb <;> (try first | exact xfC | exact bff hb (by assumption) | exact bff (by assumption) hb | (exfalso; simp only [List.length_nil] at hb; omega) | (exfalso; revert hb; decide) | (exfalso; simp at hb; done))) | (with_reducible refine Both.mk ?_ ?_) | ((with_reducible refine And.intro ?_ ?_); focus exact xoC) | ((with_reducible refine Or.inl ⟨?_, ?_, ?_⟩); (focus rfl); focus exact xaC) | ((with_reducible refine xwB ?_ ?_); focus exact xaC) | ((with_reducible refine xwC ?_ ?_); focus exact xaC) | ((with_reducible refine xwD ?_ ?_); focus exact xaC) | ((with_reducible refine xwE ?_ ?_); focus exact xaC) | (with_reducible intro hc; (try simp only [capsP, and_true] at hc); (try exact xfC)) | ((fail_if_success (with_reducible first | refine xgon ?_ | intro _)); (conv => whnf); (fail_if_success (fail_if_success (with_reducible first | refine xstp ?_ | refine Both.mk ?_ ?_ | refine xgon ?_ | intro _)))))
    refine FinK.mk ⟨[0], _, _, ⟨rfl, rfl⟩, ?_⟩; (repeat' first | refine And.intro ?_ ?_ | exact xeC | fail)
  all_goals rw [if_neg hF]
  · have hn : ¬ ((x.m.length : Nat) : Int) = 0 := by omega
    refine rH18oL1 ?_
    repeat' (first | (fail_if_success (with_reducible refine xstp ?_)); first | ((with_reducible refine And.intro (fun (hb : _ = true) => ?_) (fun (hb : _ = false) => ?_)) <;> replace hb := xnC hb <;> (try first | exact xfC | exact bff hb (by assumption) | exact bff (by assumption) hb)) | ((fail_if_success (with_reducible first | refine xgon ?_ | intro _)); (conv => whnf); (fail_if_success (fail_if_success (with_reducible first | refine xstp ?_ | refine xgon ?_ | intro _)))))
    rotate_left 1
    · rw [decide_eq_false hn] at hb
      exact absurd hb (by decide)
    refine cH18oL2 (σ := [.whole 2, .whole 3, .whole 4, .whole 5, .whole 6, .whole 8]) (nl := []) (cmatchW id per crQ (crW 0) 0 cf1 1 8 0 crQ (crW_ok 0 (by omega)) (Nat.zero_le _) (by decide) (by intro s hs; cases hs)) ?_ (hle := by (repeat' first | refine And.intro ?_ ?_ | exact xeC | fail) <;> exact xmC)
    rw [ma_no (show maE crQ 1 8 0 crQ (crW 0) ≠ 0 by rw [ma_8]; decide), ma_8]
    rintro v h' ⟨cf2, rfl, rfl⟩ hcaps
    refine rH18oL1 ?_
    repeat' (first | (fail_if_success (with_reducible refine xstp ?_)); first | ((with_reducible refine And.intro (fun (hb : _ = true) => ?_) (fun (hb : _ = false) => ?_)) <;> replace hb := xnC hb <;> (try first | exact xfC | exact bff hb (by assumption) | exact bff (by assumption) hb)) | ((fail_if_success (with_reducible first | refine xgon ?_ | intro _)); (conv => whnf); (fail_if_success (fail_if_success (with_reducible first | refine xstp ?_ | refine xgon ?_ | intro _)))))
    refine cH18oL2 (σ := [.whole 2, .whole 3, .whole 4, .whole 5, .whole 9, .whole 10]) (nl := []) (ccrowded id per 0 cf2) ?_ (hle := by (repeat' first | refine And.intro ?_ ?_ | exact xeC | fail) <;> exact xmC)
    rintro v h' ⟨c3, cf3, rfl, rfl⟩ hcaps
    refine rH18oL1 ?_
    repeat' (first | (fail_if_success (with_reducible refine xstp ?_)); first | ((fail_if_success (with_reducible first | refine xgon ?_ | intro _)); (conv => whnf); (fail_if_success (fail_if_success (with_reducible first | refine xstp ?_ | refine xgon ?_ | intro _)))))
    refine cH18oL2 (σ := []) (nl := []) (cawake) ?_
    rintro v h' ⟨rfl, rfl⟩ hcaps
    refine rH18oL1 ?_
    repeat' (first | (fail_if_success (with_reducible refine xstp ?_)); first | ((with_reducible refine And.intro (fun (hb : _ = true) => ?_) (fun (hb : _ = false) => ?_)) <;> replace hb := xnC hb <;> (try first | exact xfC | exact bff hb (by assumption) | exact bff (by assumption) hb | (exfalso; simp only [List.length_nil] at hb; omega) | (exfalso; revert hb; decide) | (exfalso; simp at hb; done))) | (with_reducible refine Both.mk ?_ ?_) | ((with_reducible refine And.intro ?_ ?_); focus exact xoC) | ((with_reducible refine Or.inl ⟨?_, ?_, ?_⟩); (focus rfl); focus exact xaC) | ((with_reducible refine xwB ?_ ?_); focus exact xaC) | ((with_reducible refine xwC ?_ ?_); focus exact xaC) | ((with_reducible refine xwD ?_ ?_); focus exact xaC) | ((with_reducible refine xwE ?_ ?_); focus exact xaC) | (with_reducible intro hc; (try simp only [capsP, and_true] at hc); (try exact xfC)) | ((fail_if_success (with_reducible first | refine xgon ?_ | intro _)); (conv => whnf); (fail_if_success (fail_if_success (with_reducible first | refine xstp ?_ | refine Both.mk ?_ ?_ | refine xgon ?_ | intro _)))))
    refine FinK.mk ⟨[0], _, _, ⟨rfl, rfl⟩, ?_⟩; (repeat' first | refine And.intro ?_ ?_ | exact xeC | fail)
  all_goals (
    refine rH18oL1 ?_
    repeat' (first | (fail_if_success (with_reducible refine xstp ?_)); first | ((with_reducible refine And.intro (fun (hb : _ = true) => ?_) (fun (hb : _ = false) => ?_)) <;> replace hb := xnC hb <;> (try first | exact xfC | exact bff hb (by assumption) | exact bff (by assumption) hb)) | ((fail_if_success (with_reducible first | refine xgon ?_ | intro _)); (conv => whnf); (fail_if_success (fail_if_success (with_reducible first | refine xstp ?_ | refine xgon ?_ | intro _)))))
    refine cH18oL2 (σ := [.whole 2, .whole 3, .whole 4, .whole 5, .whole 6, .whole 8]) (nl := []) (cmatchW id per crQ (crW 0) 0 cf1 1 8 0 crQ (crW_ok 0 (by omega)) (Nat.zero_le _) (by decide) (by intro s hs; cases hs)) ?_ (hle := by (repeat' first | refine And.intro ?_ ?_ | exact xeC | fail) <;> exact xmC)
    rw [ma_no (show maE crQ 1 8 0 crQ (crW 0) ≠ 0 by rw [ma_8]; decide), ma_8]
    rintro v h' ⟨cf2, rfl, rfl⟩ hcaps
    refine rH18oL1 ?_
    repeat' (first | (fail_if_success (with_reducible refine xstp ?_)); first | ((with_reducible refine And.intro (fun (hb : _ = true) => ?_) (fun (hb : _ = false) => ?_)) <;> replace hb := xnC hb <;> (try first | exact xfC | exact bff hb (by assumption) | exact bff (by assumption) hb)) | ((fail_if_success (with_reducible first | refine xgon ?_ | intro _)); (conv => whnf); (fail_if_success (fail_if_success (with_reducible first | refine xstp ?_ | refine xgon ?_ | intro _)))))
    refine cH18oL2 (σ := [.whole 2, .whole 3, .whole 4, .whole 5, .whole 9, .whole 10]) (nl := []) (ccrowded id per 0 cf2) ?_ (hle := by (repeat' first | refine And.intro ?_ ?_ | exact xeC | fail) <;> exact xmC)
    rintro v h' ⟨c3, cf3, rfl, rfl⟩ hcaps
    refine rH18oL1 ?_
    repeat' (first | (fail_if_success (with_reducible refine xstp ?_)); first | ((fail_if_success (with_reducible first | refine xgon ?_ | intro _)); (conv => whnf); (fail_if_success (fail_if_success (with_reducible first | refine xstp ?_ | refine xgon ?_ | intro _)))))
    refine cH18oL2 (σ := []) (nl := []) (cawake) ?_
    rintro v h' ⟨rfl, rfl⟩ hcaps
    refine rH18oL1 ?_
    repeat' (first | (fail_if_success (with_reducible refine xstp ?_)); first | ((with_reducible refine And.intro (fun (hb : _ = true) => ?_) (fun (hb : _ = false) => ?_)) <;> replace hb := xnC hb <;> (try first | exact xfC | exact bff hb (by assumption) | exact bff (by assumption) hb | (exfalso; simp only [List.length_nil] at hb; omega) | (exfalso; revert hb; decide) | (exfalso; simp at hb; done))) | (with_reducible refine Both.mk ?_ ?_) | ((with_reducible refine And.intro ?_ ?_); focus exact xoC) | ((with_reducible refine Or.inl ⟨?_, ?_, ?_⟩); (focus rfl); focus exact xaC) | ((with_reducible refine xwB ?_ ?_); focus exact xaC) | ((with_reducible refine xwC ?_ ?_); focus exact xaC) | ((with_reducible refine xwD ?_ ?_); focus exact xaC) | ((with_reducible refine xwE ?_ ?_); focus exact xaC) | (with_reducible intro hc; (try simp only [capsP, and_true] at hc); (try exact xfC)) | ((fail_if_success (with_reducible first | refine xgon ?_ | intro _)); (conv => whnf); (fail_if_success (fail_if_success (with_reducible first | refine xstp ?_ | refine Both.mk ?_ ?_ | refine xgon ?_ | intro _)))))
    refine FinK.mk ⟨[0], _, _, ⟨rfl, rfl⟩, ?_⟩; (repeat' first | refine And.intro ?_ ?_ | exact xeC | fail))
end Go.Proofs.Ytofcadbfjbefkaa


namespace Go.Proofs.Ytofcadbfjbefkaa
open Go.X Go.RowKit
set_option linter.unusedVariables false
theorem nil_read (β : Nm) (W : World) : Fits β [] W ∧ ∀ f x, (Go.X.get [] f x).owned = false := by
  have h : ∀ f x, Go.X.get [] f x = .no := fun f x => by simp [Go.X.get]
  have hno : ∀ f x, (Go.X.get [] f x).owned = false := fun f x => by rw [h]; rfl
  exact ⟨fits_read (fun f x => by rw [h]; trivial) hno, hno⟩
theorem one_read {β : Nm} {W : World} {ck : Ck} (h : ck.holds β W (β 0 0)) (ho : ck.owned = false) : Fits β [.one ck] W ∧ ∀ f x, (Go.X.get [.one ck] f x).owned = false := by
  have hno := get_ones_own (h := [ck]) (by intro q hq; rw [List.mem_singleton.1 hq]; exact ho)
  exact ⟨fits_read (get_ones (h := [ck]) (fun f q hf => by
    match f, hf with
    | 0, hf => cases hf; exact h
    | f + 1, hf => simp at hf)) hno, hno⟩
theorem str_mk (a : ByteArray) : a = mkS a.data.toList := (mkS_of a).symm
abbrev kPk : List K := [.i .i64, .i .i64, .i .i64, .i .i64, .i .i64, .i .i64, .i .i64, .i .i64, .i .i64, .sl [.i .i64], .s]
theorem ft_I {l : List C} (h : FT [.i .i64] l) : ∃ x : Int, l = Go.X.encI x ∧ True := by
  obtain ⟨a, _, rfl, _, h1⟩ := FT_i h
  obtain rfl := FT_nil h1
  exact ⟨a, rfl, trivial⟩
theorem ft_Pk {W : World} {B : Nat → Nat × Nat × Fl} {D : List DC} (h : FD W B 0 kPk D) :
    ∃ (x : Pk) (c : Nat), (∀ F i, layD F i 0 D = encP (.sl (F 9) i 1 0 x.m.length c) x) ∧ (∀ β e, (Ck.row false false e 1 x.m.length c (Go.X.rowOf Go.X.encI x.m)).holds β W (B 9)) ∧ x.m.length ≤ maxLen ∧ x.p.length ≤ 140737488351232 := by
  obtain ⟨a0, _, rfl, _, h1⟩ := FD_i h
  obtain ⟨a1, _, rfl, _, h2⟩ := FD_i h1
  obtain ⟨a2, _, rfl, _, h3⟩ := FD_i h2
  obtain ⟨a3, _, rfl, _, h4⟩ := FD_i h3
  obtain ⟨a4, _, rfl, _, h5⟩ := FD_i h4
  obtain ⟨a5, _, rfl, _, h6⟩ := FD_i h5
  obtain ⟨a6, _, rfl, _, h7⟩ := FD_i h6
  obtain ⟨a7, _, rfl, _, h8⟩ := FD_i h7
  obtain ⟨a8, _, rfl, _, h9⟩ := FD_i h8
  obtain ⟨n, c, R, _, rfl, hnc, hn, hh, hg, h10⟩ := FD_n h9
  obtain ⟨p, _, rfl, hp, h11⟩ := FD_s h10
  obtain rfl := FD_nil h11
  obtain ⟨m, hl, hge, _⟩ := list_of Go.X.encI (Pr := fun _ => True) (fun i hi => ft_I (hg i hi))
  subst hl
  refine ⟨⟨a0, a1, a2, a3, a4, a5, a6, a7, a8, m, p.data.toList⟩, c, fun F i => ?_, fun β e => holds_row_congr (hh β e) hge, hn, ?_⟩
  · unfold encP
    rw [mkS_of]
    rfl
  · show p.data.toList.length ≤ _
    rw [Array.length_toList]; exact hp
theorem walk_WriterRefuses (W : World) (a0 : Int) (w0 : (Lit.int .i64 a0).wf = true) (a1 : Int) (w1 : (Lit.int .i64 a1).wf = true) (vs : Array Value) (k0 : VKs W kPk (Value.agg vs).cells.toList) :
    Calls Try.prog 5 #[.int .i64 a0, .int .i64 a1, .agg vs] W fun e W' => e = .returned (.bool true) ∧ Below W.heap.size W W' := by
  obtain ⟨B, D, hD, hr, _⟩ := cells_view 0 (ks := kPk) (by rfl) k0
  obtain ⟨x, c, hx, hh, hm, hp⟩ := ft_Pk hD
  have hr1 := hr (fun f _ => if f = 0 then B 9 else B (f - 100)) (fun y => if y = 9 then 0 else y + 100) 0 (fun y _ _ => by
    by_cases h : y = 9
    · simp [h]
    · simp [h])
  rw [hx] at hr1
  obtain ⟨hf, hno⟩ := one_read (β := fun f _ => if f = 0 then B 9 else B (f - 100)) (W := W) (ck := ints false x.m c) (by simpa using hh _ _) rfl
  have := glue ((crefuses a0 a1 x c (by omega) (by unfold maxLen at hm; omega)).mono' fun v h e => e.1) hf hno
  have e1 : renL (fun f _ => if f = 0 then B 9 else B (f - 100)) (encP (.sl 0 0 1 0 x.m.length c) x) = vs := by
    unfold renL
    have h2 : (Value.agg vs).cells.toList = vs.toList := rfl
    rw [h2] at hr1
    exact (congrArg List.toArray hr1).trans (by simp)
  simp only [List.map_cons, List.map_nil, T.ren, e1] at this
  exact this
end Go.Proofs.Ytofcadbfjbefkaa

