/- Part 6 of the texts that a walk of this program rests on: an abstract machine, its soundness, contracts of functions. No statement of the seat is proved in this file. -/
import Derived.Test.YthadbaknlipacaaZ5
namespace Go.Proofs.Ythadbaknlipacaa
open Go.X
set_option linter.unusedSimpArgs false
set_option linter.unusedVariables false
open P4
structure It where
  (k : Int) (n : Nat) (m : Int) (s : List UInt8)
deriving Inhabited
def encIt (x : It) : List C := [.i .i64 x.k, .i .u64 (x.n : Nat), .i .i64 x.m, .s (mkS x.s)]
abbrev itR (l : List It) (c : Nat) : Ck := .row false false 57 4 l.length c (rowOf encIt l)
structure It.Ok (x : It) : Prop where
  n : x.n < 18446744073709551616
  lo : -9223372036854775808 ≤ x.m
  hi : x.m ≤ 9223372036854775807
  s : x.s.length ≤ 140737488355328
/-- What is written of an item. -/
def wrI (x : It) : List UInt8 := if x.k = 0 then venc x.n else if x.k = 1 then venc (zz x.m) else if x.k = 2 then venc (x.n % 1000) else textL x.s
def wrL (l : List It) : List UInt8 := l.flatMap wrI

theorem wrI_le (x : It) (h : x.s.length ≤ 100) : (wrI x).length ≤ 110 := by
  unfold wrI
  split
  · exact Nat.le_trans (venc_le _) (by omega)
  · split
    · exact Nat.le_trans (venc_le _) (by omega)
    · split
      · exact Nat.le_trans (venc_le _) (by omega)
      · unfold textL
        rw [List.length_append]
        have := venc_le x.s.length
        omega
theorem wrL_le (l : List It) (i : Nat) : (wrL (l.take i)).length ≤ (wrL l).length := by
  have e : wrL l = wrL (l.take i) ++ wrL (l.drop i) := by
    unfold wrL
    rw [← List.flatMap_append, List.take_append_drop]
  rw [e, List.length_append]
  omega
theorem wrL_snoc (l : List It) {i : Nat} (h : i < l.length) : wrL (l.take (i + 1)) = wrL (l.take i) ++ wrI (l.getD i default) := by
  rw [take_snocG l h]
  simp [wrL, List.flatMap_append]
theorem wrL_split (l : List It) {i : Nat} (h : i < l.length) : (wrL l).drop (wrL (l.take i)).length = wrI (l.getD i default) ++ wrL (l.drop (i + 1)) := by
  have e : wrL l = wrL (l.take i) ++ (wrI (l.getD i default) ++ wrL (l.drop (i + 1))) := by
    conv => lhs; rw [← List.take_append_drop i l]
    rw [drop_consG l h]
    simp [wrL, List.flatMap_append]
  rw [e, List.drop_append_of_le_length (Nat.le_refl _), List.drop_of_length_le (Nat.le_refl _), List.nil_append]
theorem rdU_at {s : ByteArray} {a n : Nat} {r : List UInt8} (hn : n < 18446744073709551616) (h : s.data.toList.drop a = venc n ++ r) : rdU s a 0 = (n, a + (venc n).length, 0) := by
  unfold rdU
  rw [if_pos rfl, h, vdec_enc n r hn]
theorem rdS_at {s : ByteArray} {a n : Nat} {r : List UInt8} {m : Int} (hn : n < 18446744073709551616) (hm : (n : Int) ≤ m) (h : s.data.toList.drop a = venc n ++ r) : rdS s a 0 m = (n, a + (venc n).length, 0) := by
  rw [rdS_U, rdU_at hn h, if_pos rfl, if_neg (by simp only; omega)]
theorem rdT_at {s : ByteArray} {a : Nat} {x r : List UInt8} {m : Int} (hn : x.length < 18446744073709551616) (hm : (x.length : Int) ≤ m) (h : s.data.toList.drop a = textL x ++ r) : rdT s a 0 m = (x, a + (textL x).length, 0) := by
  have h1 : s.data.toList.drop a = venc x.length ++ (x ++ r) := by rw [h, textL, List.append_assoc]
  have h2 : s.data.toList.drop (a + (venc x.length).length) = x ++ r := by
    rw [← List.drop_drop, h1, List.drop_append_of_le_length (Nat.le_refl _), List.drop_of_length_le (Nat.le_refl _), List.nil_append]
  have h3 := congrArg List.length h2
  rw [List.length_drop, size_len, List.length_append] at h3
  rw [rdT_U, rdU_at hn h1, if_pos rfl, if_neg (by simp only; omega), if_neg (by simp only; omega)]
  simp only [h2, List.take_append_of_le_length (Nat.le_refl _), List.take_length, textL, List.length_append, Nat.add_assoc]

set_option maxRecDepth 20000 in
theorem cwritten (x : It) (hx : x.Ok) :
    Ctr Try.prog 31 [.a (encIt x)] [] fun v h => v = .c (.s (mkS (wrI x))) ∧ h = [] := by
  obtain ⟨k, n, m, s⟩ := x
  obtain ⟨h1, h2, h3, h4⟩ := hx
  simp only at h1 h2 h3 h4
  refine Ctr.mk' tbv mixed Try.func31 rfl rfl rfl (fun _ _ => by kernel_rfl) (by kernel_rfl) (by rfl) (by rfl) (by (repeat' (first | (refine And.intro ?_ ?_) | exact trivial | rfl | exact Nat.le_refl _ | exact (fun _ _ => rfl) | exact all_one (by rfl) | (simp only [Int.toNat_natCast, Nat.zero_add, Nat.add_zero]; done)))) ?_
  repeat' (first
    | ((fail_if_success (with_reducible first | apply kL | apply kC | apply kF | apply kM | refine Exists.intro ?_ ?_)); first
      | ((with_reducible refine And.intro (fun (hb : _ = true) => ?_) (fun (hb : _ = false) => ?_)) <;> (try simp only [n1, n2, n3, n4, n5, n6, n7, n8, n9, n10, n11, n12, n13, n14, n15, n16, reduceCtorEq, n17, n18, n19, n20, n21, n22] at hb) <;> (try (first | (exfalso; omega) | exact bff hb (by assumption) | exact bff (by assumption) hb)))
      | (with_reducible refine Both.mk ?_ ?_)
      | ((with_reducible refine And.intro ?_ ?_); (focus (first | rfl | omega | exact fun _ _ => rfl | assumption | (split <;> omega) | (and_intros <;> first | rfl | omega | (split <;> omega)) | (dsimp only [maxLen]; and_intros <;> omega) | (simp only [n21, n22, m9]; done) | (simp only [n21, n22, m9]; first | omega | (and_intros <;> omega)))))
      | ((with_reducible refine Or.inl ⟨?_, ?_, ?_⟩); (focus rfl); (focus (and_intros <;> first | rfl | omega)))
      | ((with_reducible refine Or.inr (Or.inl ⟨?_, ?_⟩)); focus (and_intros <;> first | rfl | omega))
      | ((with_reducible refine Or.inr (Or.inr (Or.inl ⟨?_, ?_⟩))); focus (and_intros <;> first | rfl | omega))
      | ((with_reducible refine Or.inr (Or.inr (Or.inr ⟨?_, ?_⟩))); focus (and_intros <;> first | rfl | omega))
      | (with_reducible intro hc; (try simp only [capsP, and_true] at hc); (try (exfalso; omega)))
      | ((fail_if_success (with_reducible first | refine And.intro ?_ ?_ | refine Or.inl ?_ | intro _)); (conv => whnf); (fail_if_success (fail_if_success (with_reducible first | apply kL | apply kC | apply kF | apply kM | refine Exists.intro ?_ ?_ | refine Both.mk ?_ ?_ | refine And.intro ?_ ?_ | refine Or.inl ?_ | intro _))))))
  · refine CallK.mk3 (σ := []) (nl := []) (cUint n h1) rfl rfl (List.append_nil _) (by (try simp only [↓List.length_cons, ↓List.length_nil, Nat.reduceAdd]); rfl) (by (try simp only [↓List.length_cons, ↓List.length_nil, Nat.reduceAdd]); rfl) (by (try simp (maxSteps := 1000000) only [givesF, setF, updF, Fam.zeroth, Fam.rk, Ck.rk, C.rk, E.rk, T.rk, key, List.map_cons, List.map_nil, List.cons_append, List.nil_append, List.length_cons, List.length_nil, Option.map_some, Option.bind_some, Nat.reduceAdd, Nat.zero_add, Nat.add_zero, Nat.add_sub_cancel_left, Int.toNat_natCast, reps, List.all_cons, List.all_nil, C.flat, List.append_eq, Bool.not_true, Bool.and_true, Bool.or_false, Bool.or_self, Bool.not_false, List.append_nil, Bool.and_self]); rfl) (by (repeat' (first | (refine And.intro ?_ ?_) | exact trivial | rfl | exact Nat.le_refl _ | exact (fun _ _ => rfl) | exact all_one (by rfl) | (simp only [Int.toNat_natCast, Nat.zero_add, Nat.add_zero]; done)))) ?_
    rintro v h' ⟨rfl, rfl⟩ hcaps
    rw [show wrI ⟨k, n, m, s⟩ = venc n from if_pos hb]
    refine ret_mk3 (by (try simp only [↓List.length_cons, ↓List.length_nil, Nat.reduceAdd]); rfl) (by (try simp (maxSteps := 1000000) only [givesF, setF, updF, Fam.zeroth, Fam.rk, Ck.rk, C.rk, E.rk, T.rk, key, List.map_cons, List.map_nil, List.cons_append, List.nil_append, List.length_cons, List.length_nil, Option.map_some, Option.bind_some, Nat.reduceAdd, Nat.zero_add, Nat.add_zero, Nat.add_sub_cancel_left, Int.toNat_natCast, reps, List.all_cons, List.all_nil, C.flat, List.append_eq, Bool.not_true, Bool.and_true, Bool.or_false, Bool.or_self, Bool.not_false, List.append_nil, Bool.and_self]); rfl) (by (try simp only [givesF, setF, updF, Fam.zeroth, Fam.rk, Ck.rk, C.rk, E.rk, T.rk, key, List.map_cons, List.map_nil, List.cons_append, List.nil_append, List.length_cons, List.length_nil, Option.map_some, Option.bind_some, Nat.reduceAdd, Nat.zero_add, Nat.add_zero, Nat.add_sub_cancel_left, Int.toNat_natCast, reps, List.all_cons, List.all_nil, C.flat, List.append_eq, Bool.not_true, Bool.and_true, Bool.or_false, Bool.or_self, Bool.not_false, List.append_nil, Bool.and_self]); rfl) ?_
    repeat' (first
      | ((fail_if_success (with_reducible first | apply kL | apply kC | apply kF | apply kM | refine Exists.intro ?_ ?_)); first
        | ((with_reducible refine And.intro (fun (hb : _ = true) => ?_) (fun (hb : _ = false) => ?_)) <;> (try simp only [n1, n2, n3, n4, n5, n6, n7, n8, n9, n10, n11, n12, n13, n14, n15, n16, reduceCtorEq, n17, n18, n19, n20, n21, n22] at hb) <;> (try (first | (exfalso; omega) | exact bff hb (by assumption) | exact bff (by assumption) hb)))
        | (with_reducible refine Both.mk ?_ ?_)
        | ((with_reducible refine And.intro ?_ ?_); (focus (first | rfl | omega | exact fun _ _ => rfl | assumption | (split <;> omega) | (and_intros <;> first | rfl | omega | (split <;> omega)) | (dsimp only [maxLen]; and_intros <;> omega) | (simp only [n21, n22, m9]; done) | (simp only [n21, n22, m9]; first | omega | (and_intros <;> omega)))))
        | ((with_reducible refine Or.inl ⟨?_, ?_, ?_⟩); (focus rfl); (focus (and_intros <;> first | rfl | omega)))
        | ((with_reducible refine Or.inr (Or.inl ⟨?_, ?_⟩)); focus (and_intros <;> first | rfl | omega))
        | ((with_reducible refine Or.inr (Or.inr (Or.inl ⟨?_, ?_⟩))); focus (and_intros <;> first | rfl | omega))
        | ((with_reducible refine Or.inr (Or.inr (Or.inr ⟨?_, ?_⟩))); focus (and_intros <;> first | rfl | omega))
        | (with_reducible intro hc; (try simp only [capsP, and_true] at hc); (try (exfalso; omega)))
        | ((fail_if_success (with_reducible first | refine And.intro ?_ ?_ | refine Or.inl ?_ | intro _)); (conv => whnf); (fail_if_success (fail_if_success (with_reducible first | apply kL | apply kC | apply kF | apply kM | refine Exists.intro ?_ ?_ | refine Both.mk ?_ ?_ | refine And.intro ?_ ?_ | refine Or.inl ?_ | intro _))))))
    refine FinK.mk ⟨[], _, _, ⟨rfl, rfl⟩, ?_⟩; (repeat' (first | (refine And.intro ?_ ?_) | exact trivial | rfl | exact Nat.le_refl _ | exact (fun _ _ => rfl) | exact all_one (by rfl) | (simp only [Int.toNat_natCast, Nat.zero_add, Nat.add_zero]; done)))
  · refine CallK.mk3 (σ := []) (nl := []) (cInt m h2 h3) rfl rfl (List.append_nil _) (by (try simp only [↓List.length_cons, ↓List.length_nil, Nat.reduceAdd]); rfl) (by (try simp only [↓List.length_cons, ↓List.length_nil, Nat.reduceAdd]); rfl) (by (try simp (maxSteps := 1000000) only [givesF, setF, updF, Fam.zeroth, Fam.rk, Ck.rk, C.rk, E.rk, T.rk, key, List.map_cons, List.map_nil, List.cons_append, List.nil_append, List.length_cons, List.length_nil, Option.map_some, Option.bind_some, Nat.reduceAdd, Nat.zero_add, Nat.add_zero, Nat.add_sub_cancel_left, Int.toNat_natCast, reps, List.all_cons, List.all_nil, C.flat, List.append_eq, Bool.not_true, Bool.and_true, Bool.or_false, Bool.or_self, Bool.not_false, List.append_nil, Bool.and_self]); rfl) (by (repeat' (first | (refine And.intro ?_ ?_) | exact trivial | rfl | exact Nat.le_refl _ | exact (fun _ _ => rfl) | exact all_one (by rfl) | (simp only [Int.toNat_natCast, Nat.zero_add, Nat.add_zero]; done)))) ?_
    rintro v h' ⟨rfl, rfl⟩ hcaps
    rw [show wrI ⟨k, n, m, s⟩ = venc (zz m) by unfold wrI; rw [if_neg (by assumption), if_pos hb]]
    refine ret_mk3 (by (try simp only [↓List.length_cons, ↓List.length_nil, Nat.reduceAdd]); rfl) (by (try simp (maxSteps := 1000000) only [givesF, setF, updF, Fam.zeroth, Fam.rk, Ck.rk, C.rk, E.rk, T.rk, key, List.map_cons, List.map_nil, List.cons_append, List.nil_append, List.length_cons, List.length_nil, Option.map_some, Option.bind_some, Nat.reduceAdd, Nat.zero_add, Nat.add_zero, Nat.add_sub_cancel_left, Int.toNat_natCast, reps, List.all_cons, List.all_nil, C.flat, List.append_eq, Bool.not_true, Bool.and_true, Bool.or_false, Bool.or_self, Bool.not_false, List.append_nil, Bool.and_self]); rfl) (by (try simp only [givesF, setF, updF, Fam.zeroth, Fam.rk, Ck.rk, C.rk, E.rk, T.rk, key, List.map_cons, List.map_nil, List.cons_append, List.nil_append, List.length_cons, List.length_nil, Option.map_some, Option.bind_some, Nat.reduceAdd, Nat.zero_add, Nat.add_zero, Nat.add_sub_cancel_left, Int.toNat_natCast, reps, List.all_cons, List.all_nil, C.flat, List.append_eq, Bool.not_true, Bool.and_true, Bool.or_false, Bool.or_self, Bool.not_false, List.append_nil, Bool.and_self]); rfl) ?_
    repeat' (first
      | ((fail_if_success (with_reducible first | apply kL | apply kC | apply kF | apply kM | refine Exists.intro ?_ ?_)); first
        | ((with_reducible refine And.intro (fun (hb : _ = true) => ?_) (fun (hb : _ = false) => ?_)) <;> (try simp only [n1, n2, n3, n4, n5, n6, n7, n8, n9, n10, n11, n12, n13, n14, n15, n16, reduceCtorEq, n17, n18, n19, n20, n21, n22] at hb) <;> (try (first | (exfalso; omega) | exact bff hb (by assumption) | exact bff (by assumption) hb)))
        | (with_reducible refine Both.mk ?_ ?_)
        | ((with_reducible refine And.intro ?_ ?_); (focus (first | rfl | omega | exact fun _ _ => rfl | assumption | (split <;> omega) | (and_intros <;> first | rfl | omega | (split <;> omega)) | (dsimp only [maxLen]; and_intros <;> omega) | (simp only [n21, n22, m9]; done) | (simp only [n21, n22, m9]; first | omega | (and_intros <;> omega)))))
        | ((with_reducible refine Or.inl ⟨?_, ?_, ?_⟩); (focus rfl); (focus (and_intros <;> first | rfl | omega)))
        | ((with_reducible refine Or.inr (Or.inl ⟨?_, ?_⟩)); focus (and_intros <;> first | rfl | omega))
        | ((with_reducible refine Or.inr (Or.inr (Or.inl ⟨?_, ?_⟩))); focus (and_intros <;> first | rfl | omega))
        | ((with_reducible refine Or.inr (Or.inr (Or.inr ⟨?_, ?_⟩))); focus (and_intros <;> first | rfl | omega))
        | (with_reducible intro hc; (try simp only [capsP, and_true] at hc); (try (exfalso; omega)))
        | ((fail_if_success (with_reducible first | refine And.intro ?_ ?_ | refine Or.inl ?_ | intro _)); (conv => whnf); (fail_if_success (fail_if_success (with_reducible first | apply kL | apply kC | apply kF | apply kM | refine Exists.intro ?_ ?_ | refine Both.mk ?_ ?_ | refine And.intro ?_ ?_ | refine Or.inl ?_ | intro _))))))
    refine FinK.mk ⟨[], _, _, ⟨rfl, rfl⟩, ?_⟩; (repeat' (first | (refine And.intro ?_ ?_) | exact trivial | rfl | exact Nat.le_refl _ | exact (fun _ _ => rfl) | exact all_one (by rfl) | (simp only [Int.toNat_natCast, Nat.zero_add, Nat.add_zero]; done)))
  · rw [show ((n : Nat) : Int).tmod 1000 = ((n % 1000 : Nat) : Int) by rw [Int.tmod_eq_emod_of_nonneg (by omega)]; omega]
    refine CallK.mk3 (σ := []) (nl := []) (cUint (n % 1000) (by omega)) rfl rfl (List.append_nil _) (by (try simp only [↓List.length_cons, ↓List.length_nil, Nat.reduceAdd]); rfl) (by (try simp only [↓List.length_cons, ↓List.length_nil, Nat.reduceAdd]); rfl) (by (try simp (maxSteps := 1000000) only [givesF, setF, updF, Fam.zeroth, Fam.rk, Ck.rk, C.rk, E.rk, T.rk, key, List.map_cons, List.map_nil, List.cons_append, List.nil_append, List.length_cons, List.length_nil, Option.map_some, Option.bind_some, Nat.reduceAdd, Nat.zero_add, Nat.add_zero, Nat.add_sub_cancel_left, Int.toNat_natCast, reps, List.all_cons, List.all_nil, C.flat, List.append_eq, Bool.not_true, Bool.and_true, Bool.or_false, Bool.or_self, Bool.not_false, List.append_nil, Bool.and_self]); rfl) (by (repeat' (first | (refine And.intro ?_ ?_) | exact trivial | rfl | exact Nat.le_refl _ | exact (fun _ _ => rfl) | exact all_one (by rfl) | (simp only [Int.toNat_natCast, Nat.zero_add, Nat.add_zero]; done)))) ?_
    rintro v h' ⟨rfl, rfl⟩ hcaps
    rw [show wrI ⟨k, n, m, s⟩ = venc (n % 1000) by unfold wrI; rw [if_neg (by assumption), if_neg (by assumption), if_pos hb]]
    refine ret_mk3 (by (try simp only [↓List.length_cons, ↓List.length_nil, Nat.reduceAdd]); rfl) (by (try simp (maxSteps := 1000000) only [givesF, setF, updF, Fam.zeroth, Fam.rk, Ck.rk, C.rk, E.rk, T.rk, key, List.map_cons, List.map_nil, List.cons_append, List.nil_append, List.length_cons, List.length_nil, Option.map_some, Option.bind_some, Nat.reduceAdd, Nat.zero_add, Nat.add_zero, Nat.add_sub_cancel_left, Int.toNat_natCast, reps, List.all_cons, List.all_nil, C.flat, List.append_eq, Bool.not_true, Bool.and_true, Bool.or_false, Bool.or_self, Bool.not_false, List.append_nil, Bool.and_self]); rfl) (by (try simp only [givesF, setF, updF, Fam.zeroth, Fam.rk, Ck.rk, C.rk, E.rk, T.rk, key, List.map_cons, List.map_nil, List.cons_append, List.nil_append, List.length_cons, List.length_nil, Option.map_some, Option.bind_some, Nat.reduceAdd, Nat.zero_add, Nat.add_zero, Nat.add_sub_cancel_left, Int.toNat_natCast, reps, List.all_cons, List.all_nil, C.flat, List.append_eq, Bool.not_true, Bool.and_true, Bool.or_false, Bool.or_self, Bool.not_false, List.append_nil, Bool.and_self]); rfl) ?_
    repeat' (first
      | ((fail_if_success (with_reducible first | apply kL | apply kC | apply kF | apply kM | refine Exists.intro ?_ ?_)); first
        | ((with_reducible refine And.intro (fun (hb : _ = true) => ?_) (fun (hb : _ = false) => ?_)) <;> (try simp only [n1, n2, n3, n4, n5, n6, n7, n8, n9, n10, n11, n12, n13, n14, n15, n16, reduceCtorEq, n17, n18, n19, n20, n21, n22] at hb) <;> (try (first | (exfalso; omega) | exact bff hb (by assumption) | exact bff (by assumption) hb)))
        | (with_reducible refine Both.mk ?_ ?_)
        | ((with_reducible refine And.intro ?_ ?_); (focus (first | rfl | omega | exact fun _ _ => rfl | assumption | (split <;> omega) | (and_intros <;> first | rfl | omega | (split <;> omega)) | (dsimp only [maxLen]; and_intros <;> omega) | (simp only [n21, n22, m9]; done) | (simp only [n21, n22, m9]; first | omega | (and_intros <;> omega)))))
        | ((with_reducible refine Or.inl ⟨?_, ?_, ?_⟩); (focus rfl); (focus (and_intros <;> first | rfl | omega)))
        | ((with_reducible refine Or.inr (Or.inl ⟨?_, ?_⟩)); focus (and_intros <;> first | rfl | omega))
        | ((with_reducible refine Or.inr (Or.inr (Or.inl ⟨?_, ?_⟩))); focus (and_intros <;> first | rfl | omega))
        | ((with_reducible refine Or.inr (Or.inr (Or.inr ⟨?_, ?_⟩))); focus (and_intros <;> first | rfl | omega))
        | (with_reducible intro hc; (try simp only [capsP, and_true] at hc); (try (exfalso; omega)))
        | ((fail_if_success (with_reducible first | refine And.intro ?_ ?_ | refine Or.inl ?_ | intro _)); (conv => whnf); (fail_if_success (fail_if_success (with_reducible first | apply kL | apply kC | apply kF | apply kM | refine Exists.intro ?_ ?_ | refine Both.mk ?_ ?_ | refine And.intro ?_ ?_ | refine Or.inl ?_ | intro _))))))
    refine FinK.mk ⟨[], _, _, ⟨rfl, rfl⟩, ?_⟩; (repeat' (first | (refine And.intro ?_ ?_) | exact trivial | rfl | exact Nat.le_refl _ | exact (fun _ _ => rfl) | exact all_one (by rfl) | (simp only [Int.toNat_natCast, Nat.zero_add, Nat.add_zero]; done)))
  · refine CallK.mk3 (σ := []) (nl := []) (cText s h4) rfl rfl (List.append_nil _) (by (try simp only [↓List.length_cons, ↓List.length_nil, Nat.reduceAdd]); rfl) (by (try simp only [↓List.length_cons, ↓List.length_nil, Nat.reduceAdd]); rfl) (by (try simp (maxSteps := 1000000) only [givesF, setF, updF, Fam.zeroth, Fam.rk, Ck.rk, C.rk, E.rk, T.rk, key, List.map_cons, List.map_nil, List.cons_append, List.nil_append, List.length_cons, List.length_nil, Option.map_some, Option.bind_some, Nat.reduceAdd, Nat.zero_add, Nat.add_zero, Nat.add_sub_cancel_left, Int.toNat_natCast, reps, List.all_cons, List.all_nil, C.flat, List.append_eq, Bool.not_true, Bool.and_true, Bool.or_false, Bool.or_self, Bool.not_false, List.append_nil, Bool.and_self]); rfl) (by (repeat' (first | (refine And.intro ?_ ?_) | exact trivial | rfl | exact Nat.le_refl _ | exact (fun _ _ => rfl) | exact all_one (by rfl) | (simp only [Int.toNat_natCast, Nat.zero_add, Nat.add_zero]; done)))) ?_
    rintro v h' ⟨rfl, rfl⟩ hcaps
    rw [show wrI ⟨k, n, m, s⟩ = textL s by unfold wrI; rw [if_neg (by assumption), if_neg (by assumption), if_neg hb]]
    refine ret_mk3 (by (try simp only [↓List.length_cons, ↓List.length_nil, Nat.reduceAdd]); rfl) (by (try simp (maxSteps := 1000000) only [givesF, setF, updF, Fam.zeroth, Fam.rk, Ck.rk, C.rk, E.rk, T.rk, key, List.map_cons, List.map_nil, List.cons_append, List.nil_append, List.length_cons, List.length_nil, Option.map_some, Option.bind_some, Nat.reduceAdd, Nat.zero_add, Nat.add_zero, Nat.add_sub_cancel_left, Int.toNat_natCast, reps, List.all_cons, List.all_nil, C.flat, List.append_eq, Bool.not_true, Bool.and_true, Bool.or_false, Bool.or_self, Bool.not_false, List.append_nil, Bool.and_self]); rfl) (by (try simp only [givesF, setF, updF, Fam.zeroth, Fam.rk, Ck.rk, C.rk, E.rk, T.rk, key, List.map_cons, List.map_nil, List.cons_append, List.nil_append, List.length_cons, List.length_nil, Option.map_some, Option.bind_some, Nat.reduceAdd, Nat.zero_add, Nat.add_zero, Nat.add_sub_cancel_left, Int.toNat_natCast, reps, List.all_cons, List.all_nil, C.flat, List.append_eq, Bool.not_true, Bool.and_true, Bool.or_false, Bool.or_self, Bool.not_false, List.append_nil, Bool.and_self]); rfl) ?_
    repeat' (first
      | ((fail_if_success (with_reducible first | apply kL | apply kC | apply kF | apply kM | refine Exists.intro ?_ ?_)); first
        | ((with_reducible refine And.intro (fun (hb : _ = true) => ?_) (fun (hb : _ = false) => ?_)) <;> (try simp only [n1, n2, n3, n4, n5, n6, n7, n8, n9, n10, n11, n12, n13, n14, n15, n16, reduceCtorEq, n17, n18, n19, n20, n21, n22] at hb) <;> (try (first | (exfalso; omega) | exact bff hb (by assumption) | exact bff (by assumption) hb)))
        | (with_reducible refine Both.mk ?_ ?_)
        | ((with_reducible refine And.intro ?_ ?_); (focus (first | rfl | omega | exact fun _ _ => rfl | assumption | (split <;> omega) | (and_intros <;> first | rfl | omega | (split <;> omega)) | (dsimp only [maxLen]; and_intros <;> omega) | (simp only [n21, n22, m9]; done) | (simp only [n21, n22, m9]; first | omega | (and_intros <;> omega)))))
        | ((with_reducible refine Or.inl ⟨?_, ?_, ?_⟩); (focus rfl); (focus (and_intros <;> first | rfl | omega)))
        | ((with_reducible refine Or.inr (Or.inl ⟨?_, ?_⟩)); focus (and_intros <;> first | rfl | omega))
        | ((with_reducible refine Or.inr (Or.inr (Or.inl ⟨?_, ?_⟩))); focus (and_intros <;> first | rfl | omega))
        | ((with_reducible refine Or.inr (Or.inr (Or.inr ⟨?_, ?_⟩))); focus (and_intros <;> first | rfl | omega))
        | (with_reducible intro hc; (try simp only [capsP, and_true] at hc); (try (exfalso; omega)))
        | ((fail_if_success (with_reducible first | refine And.intro ?_ ?_ | refine Or.inl ?_ | intro _)); (conv => whnf); (fail_if_success (fail_if_success (with_reducible first | apply kL | apply kC | apply kF | apply kM | refine Exists.intro ?_ ?_ | refine Both.mk ?_ ?_ | refine And.intro ?_ ?_ | refine Or.inl ?_ | intro _))))))
    refine FinK.mk ⟨[], _, _, ⟨rfl, rfl⟩, ?_⟩; (repeat' (first | (refine And.intro ?_ ?_) | exact trivial | rfl | exact Nat.le_refl _ | exact (fun _ _ => rfl) | exact all_one (by rfl) | (simp only [Int.toNat_natCast, Nat.zero_add, Nat.add_zero]; done)))

set_option maxRecDepth 20000 in
set_option maxHeartbeats 4000000 in
theorem cround (l : List It) (c : Nat) (hl : l.length ≤ 9223372036854775807) (hx : ∀ x ∈ l, x.Ok) :
    Ctr Try.prog 7 [.c (.sl 0 0 4 0 l.length c)] [.one (itR l c)] fun v _ => v = .c .tt := by
  refine Ctr.mk' tbv mixed Try.func7 rfl rfl rfl (fun _ _ => by kernel_rfl) (by kernel_rfl) (by rfl) (by rfl) (by (repeat' (first | (refine And.intro ?_ ?_) | exact trivial | rfl | exact Nat.le_refl _ | exact (fun _ _ => rfl) | exact all_one (by rfl) | (simp only [Int.toNat_natCast, Nat.zero_add, Nat.add_zero]; done)))) ?_
  repeat' (first
    | ((fail_if_success (with_reducible first | apply kL | apply kC | apply kF | apply kM | refine Exists.intro ?_ ?_)); first
      | ((with_reducible refine And.intro (fun (hb : _ = true) => ?_) (fun (hb : _ = false) => ?_)) <;> (try simp only [n1, n2, n3, n4, n5, n6, n7, n8, n9, n10, n11, n12, n13, n14, n15, n16, reduceCtorEq, n17, n18, n19, n20, n21, n22] at hb) <;> (try (first | (exfalso; omega) | exact bff hb (by assumption) | exact bff (by assumption) hb)))
      | (with_reducible refine Both.mk ?_ ?_)
      | ((with_reducible refine And.intro ?_ ?_); (focus (first | rfl | omega | exact fun _ _ => rfl | assumption | (split <;> omega) | (and_intros <;> first | rfl | omega | (split <;> omega)) | (dsimp only [maxLen]; and_intros <;> omega) | (simp only [n21, n22, m9]; done) | (simp only [n21, n22, m9]; first | omega | (and_intros <;> omega)))))
      | ((with_reducible refine Or.inl ⟨?_, ?_, ?_⟩); (focus rfl); (focus (and_intros <;> first | rfl | omega)))
      | ((with_reducible refine Or.inr (Or.inl ⟨?_, ?_⟩)); focus (and_intros <;> first | rfl | omega))
      | ((with_reducible refine Or.inr (Or.inr (Or.inl ⟨?_, ?_⟩))); focus (and_intros <;> first | rfl | omega))
      | ((with_reducible refine Or.inr (Or.inr (Or.inr ⟨?_, ?_⟩))); focus (and_intros <;> first | rfl | omega))
      | (with_reducible intro hc; (try simp only [capsP, and_true] at hc); (try (exfalso; omega)))
      | ((fail_if_success (with_reducible first | refine And.intro ?_ ?_ | refine Or.inl ?_ | intro _)); (conv => whnf); (fail_if_success (fail_if_success (with_reducible first | apply kL | apply kC | apply kF | apply kM | refine Exists.intro ?_ ?_ | refine Both.mk ?_ ?_ | refine And.intro ?_ ?_ | refine Or.inl ?_ | intro _))))))
  · skip
    refine CallK.mk3 (σ := []) (nl := []) (cawake) rfl rfl (List.append_nil _) (by (try simp only [↓List.length_cons, ↓List.length_nil, Nat.reduceAdd]); rfl) (by (try simp only [↓List.length_cons, ↓List.length_nil, Nat.reduceAdd]); rfl) (by (try simp (maxSteps := 1000000) only [givesF, setF, updF, Fam.zeroth, Fam.rk, Ck.rk, C.rk, E.rk, T.rk, key, List.map_cons, List.map_nil, List.cons_append, List.nil_append, List.length_cons, List.length_nil, Option.map_some, Option.bind_some, Nat.reduceAdd, Nat.zero_add, Nat.add_zero, Nat.add_sub_cancel_left, Int.toNat_natCast, reps, List.all_cons, List.all_nil, C.flat, List.append_eq, Bool.not_true, Bool.and_true, Bool.or_false, Bool.or_self, Bool.not_false, List.append_nil, Bool.and_self]); rfl) (by (repeat' (first | (refine And.intro ?_ ?_) | exact trivial | rfl | exact Nat.le_refl _ | exact (fun _ _ => rfl) | exact all_one (by rfl) | (simp only [Int.toNat_natCast, Nat.zero_add, Nat.add_zero]; done)))) ?_
    rintro v h' ⟨rfl, rfl⟩ hcaps
    refine ret_mk3 (by (try simp only [↓List.length_cons, ↓List.length_nil, Nat.reduceAdd]); rfl) (by (try simp (maxSteps := 1000000) only [givesF, setF, updF, Fam.zeroth, Fam.rk, Ck.rk, C.rk, E.rk, T.rk, key, List.map_cons, List.map_nil, List.cons_append, List.nil_append, List.length_cons, List.length_nil, Option.map_some, Option.bind_some, Nat.reduceAdd, Nat.zero_add, Nat.add_zero, Nat.add_sub_cancel_left, Int.toNat_natCast, reps, List.all_cons, List.all_nil, C.flat, List.append_eq, Bool.not_true, Bool.and_true, Bool.or_false, Bool.or_self, Bool.not_false, List.append_nil, Bool.and_self]); rfl) (by (try simp only [givesF, setF, updF, Fam.zeroth, Fam.rk, Ck.rk, C.rk, E.rk, T.rk, key, List.map_cons, List.map_nil, List.cons_append, List.nil_append, List.length_cons, List.length_nil, Option.map_some, Option.bind_some, Nat.reduceAdd, Nat.zero_add, Nat.add_zero, Nat.add_sub_cancel_left, Int.toNat_natCast, reps, List.all_cons, List.all_nil, C.flat, List.append_eq, Bool.not_true, Bool.and_true, Bool.or_false, Bool.or_self, Bool.not_false, List.append_nil, Bool.and_self]); rfl) ?_
    repeat' (first
      | ((fail_if_success (with_reducible first | apply kL | apply kC | apply kF | apply kM | refine Exists.intro ?_ ?_)); first
        | ((with_reducible refine And.intro (fun (hb : _ = true) => ?_) (fun (hb : _ = false) => ?_)) <;> (try simp only [n1, n2, n3, n4, n5, n6, n7, n8, n9, n10, n11, n12, n13, n14, n15, n16, reduceCtorEq, n17, n18, n19, n20, n21, n22] at hb) <;> (try (first | (exfalso; omega) | exact bff hb (by assumption) | exact bff (by assumption) hb)))
        | (with_reducible refine Both.mk ?_ ?_)
        | ((with_reducible refine And.intro ?_ ?_); (focus (first | rfl | omega | exact fun _ _ => rfl | assumption | (split <;> omega) | (and_intros <;> first | rfl | omega | (split <;> omega)) | (dsimp only [maxLen]; and_intros <;> omega) | (simp only [n21, n22, m9]; done) | (simp only [n21, n22, m9]; first | omega | (and_intros <;> omega)))))
        | ((with_reducible refine Or.inl ⟨?_, ?_, ?_⟩); (focus rfl); (focus (and_intros <;> first | rfl | omega)))
        | ((with_reducible refine Or.inr (Or.inl ⟨?_, ?_⟩)); focus (and_intros <;> first | rfl | omega))
        | ((with_reducible refine Or.inr (Or.inr (Or.inl ⟨?_, ?_⟩))); focus (and_intros <;> first | rfl | omega))
        | ((with_reducible refine Or.inr (Or.inr (Or.inr ⟨?_, ?_⟩))); focus (and_intros <;> first | rfl | omega))
        | (with_reducible intro hc; (try simp only [capsP, and_true] at hc); (try (exfalso; omega)))
        | ((fail_if_success (with_reducible first | refine And.intro ?_ ?_ | refine Or.inl ?_ | intro _)); (conv => whnf); (fail_if_success (fail_if_success (with_reducible first | apply kL | apply kC | apply kF | apply kM | refine Exists.intro ?_ ?_ | refine Both.mk ?_ ?_ | refine And.intro ?_ ?_ | refine Or.inl ?_ | intro _))))))
    refine FinK.mk ⟨[0], _, [.one .no], rfl, ?_⟩
    (repeat' (first | (refine And.intro ?_ ?_) | exact trivial | rfl | exact Nat.le_refl _ | exact (fun _ _ => rfl) | exact all_one (by rfl) | (simp only [Int.toNat_natCast, Nat.zero_add, Nat.add_zero]; done)))
  refine LoopK.mk' {i : Nat // i ≤ l.length ∧ (wrL (l.take i)).length ≤ 110 * i ∧ ∀ x ∈ l.take i, x.s.length ≤ 100}
    (fun ⟨i, _⟩ => ⟨[(0, .c (.sl 0 0 4 0 l.length c)), (3, .c (.s (mkS (wrL (l.take i))))), (4, .c (.i .i64 (i : Nat)))], [.one (itR l c)]⟩)
    (fun k => l.length - k.1)
    ⟨⟨0, Nat.zero_le _, Nat.zero_le _, by simp⟩, [0], ?_⟩ ?_
  · (repeat' (first | (refine And.intro ?_ ?_) | exact trivial | rfl | exact Nat.le_refl _ | exact (fun _ _ => rfl) | exact all_one (by rfl) | (simp only [Int.toNat_natCast, Nat.zero_add, Nat.add_zero]; done)))
  rintro ⟨i, hi, hb1, hb2⟩
  have hz : (mkS (wrL (l.take i))).size ≤ 110 * i := hb1
  repeat' (first
    | ((fail_if_success (with_reducible first | apply kL | apply kC | apply kF | apply kM | refine Exists.intro ?_ ?_)); first
      | ((with_reducible refine And.intro (fun (hb : _ = true) => ?_) (fun (hb : _ = false) => ?_)) <;> (try simp only [n1, n2, n3, n4, n5, n6, n7, n8, n9, n10, n11, n12, n13, n14, n15, n16, reduceCtorEq, n17, n18, n19, n20, n21, n22] at hb) <;> (try (first | (exfalso; omega) | exact bff hb (by assumption) | exact bff (by assumption) hb)))
      | (with_reducible refine Both.mk ?_ ?_)
      | ((with_reducible refine And.intro ?_ ?_); (focus (first | rfl | omega | exact fun _ _ => rfl | assumption | (split <;> omega) | (and_intros <;> first | rfl | omega | (split <;> omega)) | (dsimp only [maxLen]; and_intros <;> omega) | (simp only [n21, n22, m9]; done) | (simp only [n21, n22, m9]; first | omega | (and_intros <;> omega)))))
      | ((with_reducible refine Or.inl ⟨?_, ?_, ?_⟩); (focus rfl); (focus (and_intros <;> first | rfl | omega)))
      | ((with_reducible refine Or.inr (Or.inl ⟨?_, ?_⟩)); focus (and_intros <;> first | rfl | omega))
      | ((with_reducible refine Or.inr (Or.inr (Or.inl ⟨?_, ?_⟩))); focus (and_intros <;> first | rfl | omega))
      | ((with_reducible refine Or.inr (Or.inr (Or.inr ⟨?_, ?_⟩))); focus (and_intros <;> first | rfl | omega))
      | (with_reducible intro hc; (try simp only [capsP, and_true] at hc); (try (exfalso; omega)))
      | ((fail_if_success (with_reducible first | refine And.intro ?_ ?_ | refine Or.inl ?_ | intro _)); (conv => whnf); (fail_if_success (fail_if_success (with_reducible first | apply kL | apply kC | apply kF | apply kM | refine Exists.intro ?_ ?_ | refine Both.mk ?_ ?_ | refine And.intro ?_ ?_ | refine Or.inl ?_ | intro _))))))
  · skip
    refine CallK.mk3 (σ := []) (nl := []) (cawake) rfl rfl (List.append_nil _) (by (try simp only [↓List.length_cons, ↓List.length_nil, Nat.reduceAdd]); rfl) (by (try simp only [↓List.length_cons, ↓List.length_nil, Nat.reduceAdd]); rfl) (by (try simp (maxSteps := 1000000) only [givesF, setF, updF, Fam.zeroth, Fam.rk, Ck.rk, C.rk, E.rk, T.rk, key, List.map_cons, List.map_nil, List.cons_append, List.nil_append, List.length_cons, List.length_nil, Option.map_some, Option.bind_some, Nat.reduceAdd, Nat.zero_add, Nat.add_zero, Nat.add_sub_cancel_left, Int.toNat_natCast, reps, List.all_cons, List.all_nil, C.flat, List.append_eq, Bool.not_true, Bool.and_true, Bool.or_false, Bool.or_self, Bool.not_false, List.append_nil, Bool.and_self]); rfl) (by (repeat' (first | (refine And.intro ?_ ?_) | exact trivial | rfl | exact Nat.le_refl _ | exact (fun _ _ => rfl) | exact all_one (by rfl) | (simp only [Int.toNat_natCast, Nat.zero_add, Nat.add_zero]; done)))) ?_
    rintro v h' ⟨rfl, rfl⟩ hcaps
    refine ret_mk3 (by (try simp only [↓List.length_cons, ↓List.length_nil, Nat.reduceAdd]); rfl) (by (try simp (maxSteps := 1000000) only [givesF, setF, updF, Fam.zeroth, Fam.rk, Ck.rk, C.rk, E.rk, T.rk, key, List.map_cons, List.map_nil, List.cons_append, List.nil_append, List.length_cons, List.length_nil, Option.map_some, Option.bind_some, Nat.reduceAdd, Nat.zero_add, Nat.add_zero, Nat.add_sub_cancel_left, Int.toNat_natCast, reps, List.all_cons, List.all_nil, C.flat, List.append_eq, Bool.not_true, Bool.and_true, Bool.or_false, Bool.or_self, Bool.not_false, List.append_nil, Bool.and_self]); rfl) (by (try simp only [givesF, setF, updF, Fam.zeroth, Fam.rk, Ck.rk, C.rk, E.rk, T.rk, key, List.map_cons, List.map_nil, List.cons_append, List.nil_append, List.length_cons, List.length_nil, Option.map_some, Option.bind_some, Nat.reduceAdd, Nat.zero_add, Nat.add_zero, Nat.add_sub_cancel_left, Int.toNat_natCast, reps, List.all_cons, List.all_nil, C.flat, List.append_eq, Bool.not_true, Bool.and_true, Bool.or_false, Bool.or_self, Bool.not_false, List.append_nil, Bool.and_self]); rfl) ?_
    repeat' (first
      | ((fail_if_success (with_reducible first | apply kL | apply kC | apply kF | apply kM | refine Exists.intro ?_ ?_)); first
        | ((with_reducible refine And.intro (fun (hb : _ = true) => ?_) (fun (hb : _ = false) => ?_)) <;> (try simp only [n1, n2, n3, n4, n5, n6, n7, n8, n9, n10, n11, n12, n13, n14, n15, n16, reduceCtorEq, n17, n18, n19, n20, n21, n22] at hb) <;> (try (first | (exfalso; omega) | exact bff hb (by assumption) | exact bff (by assumption) hb)))
        | (with_reducible refine Both.mk ?_ ?_)
        | ((with_reducible refine And.intro ?_ ?_); (focus (first | rfl | omega | exact fun _ _ => rfl | assumption | (split <;> omega) | (and_intros <;> first | rfl | omega | (split <;> omega)) | (dsimp only [maxLen]; and_intros <;> omega) | (simp only [n21, n22, m9]; done) | (simp only [n21, n22, m9]; first | omega | (and_intros <;> omega)))))
        | ((with_reducible refine Or.inl ⟨?_, ?_, ?_⟩); (focus rfl); (focus (and_intros <;> first | rfl | omega)))
        | ((with_reducible refine Or.inr (Or.inl ⟨?_, ?_⟩)); focus (and_intros <;> first | rfl | omega))
        | ((with_reducible refine Or.inr (Or.inr (Or.inl ⟨?_, ?_⟩))); focus (and_intros <;> first | rfl | omega))
        | ((with_reducible refine Or.inr (Or.inr (Or.inr ⟨?_, ?_⟩))); focus (and_intros <;> first | rfl | omega))
        | (with_reducible intro hc; (try simp only [capsP, and_true] at hc); (try (exfalso; omega)))
        | ((fail_if_success (with_reducible first | refine And.intro ?_ ?_ | refine Or.inl ?_ | intro _)); (conv => whnf); (fail_if_success (fail_if_success (with_reducible first | apply kL | apply kC | apply kF | apply kM | refine Exists.intro ?_ ?_ | refine Both.mk ?_ ?_ | refine And.intro ?_ ?_ | refine Or.inl ?_ | intro _))))))
    refine FinK.mk ⟨[0], _, [.one .no], rfl, ?_⟩
    (repeat' (first | (refine And.intro ?_ ?_) | exact trivial | rfl | exact Nat.le_refl _ | exact (fun _ _ => rfl) | exact all_one (by rfl) | (simp only [Int.toNat_natCast, Nat.zero_add, Nat.add_zero]; done)))
  · have hwl := wrI_le (l.getD i default) (by have : (l.getD i default).s.length = (mkS (l.getD i default).s).size := rfl; omega)
    have hz2 : (mkS (wrI (l.getD i default))).size ≤ 110 := hwl
    refine CallK.mk3 (σ := []) (nl := []) (cwritten (l.getD i default) (hx _ (by rw [getD_at (by omega)]; exact List.getElem_mem _))) rfl rfl (List.append_nil _) (by (try simp only [↓List.length_cons, ↓List.length_nil, Nat.reduceAdd]); rfl) (by (try simp only [↓List.length_cons, ↓List.length_nil, Nat.reduceAdd]); rfl) (by (try simp (maxSteps := 1000000) only [givesF, setF, updF, Fam.zeroth, Fam.rk, Ck.rk, C.rk, E.rk, T.rk, key, List.map_cons, List.map_nil, List.cons_append, List.nil_append, List.length_cons, List.length_nil, Option.map_some, Option.bind_some, Nat.reduceAdd, Nat.zero_add, Nat.add_zero, Nat.add_sub_cancel_left, Int.toNat_natCast, reps, List.all_cons, List.all_nil, C.flat, List.append_eq, Bool.not_true, Bool.and_true, Bool.or_false, Bool.or_self, Bool.not_false, List.append_nil, Bool.and_self]); rfl) (by (repeat' (first | (refine And.intro ?_ ?_) | exact trivial | rfl | exact Nat.le_refl _ | exact (fun _ _ => rfl) | exact all_one (by rfl) | (simp only [Int.toNat_natCast, Nat.zero_add, Nat.add_zero]; done)))) ?_
    rintro v h' ⟨rfl, rfl⟩ hcaps
    refine ret_mk3 (by (try simp only [↓List.length_cons, ↓List.length_nil, Nat.reduceAdd]); rfl) (by (try simp (maxSteps := 1000000) only [givesF, setF, updF, Fam.zeroth, Fam.rk, Ck.rk, C.rk, E.rk, T.rk, key, List.map_cons, List.map_nil, List.cons_append, List.nil_append, List.length_cons, List.length_nil, Option.map_some, Option.bind_some, Nat.reduceAdd, Nat.zero_add, Nat.add_zero, Nat.add_sub_cancel_left, Int.toNat_natCast, reps, List.all_cons, List.all_nil, C.flat, List.append_eq, Bool.not_true, Bool.and_true, Bool.or_false, Bool.or_self, Bool.not_false, List.append_nil, Bool.and_self]); rfl) (by (try simp only [givesF, setF, updF, Fam.zeroth, Fam.rk, Ck.rk, C.rk, E.rk, T.rk, key, List.map_cons, List.map_nil, List.cons_append, List.nil_append, List.length_cons, List.length_nil, Option.map_some, Option.bind_some, Nat.reduceAdd, Nat.zero_add, Nat.add_zero, Nat.add_sub_cancel_left, Int.toNat_natCast, reps, List.all_cons, List.all_nil, C.flat, List.append_eq, Bool.not_true, Bool.and_true, Bool.or_false, Bool.or_self, Bool.not_false, List.append_nil, Bool.and_self]); rfl) ?_
    repeat' (first
      | ((fail_if_success (with_reducible first | apply kL | apply kC | apply kF | apply kM | refine Exists.intro ?_ ?_)); first
        | ((with_reducible refine And.intro (fun (hb : _ = true) => ?_) (fun (hb : _ = false) => ?_)) <;> (try simp only [n1, n2, n3, n4, n5, n6, n7, n8, n9, n10, n11, n12, n13, n14, n15, n16, reduceCtorEq, n17, n18, n19, n20, n21, n22] at hb) <;> (try (first | (exfalso; omega) | exact bff hb (by assumption) | exact bff (by assumption) hb)))
        | (with_reducible refine Both.mk ?_ ?_)
        | ((with_reducible refine And.intro ?_ ?_); (focus (first | rfl | omega | exact fun _ _ => rfl | assumption | (split <;> omega) | (and_intros <;> first | rfl | omega | (split <;> omega)) | (dsimp only [maxLen]; and_intros <;> omega) | (simp only [n21, n22, m9]; done) | (simp only [n21, n22, m9]; first | omega | (and_intros <;> omega)))))
        | ((with_reducible refine Or.inl ⟨?_, ?_, ?_⟩); (focus rfl); (focus (and_intros <;> first | rfl | omega)))
        | ((with_reducible refine Or.inr (Or.inl ⟨?_, ?_⟩)); focus (and_intros <;> first | rfl | omega))
        | ((with_reducible refine Or.inr (Or.inr (Or.inl ⟨?_, ?_⟩))); focus (and_intros <;> first | rfl | omega))
        | ((with_reducible refine Or.inr (Or.inr (Or.inr ⟨?_, ?_⟩))); focus (and_intros <;> first | rfl | omega))
        | (with_reducible intro hc; (try simp only [capsP, and_true] at hc); (try (exfalso; omega)))
        | ((fail_if_success (with_reducible first | refine And.intro ?_ ?_ | refine Or.inl ?_ | intro _)); (conv => whnf); (fail_if_success (fail_if_success (with_reducible first | apply kL | apply kC | apply kF | apply kM | refine Exists.intro ?_ ?_ | refine Both.mk ?_ ?_ | refine And.intro ?_ ?_ | refine Or.inl ?_ | intro _))))))
    rw [mkS_append, ← wrL_snoc l (by omega)]
    refine ⟨⟨i + 1, by omega, ?_, ?_⟩, [0], by simp only; omega, ?_⟩
    · rw [wrL_snoc l (by omega), List.length_append]; omega
    · rw [take_snocG l (by omega)]
      intro x hx
      rcases List.mem_append.1 hx with h | h
      · exact hb2 x h
      · rw [List.mem_singleton.1 h]; exact (by have : (l.getD i default).s.length = (mkS (l.getD i default).s).size := rfl; omega)
    · (repeat' (first | (refine And.intro ?_ ?_) | exact trivial | rfl | exact Nat.le_refl _ | exact (fun _ _ => rfl) | exact all_one (by rfl) | (simp only [Int.toNat_natCast, Nat.zero_add, Nat.add_zero]; done)))
  rw [List.take_of_length_le (by omega)] at hb1 hb2 hz ⊢
  refine CallK.mk3 (σ := []) (nl := []) (cNew (mkS (wrL l))) rfl rfl (List.append_nil _) (by (try simp only [↓List.length_cons, ↓List.length_nil, Nat.reduceAdd]); rfl) (by (try simp only [↓List.length_cons, ↓List.length_nil, Nat.reduceAdd]); rfl) (by (try simp (maxSteps := 1000000) only [givesF, setF, updF, Fam.zeroth, Fam.rk, Ck.rk, C.rk, E.rk, T.rk, key, List.map_cons, List.map_nil, List.cons_append, List.nil_append, List.length_cons, List.length_nil, Option.map_some, Option.bind_some, Nat.reduceAdd, Nat.zero_add, Nat.add_zero, Nat.add_sub_cancel_left, Int.toNat_natCast, reps, List.all_cons, List.all_nil, C.flat, List.append_eq, Bool.not_true, Bool.and_true, Bool.or_false, Bool.or_self, Bool.not_false, List.append_nil, Bool.and_self]); rfl) (by (repeat' (first | (refine And.intro ?_ ?_) | exact trivial | rfl | exact Nat.le_refl _ | exact (fun _ _ => rfl) | exact all_one (by rfl) | (simp only [Int.toNat_natCast, Nat.zero_add, Nat.add_zero]; done)))) ?_
  rintro v h' ⟨rfl, rfl⟩ hcaps
  refine ret_mk3 (by (try simp only [↓List.length_cons, ↓List.length_nil, Nat.reduceAdd]); rfl) (by (try simp (maxSteps := 1000000) only [givesF, setF, updF, Fam.zeroth, Fam.rk, Ck.rk, C.rk, E.rk, T.rk, key, List.map_cons, List.map_nil, List.cons_append, List.nil_append, List.length_cons, List.length_nil, Option.map_some, Option.bind_some, Nat.reduceAdd, Nat.zero_add, Nat.add_zero, Nat.add_sub_cancel_left, Int.toNat_natCast, reps, List.all_cons, List.all_nil, C.flat, List.append_eq, Bool.not_true, Bool.and_true, Bool.or_false, Bool.or_self, Bool.not_false, List.append_nil, Bool.and_self]); rfl) (by (try simp only [givesF, setF, updF, Fam.zeroth, Fam.rk, Ck.rk, C.rk, E.rk, T.rk, key, List.map_cons, List.map_nil, List.cons_append, List.nil_append, List.length_cons, List.length_nil, Option.map_some, Option.bind_some, Nat.reduceAdd, Nat.zero_add, Nat.add_zero, Nat.add_sub_cancel_left, Int.toNat_natCast, reps, List.all_cons, List.all_nil, C.flat, List.append_eq, Bool.not_true, Bool.and_true, Bool.or_false, Bool.or_self, Bool.not_false, List.append_nil, Bool.and_self]); rfl) ?_
  repeat' (first
    | ((fail_if_success (with_reducible first | apply kL | apply kC | apply kF | apply kM | refine Exists.intro ?_ ?_)); first
      | ((with_reducible refine And.intro (fun (hb : _ = true) => ?_) (fun (hb : _ = false) => ?_)) <;> (try simp only [n1, n2, n3, n4, n5, n6, n7, n8, n9, n10, n11, n12, n13, n14, n15, n16, reduceCtorEq, n17, n18, n19, n20, n21, n22] at hb) <;> (try (first | (exfalso; omega) | exact bff hb (by assumption) | exact bff (by assumption) hb)))
      | (with_reducible refine Both.mk ?_ ?_)
      | ((with_reducible refine And.intro ?_ ?_); (focus (first | rfl | omega | exact fun _ _ => rfl | assumption | (split <;> omega) | (and_intros <;> first | rfl | omega | (split <;> omega)) | (dsimp only [maxLen]; and_intros <;> omega) | (simp only [n21, n22, m9]; done) | (simp only [n21, n22, m9]; first | omega | (and_intros <;> omega)))))
      | ((with_reducible refine Or.inl ⟨?_, ?_, ?_⟩); (focus rfl); (focus (and_intros <;> first | rfl | omega)))
      | ((with_reducible refine Or.inr (Or.inl ⟨?_, ?_⟩)); focus (and_intros <;> first | rfl | omega))
      | ((with_reducible refine Or.inr (Or.inr (Or.inl ⟨?_, ?_⟩))); focus (and_intros <;> first | rfl | omega))
      | ((with_reducible refine Or.inr (Or.inr (Or.inr ⟨?_, ?_⟩))); focus (and_intros <;> first | rfl | omega))
      | (with_reducible intro hc; (try simp only [capsP, and_true] at hc); (try (exfalso; omega)))
      | ((fail_if_success (with_reducible first | refine And.intro ?_ ?_ | refine Or.inl ?_ | intro _)); (conv => whnf); (fail_if_success (fail_if_success (with_reducible first | apply kL | apply kC | apply kF | apply kM | refine Exists.intro ?_ ?_ | refine Both.mk ?_ ?_ | refine And.intro ?_ ?_ | refine Or.inl ?_ | intro _))))))
  have hs' : (mkS (wrL l)).size ≤ 140737488355328 := by omega
  refine LoopK.mk' {i : Nat // i ≤ l.length}
    (fun ⟨i, _⟩ => ⟨[(0, .c (.sl 0 0 4 0 l.length c)), (5, .c (.p 1 0 0)), (6, .c (.i .i64 (i : Nat)))], [.one (itR l c), .one (rdC (mkS (wrL l)) (wrL (l.take i)).length 0)]⟩)
    (fun k => l.length - k.1)
    ⟨⟨0, Nat.zero_le _⟩, [0, 1], ?_⟩ ?_
  · (repeat' (first | (refine And.intro ?_ ?_) | exact trivial | rfl | exact Nat.le_refl _ | exact (fun _ _ => rfl) | exact all_one (by rfl) | (simp only [Int.toNat_natCast, Nat.zero_add, Nat.add_zero]; done)))
  rintro ⟨i, hi⟩
  have ha : (wrL (l.take i)).length ≤ (mkS (wrL l)).size := by
    exact wrL_le l i
  by_cases hil : i < l.length
  · have hsp : (mkS (wrL l)).data.toList.drop (wrL (l.take i)).length = wrI (l.getD i default) ++ wrL (l.drop (i + 1)) := wrL_split l hil
    have hsn := congrArg List.length (wrL_snoc l hil)
    rw [List.length_append] at hsn
    have hok := hx (l.getD i default) (by rw [getD_at hil]; exact List.getElem_mem _)
    have h100 := hb2 (l.getD i default) (by rw [getD_at hil]; exact List.getElem_mem _)
    repeat' (first
      | ((fail_if_success (with_reducible first | apply kL | apply kC | apply kF | apply kM | refine Exists.intro ?_ ?_)); first
        | ((with_reducible refine And.intro (fun (hb : _ = true) => ?_) (fun (hb : _ = false) => ?_)) <;> (try simp only [n1, n2, n3, n4, n5, n6, n7, n8, n9, n10, n11, n12, n13, n14, n15, n16, reduceCtorEq, n17, n18, n19, n20, n21, n22] at hb) <;> (try (first | (exfalso; omega) | exact bff hb (by assumption) | exact bff (by assumption) hb)))
        | (with_reducible refine Both.mk ?_ ?_)
        | ((with_reducible refine And.intro ?_ ?_); (focus (first | rfl | omega | exact fun _ _ => rfl | assumption | (split <;> omega) | (and_intros <;> first | rfl | omega | (split <;> omega)) | (dsimp only [maxLen]; and_intros <;> omega) | (simp only [n21, n22, m9]; done) | (simp only [n21, n22, m9]; first | omega | (and_intros <;> omega)))))
        | ((with_reducible refine Or.inl ⟨?_, ?_, ?_⟩); (focus rfl); (focus (and_intros <;> first | rfl | omega)))
        | ((with_reducible refine Or.inr (Or.inl ⟨?_, ?_⟩)); focus (and_intros <;> first | rfl | omega))
        | ((with_reducible refine Or.inr (Or.inr (Or.inl ⟨?_, ?_⟩))); focus (and_intros <;> first | rfl | omega))
        | ((with_reducible refine Or.inr (Or.inr (Or.inr ⟨?_, ?_⟩))); focus (and_intros <;> first | rfl | omega))
        | (with_reducible intro hc; (try simp only [capsP, and_true] at hc); (try (exfalso; omega)))
        | ((fail_if_success (with_reducible first | refine And.intro ?_ ?_ | refine Or.inl ?_ | intro _)); (conv => whnf); (fail_if_success (fail_if_success (with_reducible first | apply kL | apply kC | apply kF | apply kM | refine Exists.intro ?_ ?_ | refine Both.mk ?_ ?_ | refine And.intro ?_ ?_ | refine Or.inl ?_ | intro _))))))
    · have hw : wrI (l.getD i default) = venc (l.getD i default).n := if_pos hb
      refine CallK.mk3 (σ := [.whole 1]) (nl := []) (crUint (mkS (wrL l)) (wrL (l.take i)).length 0 ha hs') rfl rfl (List.append_nil _) (by (try simp only [↓List.length_cons, ↓List.length_nil, Nat.reduceAdd]); rfl) (by (try simp only [↓List.length_cons, ↓List.length_nil, Nat.reduceAdd]); rfl) (by (try simp (maxSteps := 1000000) only [givesF, setF, updF, Fam.zeroth, Fam.rk, Ck.rk, C.rk, E.rk, T.rk, key, List.map_cons, List.map_nil, List.cons_append, List.nil_append, List.length_cons, List.length_nil, Option.map_some, Option.bind_some, Nat.reduceAdd, Nat.zero_add, Nat.add_zero, Nat.add_sub_cancel_left, Int.toNat_natCast, reps, List.all_cons, List.all_nil, C.flat, List.append_eq, Bool.not_true, Bool.and_true, Bool.or_false, Bool.or_self, Bool.not_false, List.append_nil, Bool.and_self]); rfl) (by (repeat' (first | (refine And.intro ?_ ?_) | exact trivial | rfl | exact Nat.le_refl _ | exact (fun _ _ => rfl) | exact all_one (by rfl) | (simp only [Int.toNat_natCast, Nat.zero_add, Nat.add_zero]; done)))) ?_
      rintro v h' ⟨rfl, rfl⟩ hcaps
      rw [rdU_at hok.n (by rw [hsp, hw]), ← hw]
      refine ret_mk3 (by (try simp only [↓List.length_cons, ↓List.length_nil, Nat.reduceAdd]); rfl) (by (try simp (maxSteps := 1000000) only [givesF, setF, updF, Fam.zeroth, Fam.rk, Ck.rk, C.rk, E.rk, T.rk, key, List.map_cons, List.map_nil, List.cons_append, List.nil_append, List.length_cons, List.length_nil, Option.map_some, Option.bind_some, Nat.reduceAdd, Nat.zero_add, Nat.add_zero, Nat.add_sub_cancel_left, Int.toNat_natCast, reps, List.all_cons, List.all_nil, C.flat, List.append_eq, Bool.not_true, Bool.and_true, Bool.or_false, Bool.or_self, Bool.not_false, List.append_nil, Bool.and_self]); rfl) (by (try simp only [givesF, setF, updF, Fam.zeroth, Fam.rk, Ck.rk, C.rk, E.rk, T.rk, key, List.map_cons, List.map_nil, List.cons_append, List.nil_append, List.length_cons, List.length_nil, Option.map_some, Option.bind_some, Nat.reduceAdd, Nat.zero_add, Nat.add_zero, Nat.add_sub_cancel_left, Int.toNat_natCast, reps, List.all_cons, List.all_nil, C.flat, List.append_eq, Bool.not_true, Bool.and_true, Bool.or_false, Bool.or_self, Bool.not_false, List.append_nil, Bool.and_self]); rfl) ?_
      repeat' (first
        | ((fail_if_success (with_reducible first | apply kL | apply kC | apply kF | apply kM | refine Exists.intro ?_ ?_)); first
          | ((with_reducible refine And.intro (fun (hb : _ = true) => ?_) (fun (hb : _ = false) => ?_)) <;> (try simp only [n1, n2, n3, n4, n5, n6, n7, n8, n9, n10, n11, n12, n13, n14, n15, n16, reduceCtorEq, n17, n18, n19, n20, n21, n22] at hb) <;> (try (first | (exfalso; omega) | exact bff hb (by assumption) | exact bff (by assumption) hb)))
          | (with_reducible refine Both.mk ?_ ?_)
          | ((with_reducible refine And.intro ?_ ?_); (focus (first | rfl | omega | exact fun _ _ => rfl | assumption | (split <;> omega) | (and_intros <;> first | rfl | omega | (split <;> omega)) | (dsimp only [maxLen]; and_intros <;> omega) | (simp only [n21, n22, m9]; done) | (simp only [n21, n22, m9]; first | omega | (and_intros <;> omega)))))
          | ((with_reducible refine Or.inl ⟨?_, ?_, ?_⟩); (focus rfl); (focus (and_intros <;> first | rfl | omega)))
          | ((with_reducible refine Or.inr (Or.inl ⟨?_, ?_⟩)); focus (and_intros <;> first | rfl | omega))
          | ((with_reducible refine Or.inr (Or.inr (Or.inl ⟨?_, ?_⟩))); focus (and_intros <;> first | rfl | omega))
          | ((with_reducible refine Or.inr (Or.inr (Or.inr ⟨?_, ?_⟩))); focus (and_intros <;> first | rfl | omega))
          | (with_reducible intro hc; (try simp only [capsP, and_true] at hc); (try (exfalso; omega)))
          | ((fail_if_success (with_reducible first | refine And.intro ?_ ?_ | refine Or.inl ?_ | intro _)); (conv => whnf); (fail_if_success (fail_if_success (with_reducible first | apply kL | apply kC | apply kF | apply kM | refine Exists.intro ?_ ?_ | refine Both.mk ?_ ?_ | refine And.intro ?_ ?_ | refine Or.inl ?_ | intro _))))))
      refine CallK.mk3 (σ := [.whole 1]) (nl := []) (cErr (mkS (wrL l)) ((wrL (l.take i)).length + (wrI (l.getD i default)).length) 0) rfl rfl (List.append_nil _) (by (try simp only [↓List.length_cons, ↓List.length_nil, Nat.reduceAdd]); rfl) (by (try simp only [↓List.length_cons, ↓List.length_nil, Nat.reduceAdd]); rfl) (by (try simp (maxSteps := 1000000) only [givesF, setF, updF, Fam.zeroth, Fam.rk, Ck.rk, C.rk, E.rk, T.rk, key, List.map_cons, List.map_nil, List.cons_append, List.nil_append, List.length_cons, List.length_nil, Option.map_some, Option.bind_some, Nat.reduceAdd, Nat.zero_add, Nat.add_zero, Nat.add_sub_cancel_left, Int.toNat_natCast, reps, List.all_cons, List.all_nil, C.flat, List.append_eq, Bool.not_true, Bool.and_true, Bool.or_false, Bool.or_self, Bool.not_false, List.append_nil, Bool.and_self]); rfl) (by (repeat' (first | (refine And.intro ?_ ?_) | exact trivial | rfl | exact Nat.le_refl _ | exact (fun _ _ => rfl) | exact all_one (by rfl) | (simp only [Int.toNat_natCast, Nat.zero_add, Nat.add_zero]; done)))) ?_
      rintro v h' ⟨rfl, rfl⟩ hcaps
      refine ret_mk3 (by (try simp only [↓List.length_cons, ↓List.length_nil, Nat.reduceAdd]); rfl) (by (try simp (maxSteps := 1000000) only [givesF, setF, updF, Fam.zeroth, Fam.rk, Ck.rk, C.rk, E.rk, T.rk, key, List.map_cons, List.map_nil, List.cons_append, List.nil_append, List.length_cons, List.length_nil, Option.map_some, Option.bind_some, Nat.reduceAdd, Nat.zero_add, Nat.add_zero, Nat.add_sub_cancel_left, Int.toNat_natCast, reps, List.all_cons, List.all_nil, C.flat, List.append_eq, Bool.not_true, Bool.and_true, Bool.or_false, Bool.or_self, Bool.not_false, List.append_nil, Bool.and_self]); rfl) (by (try simp only [givesF, setF, updF, Fam.zeroth, Fam.rk, Ck.rk, C.rk, E.rk, T.rk, key, List.map_cons, List.map_nil, List.cons_append, List.nil_append, List.length_cons, List.length_nil, Option.map_some, Option.bind_some, Nat.reduceAdd, Nat.zero_add, Nat.add_zero, Nat.add_sub_cancel_left, Int.toNat_natCast, reps, List.all_cons, List.all_nil, C.flat, List.append_eq, Bool.not_true, Bool.and_true, Bool.or_false, Bool.or_self, Bool.not_false, List.append_nil, Bool.and_self]); rfl) ?_
      repeat' (first
        | ((fail_if_success (with_reducible first | apply kL | apply kC | apply kF | apply kM | refine Exists.intro ?_ ?_)); first
          | ((with_reducible refine And.intro (fun (hb : _ = true) => ?_) (fun (hb : _ = false) => ?_)) <;> (try simp only [n1, n2, n3, n4, n5, n6, n7, n8, n9, n10, n11, n12, n13, n14, n15, n16, reduceCtorEq, n17, n18, n19, n20, n21, n22] at hb) <;> (try (first | (exfalso; omega) | exact bff hb (by assumption) | exact bff (by assumption) hb)))
          | (with_reducible refine Both.mk ?_ ?_)
          | ((with_reducible refine And.intro ?_ ?_); (focus (first | rfl | omega | exact fun _ _ => rfl | assumption | (split <;> omega) | (and_intros <;> first | rfl | omega | (split <;> omega)) | (dsimp only [maxLen]; and_intros <;> omega) | (simp only [n21, n22, m9]; done) | (simp only [n21, n22, m9]; first | omega | (and_intros <;> omega)))))
          | ((with_reducible refine Or.inl ⟨?_, ?_, ?_⟩); (focus rfl); (focus (and_intros <;> first | rfl | omega)))
          | ((with_reducible refine Or.inr (Or.inl ⟨?_, ?_⟩)); focus (and_intros <;> first | rfl | omega))
          | ((with_reducible refine Or.inr (Or.inr (Or.inl ⟨?_, ?_⟩))); focus (and_intros <;> first | rfl | omega))
          | ((with_reducible refine Or.inr (Or.inr (Or.inr ⟨?_, ?_⟩))); focus (and_intros <;> first | rfl | omega))
          | (with_reducible intro hc; (try simp only [capsP, and_true] at hc); (try (exfalso; omega)))
          | ((fail_if_success (with_reducible first | refine And.intro ?_ ?_ | refine Or.inl ?_ | intro _)); (conv => whnf); (fail_if_success (fail_if_success (with_reducible first | apply kL | apply kC | apply kF | apply kM | refine Exists.intro ?_ ?_ | refine Both.mk ?_ ?_ | refine And.intro ?_ ?_ | refine Or.inl ?_ | intro _))))))
      refine ⟨⟨i + 1, by omega⟩, [0, 1], by simp only; omega, ?_⟩
      (repeat' (first | (refine And.intro ?_ ?_) | exact trivial | rfl | exact Nat.le_refl _ | exact (fun _ _ => rfl) | exact all_one (by rfl) | (simp only [Int.toNat_natCast, Nat.zero_add, Nat.add_zero]; done)))
      omega
    · have hw : wrI (l.getD i default) = venc (zz (l.getD i default).m) := by unfold wrI; rw [if_neg (by assumption), if_pos hb]
      refine CallK.mk3 (σ := [.whole 1]) (nl := []) (crInt (mkS (wrL l)) (wrL (l.take i)).length 0 ha hs') rfl rfl (List.append_nil _) (by (try simp only [↓List.length_cons, ↓List.length_nil, Nat.reduceAdd]); rfl) (by (try simp only [↓List.length_cons, ↓List.length_nil, Nat.reduceAdd]); rfl) (by (try simp (maxSteps := 1000000) only [givesF, setF, updF, Fam.zeroth, Fam.rk, Ck.rk, C.rk, E.rk, T.rk, key, List.map_cons, List.map_nil, List.cons_append, List.nil_append, List.length_cons, List.length_nil, Option.map_some, Option.bind_some, Nat.reduceAdd, Nat.zero_add, Nat.add_zero, Nat.add_sub_cancel_left, Int.toNat_natCast, reps, List.all_cons, List.all_nil, C.flat, List.append_eq, Bool.not_true, Bool.and_true, Bool.or_false, Bool.or_self, Bool.not_false, List.append_nil, Bool.and_self]); rfl) (by (repeat' (first | (refine And.intro ?_ ?_) | exact trivial | rfl | exact Nat.le_refl _ | exact (fun _ _ => rfl) | exact all_one (by rfl) | (simp only [Int.toNat_natCast, Nat.zero_add, Nat.add_zero]; done)))) ?_
      rintro v h' ⟨rfl, rfl⟩ hcaps
      rw [rdU_at (zz_lt _ hok.lo hok.hi) (by rw [hsp, hw]), ← hw, unzz_zz]
      refine ret_mk3 (by (try simp only [↓List.length_cons, ↓List.length_nil, Nat.reduceAdd]); rfl) (by (try simp (maxSteps := 1000000) only [givesF, setF, updF, Fam.zeroth, Fam.rk, Ck.rk, C.rk, E.rk, T.rk, key, List.map_cons, List.map_nil, List.cons_append, List.nil_append, List.length_cons, List.length_nil, Option.map_some, Option.bind_some, Nat.reduceAdd, Nat.zero_add, Nat.add_zero, Nat.add_sub_cancel_left, Int.toNat_natCast, reps, List.all_cons, List.all_nil, C.flat, List.append_eq, Bool.not_true, Bool.and_true, Bool.or_false, Bool.or_self, Bool.not_false, List.append_nil, Bool.and_self]); rfl) (by (try simp only [givesF, setF, updF, Fam.zeroth, Fam.rk, Ck.rk, C.rk, E.rk, T.rk, key, List.map_cons, List.map_nil, List.cons_append, List.nil_append, List.length_cons, List.length_nil, Option.map_some, Option.bind_some, Nat.reduceAdd, Nat.zero_add, Nat.add_zero, Nat.add_sub_cancel_left, Int.toNat_natCast, reps, List.all_cons, List.all_nil, C.flat, List.append_eq, Bool.not_true, Bool.and_true, Bool.or_false, Bool.or_self, Bool.not_false, List.append_nil, Bool.and_self]); rfl) ?_
      repeat' (first
        | ((fail_if_success (with_reducible first | apply kL | apply kC | apply kF | apply kM | refine Exists.intro ?_ ?_)); first
          | ((with_reducible refine And.intro (fun (hb : _ = true) => ?_) (fun (hb : _ = false) => ?_)) <;> (try simp only [n1, n2, n3, n4, n5, n6, n7, n8, n9, n10, n11, n12, n13, n14, n15, n16, reduceCtorEq, n17, n18, n19, n20, n21, n22] at hb) <;> (try (first | (exfalso; omega) | exact bff hb (by assumption) | exact bff (by assumption) hb)))
          | (with_reducible refine Both.mk ?_ ?_)
          | ((with_reducible refine And.intro ?_ ?_); (focus (first | rfl | omega | exact fun _ _ => rfl | assumption | (split <;> omega) | (and_intros <;> first | rfl | omega | (split <;> omega)) | (dsimp only [maxLen]; and_intros <;> omega) | (simp only [n21, n22, m9]; done) | (simp only [n21, n22, m9]; first | omega | (and_intros <;> omega)))))
          | ((with_reducible refine Or.inl ⟨?_, ?_, ?_⟩); (focus rfl); (focus (and_intros <;> first | rfl | omega)))
          | ((with_reducible refine Or.inr (Or.inl ⟨?_, ?_⟩)); focus (and_intros <;> first | rfl | omega))
          | ((with_reducible refine Or.inr (Or.inr (Or.inl ⟨?_, ?_⟩))); focus (and_intros <;> first | rfl | omega))
          | ((with_reducible refine Or.inr (Or.inr (Or.inr ⟨?_, ?_⟩))); focus (and_intros <;> first | rfl | omega))
          | (with_reducible intro hc; (try simp only [capsP, and_true] at hc); (try (exfalso; omega)))
          | ((fail_if_success (with_reducible first | refine And.intro ?_ ?_ | refine Or.inl ?_ | intro _)); (conv => whnf); (fail_if_success (fail_if_success (with_reducible first | apply kL | apply kC | apply kF | apply kM | refine Exists.intro ?_ ?_ | refine Both.mk ?_ ?_ | refine And.intro ?_ ?_ | refine Or.inl ?_ | intro _))))))
      refine CallK.mk3 (σ := [.whole 1]) (nl := []) (cErr (mkS (wrL l)) ((wrL (l.take i)).length + (wrI (l.getD i default)).length) 0) rfl rfl (List.append_nil _) (by (try simp only [↓List.length_cons, ↓List.length_nil, Nat.reduceAdd]); rfl) (by (try simp only [↓List.length_cons, ↓List.length_nil, Nat.reduceAdd]); rfl) (by (try simp (maxSteps := 1000000) only [givesF, setF, updF, Fam.zeroth, Fam.rk, Ck.rk, C.rk, E.rk, T.rk, key, List.map_cons, List.map_nil, List.cons_append, List.nil_append, List.length_cons, List.length_nil, Option.map_some, Option.bind_some, Nat.reduceAdd, Nat.zero_add, Nat.add_zero, Nat.add_sub_cancel_left, Int.toNat_natCast, reps, List.all_cons, List.all_nil, C.flat, List.append_eq, Bool.not_true, Bool.and_true, Bool.or_false, Bool.or_self, Bool.not_false, List.append_nil, Bool.and_self]); rfl) (by (repeat' (first | (refine And.intro ?_ ?_) | exact trivial | rfl | exact Nat.le_refl _ | exact (fun _ _ => rfl) | exact all_one (by rfl) | (simp only [Int.toNat_natCast, Nat.zero_add, Nat.add_zero]; done)))) ?_
      rintro v h' ⟨rfl, rfl⟩ hcaps
      refine ret_mk3 (by (try simp only [↓List.length_cons, ↓List.length_nil, Nat.reduceAdd]); rfl) (by (try simp (maxSteps := 1000000) only [givesF, setF, updF, Fam.zeroth, Fam.rk, Ck.rk, C.rk, E.rk, T.rk, key, List.map_cons, List.map_nil, List.cons_append, List.nil_append, List.length_cons, List.length_nil, Option.map_some, Option.bind_some, Nat.reduceAdd, Nat.zero_add, Nat.add_zero, Nat.add_sub_cancel_left, Int.toNat_natCast, reps, List.all_cons, List.all_nil, C.flat, List.append_eq, Bool.not_true, Bool.and_true, Bool.or_false, Bool.or_self, Bool.not_false, List.append_nil, Bool.and_self]); rfl) (by (try simp only [givesF, setF, updF, Fam.zeroth, Fam.rk, Ck.rk, C.rk, E.rk, T.rk, key, List.map_cons, List.map_nil, List.cons_append, List.nil_append, List.length_cons, List.length_nil, Option.map_some, Option.bind_some, Nat.reduceAdd, Nat.zero_add, Nat.add_zero, Nat.add_sub_cancel_left, Int.toNat_natCast, reps, List.all_cons, List.all_nil, C.flat, List.append_eq, Bool.not_true, Bool.and_true, Bool.or_false, Bool.or_self, Bool.not_false, List.append_nil, Bool.and_self]); rfl) ?_
      repeat' (first
        | ((fail_if_success (with_reducible first | apply kL | apply kC | apply kF | apply kM | refine Exists.intro ?_ ?_)); first
          | ((with_reducible refine And.intro (fun (hb : _ = true) => ?_) (fun (hb : _ = false) => ?_)) <;> (try simp only [n1, n2, n3, n4, n5, n6, n7, n8, n9, n10, n11, n12, n13, n14, n15, n16, reduceCtorEq, n17, n18, n19, n20, n21, n22] at hb) <;> (try (first | (exfalso; omega) | exact bff hb (by assumption) | exact bff (by assumption) hb)))
          | (with_reducible refine Both.mk ?_ ?_)
          | ((with_reducible refine And.intro ?_ ?_); (focus (first | rfl | omega | exact fun _ _ => rfl | assumption | (split <;> omega) | (and_intros <;> first | rfl | omega | (split <;> omega)) | (dsimp only [maxLen]; and_intros <;> omega) | (simp only [n21, n22, m9]; done) | (simp only [n21, n22, m9]; first | omega | (and_intros <;> omega)))))
          | ((with_reducible refine Or.inl ⟨?_, ?_, ?_⟩); (focus rfl); (focus (and_intros <;> first | rfl | omega)))
          | ((with_reducible refine Or.inr (Or.inl ⟨?_, ?_⟩)); focus (and_intros <;> first | rfl | omega))
          | ((with_reducible refine Or.inr (Or.inr (Or.inl ⟨?_, ?_⟩))); focus (and_intros <;> first | rfl | omega))
          | ((with_reducible refine Or.inr (Or.inr (Or.inr ⟨?_, ?_⟩))); focus (and_intros <;> first | rfl | omega))
          | (with_reducible intro hc; (try simp only [capsP, and_true] at hc); (try (exfalso; omega)))
          | ((fail_if_success (with_reducible first | refine And.intro ?_ ?_ | refine Or.inl ?_ | intro _)); (conv => whnf); (fail_if_success (fail_if_success (with_reducible first | apply kL | apply kC | apply kF | apply kM | refine Exists.intro ?_ ?_ | refine Both.mk ?_ ?_ | refine And.intro ?_ ?_ | refine Or.inl ?_ | intro _))))))
      refine ⟨⟨i + 1, by omega⟩, [0, 1], by simp only; omega, ?_⟩
      (repeat' (first | (refine And.intro ?_ ?_) | exact trivial | rfl | exact Nat.le_refl _ | exact (fun _ _ => rfl) | exact all_one (by rfl) | (simp only [Int.toNat_natCast, Nat.zero_add, Nat.add_zero]; done)))
      omega
    · have hw : wrI (l.getD i default) = venc ((l.getD i default).n % 1000) := by unfold wrI; rw [if_neg (by assumption), if_neg (by assumption), if_pos hb]
      refine CallK.mk3 (σ := [.whole 1]) (nl := []) (crSmall (mkS (wrL l)) (wrL (l.take i)).length 0 999 ha hs' (by decide)) rfl rfl (List.append_nil _) (by (try simp only [↓List.length_cons, ↓List.length_nil, Nat.reduceAdd]); rfl) (by (try simp only [↓List.length_cons, ↓List.length_nil, Nat.reduceAdd]); rfl) (by (try simp (maxSteps := 1000000) only [givesF, setF, updF, Fam.zeroth, Fam.rk, Ck.rk, C.rk, E.rk, T.rk, key, List.map_cons, List.map_nil, List.cons_append, List.nil_append, List.length_cons, List.length_nil, Option.map_some, Option.bind_some, Nat.reduceAdd, Nat.zero_add, Nat.add_zero, Nat.add_sub_cancel_left, Int.toNat_natCast, reps, List.all_cons, List.all_nil, C.flat, List.append_eq, Bool.not_true, Bool.and_true, Bool.or_false, Bool.or_self, Bool.not_false, List.append_nil, Bool.and_self]); rfl) (by (repeat' (first | (refine And.intro ?_ ?_) | exact trivial | rfl | exact Nat.le_refl _ | exact (fun _ _ => rfl) | exact all_one (by rfl) | (simp only [Int.toNat_natCast, Nat.zero_add, Nat.add_zero]; done)))) ?_
      rintro v h' ⟨rfl, rfl⟩ hcaps
      rw [rdS_at (n := (l.getD i default).n % 1000) (by omega) (by omega) (by rw [hsp, hw]), ← hw]
      have hmod : IntKind.i64.wrap (((l.getD i default).n : Int).tmod 1000) = (((l.getD i default).n % 1000 : Nat) : Int) := by
        rw [Int.tmod_eq_emod_of_nonneg (by omega), IntKind.wrap_i64]
        omega
      refine ret_mk3 (by (try simp only [↓List.length_cons, ↓List.length_nil, Nat.reduceAdd]); rfl) (by (try simp (maxSteps := 1000000) only [givesF, setF, updF, Fam.zeroth, Fam.rk, Ck.rk, C.rk, E.rk, T.rk, key, List.map_cons, List.map_nil, List.cons_append, List.nil_append, List.length_cons, List.length_nil, Option.map_some, Option.bind_some, Nat.reduceAdd, Nat.zero_add, Nat.add_zero, Nat.add_sub_cancel_left, Int.toNat_natCast, reps, List.all_cons, List.all_nil, C.flat, List.append_eq, Bool.not_true, Bool.and_true, Bool.or_false, Bool.or_self, Bool.not_false, List.append_nil, Bool.and_self]); rfl) (by (try simp only [givesF, setF, updF, Fam.zeroth, Fam.rk, Ck.rk, C.rk, E.rk, T.rk, key, List.map_cons, List.map_nil, List.cons_append, List.nil_append, List.length_cons, List.length_nil, Option.map_some, Option.bind_some, Nat.reduceAdd, Nat.zero_add, Nat.add_zero, Nat.add_sub_cancel_left, Int.toNat_natCast, reps, List.all_cons, List.all_nil, C.flat, List.append_eq, Bool.not_true, Bool.and_true, Bool.or_false, Bool.or_self, Bool.not_false, List.append_nil, Bool.and_self]); rfl) ?_
      repeat' (first
        | ((fail_if_success (with_reducible first | apply kL | apply kC | apply kF | apply kM | refine Exists.intro ?_ ?_)); first
          | ((with_reducible refine And.intro (fun (hb : _ = true) => ?_) (fun (hb : _ = false) => ?_)) <;> (try simp only [n1, n2, n3, n4, n5, n6, n7, n8, n9, n10, n11, n12, n13, n14, n15, n16, reduceCtorEq, n17, n18, n19, n20, n21, n22] at hb) <;> (try (first | (exfalso; omega) | exact bff hb (by assumption) | exact bff (by assumption) hb)))
          | (with_reducible refine Both.mk ?_ ?_)
          | ((with_reducible refine And.intro ?_ ?_); (focus (first | rfl | omega | exact fun _ _ => rfl | assumption | (split <;> omega) | (and_intros <;> first | rfl | omega | (split <;> omega)) | (dsimp only [maxLen]; and_intros <;> omega) | (simp only [n21, n22, m9]; done) | (simp only [n21, n22, m9]; first | omega | (and_intros <;> omega)))))
          | ((with_reducible refine Or.inl ⟨?_, ?_, ?_⟩); (focus rfl); (focus (and_intros <;> first | rfl | omega)))
          | ((with_reducible refine Or.inr (Or.inl ⟨?_, ?_⟩)); focus (and_intros <;> first | rfl | omega))
          | ((with_reducible refine Or.inr (Or.inr (Or.inl ⟨?_, ?_⟩))); focus (and_intros <;> first | rfl | omega))
          | ((with_reducible refine Or.inr (Or.inr (Or.inr ⟨?_, ?_⟩))); focus (and_intros <;> first | rfl | omega))
          | (with_reducible intro hc; (try simp only [capsP, and_true] at hc); (try (exfalso; omega)))
          | ((fail_if_success (with_reducible first | refine And.intro ?_ ?_ | refine Or.inl ?_ | intro _)); (conv => whnf); (fail_if_success (fail_if_success (with_reducible first | apply kL | apply kC | apply kF | apply kM | refine Exists.intro ?_ ?_ | refine Both.mk ?_ ?_ | refine And.intro ?_ ?_ | refine Or.inl ?_ | intro _))))))
      refine CallK.mk3 (σ := [.whole 1]) (nl := []) (cErr (mkS (wrL l)) ((wrL (l.take i)).length + (wrI (l.getD i default)).length) 0) rfl rfl (List.append_nil _) (by (try simp only [↓List.length_cons, ↓List.length_nil, Nat.reduceAdd]); rfl) (by (try simp only [↓List.length_cons, ↓List.length_nil, Nat.reduceAdd]); rfl) (by (try simp (maxSteps := 1000000) only [givesF, setF, updF, Fam.zeroth, Fam.rk, Ck.rk, C.rk, E.rk, T.rk, key, List.map_cons, List.map_nil, List.cons_append, List.nil_append, List.length_cons, List.length_nil, Option.map_some, Option.bind_some, Nat.reduceAdd, Nat.zero_add, Nat.add_zero, Nat.add_sub_cancel_left, Int.toNat_natCast, reps, List.all_cons, List.all_nil, C.flat, List.append_eq, Bool.not_true, Bool.and_true, Bool.or_false, Bool.or_self, Bool.not_false, List.append_nil, Bool.and_self]); rfl) (by (repeat' (first | (refine And.intro ?_ ?_) | exact trivial | rfl | exact Nat.le_refl _ | exact (fun _ _ => rfl) | exact all_one (by rfl) | (simp only [Int.toNat_natCast, Nat.zero_add, Nat.add_zero]; done)))) ?_
      rintro v h' ⟨rfl, rfl⟩ hcaps
      refine ret_mk3 (by (try simp only [↓List.length_cons, ↓List.length_nil, Nat.reduceAdd]); rfl) (by (try simp (maxSteps := 1000000) only [givesF, setF, updF, Fam.zeroth, Fam.rk, Ck.rk, C.rk, E.rk, T.rk, key, List.map_cons, List.map_nil, List.cons_append, List.nil_append, List.length_cons, List.length_nil, Option.map_some, Option.bind_some, Nat.reduceAdd, Nat.zero_add, Nat.add_zero, Nat.add_sub_cancel_left, Int.toNat_natCast, reps, List.all_cons, List.all_nil, C.flat, List.append_eq, Bool.not_true, Bool.and_true, Bool.or_false, Bool.or_self, Bool.not_false, List.append_nil, Bool.and_self]); rfl) (by (try simp only [givesF, setF, updF, Fam.zeroth, Fam.rk, Ck.rk, C.rk, E.rk, T.rk, key, List.map_cons, List.map_nil, List.cons_append, List.nil_append, List.length_cons, List.length_nil, Option.map_some, Option.bind_some, Nat.reduceAdd, Nat.zero_add, Nat.add_zero, Nat.add_sub_cancel_left, Int.toNat_natCast, reps, List.all_cons, List.all_nil, C.flat, List.append_eq, Bool.not_true, Bool.and_true, Bool.or_false, Bool.or_self, Bool.not_false, List.append_nil, Bool.and_self]); rfl) ?_
      repeat' (first
        | ((fail_if_success (with_reducible first | apply kL | apply kC | apply kF | apply kM | refine Exists.intro ?_ ?_)); first
          | ((with_reducible refine And.intro (fun (hb : _ = true) => ?_) (fun (hb : _ = false) => ?_)) <;> (try simp only [n1, n2, n3, n4, n5, n6, n7, n8, n9, n10, n11, n12, n13, n14, n15, n16, reduceCtorEq, n17, n18, n19, n20, n21, n22] at hb) <;> (try (first | (exfalso; omega) | exact bff hb (by assumption) | exact bff (by assumption) hb)))
          | (with_reducible refine Both.mk ?_ ?_)
          | ((with_reducible refine And.intro ?_ ?_); (focus (first | rfl | omega | exact fun _ _ => rfl | assumption | (split <;> omega) | (and_intros <;> first | rfl | omega | (split <;> omega)) | (dsimp only [maxLen]; and_intros <;> omega) | (simp only [n21, n22, m9]; done) | (simp only [n21, n22, m9]; first | omega | (and_intros <;> omega)))))
          | ((with_reducible refine Or.inl ⟨?_, ?_, ?_⟩); (focus rfl); (focus (and_intros <;> first | rfl | omega)))
          | ((with_reducible refine Or.inr (Or.inl ⟨?_, ?_⟩)); focus (and_intros <;> first | rfl | omega))
          | ((with_reducible refine Or.inr (Or.inr (Or.inl ⟨?_, ?_⟩))); focus (and_intros <;> first | rfl | omega))
          | ((with_reducible refine Or.inr (Or.inr (Or.inr ⟨?_, ?_⟩))); focus (and_intros <;> first | rfl | omega))
          | (with_reducible intro hc; (try simp only [capsP, and_true] at hc); (try (exfalso; omega)))
          | ((fail_if_success (with_reducible first | refine And.intro ?_ ?_ | refine Or.inl ?_ | intro _)); (conv => whnf); (fail_if_success (fail_if_success (with_reducible first | apply kL | apply kC | apply kF | apply kM | refine Exists.intro ?_ ?_ | refine Both.mk ?_ ?_ | refine And.intro ?_ ?_ | refine Or.inl ?_ | intro _))))))
      refine ⟨⟨i + 1, by omega⟩, [0, 1], by simp only; omega, ?_⟩
      (repeat' (first | (refine And.intro ?_ ?_) | exact trivial | rfl | exact Nat.le_refl _ | exact (fun _ _ => rfl) | exact all_one (by rfl) | (simp only [Int.toNat_natCast, Nat.zero_add, Nat.add_zero]; done)))
      omega
    · have hw : wrI (l.getD i default) = textL (l.getD i default).s := by unfold wrI; rw [if_neg (by assumption), if_neg (by assumption), if_neg hb]
      refine CallK.mk3 (σ := [.whole 1]) (nl := []) (crText (mkS (wrL l)) (wrL (l.take i)).length 0 100 ha hs' (by decide)) rfl rfl (List.append_nil _) (by (try simp only [↓List.length_cons, ↓List.length_nil, Nat.reduceAdd]); rfl) (by (try simp only [↓List.length_cons, ↓List.length_nil, Nat.reduceAdd]); rfl) (by (try simp (maxSteps := 1000000) only [givesF, setF, updF, Fam.zeroth, Fam.rk, Ck.rk, C.rk, E.rk, T.rk, key, List.map_cons, List.map_nil, List.cons_append, List.nil_append, List.length_cons, List.length_nil, Option.map_some, Option.bind_some, Nat.reduceAdd, Nat.zero_add, Nat.add_zero, Nat.add_sub_cancel_left, Int.toNat_natCast, reps, List.all_cons, List.all_nil, C.flat, List.append_eq, Bool.not_true, Bool.and_true, Bool.or_false, Bool.or_self, Bool.not_false, List.append_nil, Bool.and_self]); rfl) (by (repeat' (first | (refine And.intro ?_ ?_) | exact trivial | rfl | exact Nat.le_refl _ | exact (fun _ _ => rfl) | exact all_one (by rfl) | (simp only [Int.toNat_natCast, Nat.zero_add, Nat.add_zero]; done)))) ?_
      rintro v h' ⟨rfl, rfl⟩ hcaps
      rw [rdT_at (x := (l.getD i default).s) (by omega) (by omega) (by rw [hsp, hw]), ← hw]
      refine ret_mk3 (by (try simp only [↓List.length_cons, ↓List.length_nil, Nat.reduceAdd]); rfl) (by (try simp (maxSteps := 1000000) only [givesF, setF, updF, Fam.zeroth, Fam.rk, Ck.rk, C.rk, E.rk, T.rk, key, List.map_cons, List.map_nil, List.cons_append, List.nil_append, List.length_cons, List.length_nil, Option.map_some, Option.bind_some, Nat.reduceAdd, Nat.zero_add, Nat.add_zero, Nat.add_sub_cancel_left, Int.toNat_natCast, reps, List.all_cons, List.all_nil, C.flat, List.append_eq, Bool.not_true, Bool.and_true, Bool.or_false, Bool.or_self, Bool.not_false, List.append_nil, Bool.and_self]); rfl) (by (try simp only [givesF, setF, updF, Fam.zeroth, Fam.rk, Ck.rk, C.rk, E.rk, T.rk, key, List.map_cons, List.map_nil, List.cons_append, List.nil_append, List.length_cons, List.length_nil, Option.map_some, Option.bind_some, Nat.reduceAdd, Nat.zero_add, Nat.add_zero, Nat.add_sub_cancel_left, Int.toNat_natCast, reps, List.all_cons, List.all_nil, C.flat, List.append_eq, Bool.not_true, Bool.and_true, Bool.or_false, Bool.or_self, Bool.not_false, List.append_nil, Bool.and_self]); rfl) ?_
      repeat' (first
        | ((fail_if_success (with_reducible first | apply kL | apply kC | apply kF | apply kM | refine Exists.intro ?_ ?_)); first
          | ((with_reducible refine And.intro (fun (hb : _ = true) => ?_) (fun (hb : _ = false) => ?_)) <;> (try simp only [n1, n2, n3, n4, n5, n6, n7, n8, n9, n10, n11, n12, n13, n14, n15, n16, reduceCtorEq, n17, n18, n19, n20, n21, n22] at hb) <;> (try (first | (exfalso; omega) | exact bff hb (by assumption) | exact bff (by assumption) hb)))
          | (with_reducible refine Both.mk ?_ ?_)
          | ((with_reducible refine And.intro ?_ ?_); (focus (first | rfl | omega | exact fun _ _ => rfl | assumption | (split <;> omega) | (and_intros <;> first | rfl | omega | (split <;> omega)) | (dsimp only [maxLen]; and_intros <;> omega) | (simp only [n21, n22, m9]; done) | (simp only [n21, n22, m9]; first | omega | (and_intros <;> omega)))))
          | ((with_reducible refine Or.inl ⟨?_, ?_, ?_⟩); (focus rfl); (focus (and_intros <;> first | rfl | omega)))
          | ((with_reducible refine Or.inr (Or.inl ⟨?_, ?_⟩)); focus (and_intros <;> first | rfl | omega))
          | ((with_reducible refine Or.inr (Or.inr (Or.inl ⟨?_, ?_⟩))); focus (and_intros <;> first | rfl | omega))
          | ((with_reducible refine Or.inr (Or.inr (Or.inr ⟨?_, ?_⟩))); focus (and_intros <;> first | rfl | omega))
          | (with_reducible intro hc; (try simp only [capsP, and_true] at hc); (try (exfalso; omega)))
          | ((fail_if_success (with_reducible first | refine And.intro ?_ ?_ | refine Or.inl ?_ | intro _)); (conv => whnf); (fail_if_success (fail_if_success (with_reducible first | apply kL | apply kC | apply kF | apply kM | refine Exists.intro ?_ ?_ | refine Both.mk ?_ ?_ | refine And.intro ?_ ?_ | refine Or.inl ?_ | intro _))))))
      refine CallK.mk3 (σ := [.whole 1]) (nl := []) (cErr (mkS (wrL l)) ((wrL (l.take i)).length + (wrI (l.getD i default)).length) 0) rfl rfl (List.append_nil _) (by (try simp only [↓List.length_cons, ↓List.length_nil, Nat.reduceAdd]); rfl) (by (try simp only [↓List.length_cons, ↓List.length_nil, Nat.reduceAdd]); rfl) (by (try simp (maxSteps := 1000000) only [givesF, setF, updF, Fam.zeroth, Fam.rk, Ck.rk, C.rk, E.rk, T.rk, key, List.map_cons, List.map_nil, List.cons_append, List.nil_append, List.length_cons, List.length_nil, Option.map_some, Option.bind_some, Nat.reduceAdd, Nat.zero_add, Nat.add_zero, Nat.add_sub_cancel_left, Int.toNat_natCast, reps, List.all_cons, List.all_nil, C.flat, List.append_eq, Bool.not_true, Bool.and_true, Bool.or_false, Bool.or_self, Bool.not_false, List.append_nil, Bool.and_self]); rfl) (by (repeat' (first | (refine And.intro ?_ ?_) | exact trivial | rfl | exact Nat.le_refl _ | exact (fun _ _ => rfl) | exact all_one (by rfl) | (simp only [Int.toNat_natCast, Nat.zero_add, Nat.add_zero]; done)))) ?_
      rintro v h' ⟨rfl, rfl⟩ hcaps
      refine ret_mk3 (by (try simp only [↓List.length_cons, ↓List.length_nil, Nat.reduceAdd]); rfl) (by (try simp (maxSteps := 1000000) only [givesF, setF, updF, Fam.zeroth, Fam.rk, Ck.rk, C.rk, E.rk, T.rk, key, List.map_cons, List.map_nil, List.cons_append, List.nil_append, List.length_cons, List.length_nil, Option.map_some, Option.bind_some, Nat.reduceAdd, Nat.zero_add, Nat.add_zero, Nat.add_sub_cancel_left, Int.toNat_natCast, reps, List.all_cons, List.all_nil, C.flat, List.append_eq, Bool.not_true, Bool.and_true, Bool.or_false, Bool.or_self, Bool.not_false, List.append_nil, Bool.and_self]); rfl) (by (try simp only [givesF, setF, updF, Fam.zeroth, Fam.rk, Ck.rk, C.rk, E.rk, T.rk, key, List.map_cons, List.map_nil, List.cons_append, List.nil_append, List.length_cons, List.length_nil, Option.map_some, Option.bind_some, Nat.reduceAdd, Nat.zero_add, Nat.add_zero, Nat.add_sub_cancel_left, Int.toNat_natCast, reps, List.all_cons, List.all_nil, C.flat, List.append_eq, Bool.not_true, Bool.and_true, Bool.or_false, Bool.or_self, Bool.not_false, List.append_nil, Bool.and_self]); rfl) ?_
      repeat' (first
        | ((fail_if_success (with_reducible first | apply kL | apply kC | apply kF | apply kM | refine Exists.intro ?_ ?_)); first
          | ((with_reducible refine And.intro (fun (hb : _ = true) => ?_) (fun (hb : _ = false) => ?_)) <;> (try simp only [n1, n2, n3, n4, n5, n6, n7, n8, n9, n10, n11, n12, n13, n14, n15, n16, reduceCtorEq, n17, n18, n19, n20, n21, n22] at hb) <;> (try (first | (exfalso; omega) | exact bff hb (by assumption) | exact bff (by assumption) hb)))
          | (with_reducible refine Both.mk ?_ ?_)
          | ((with_reducible refine And.intro ?_ ?_); (focus (first | rfl | omega | exact fun _ _ => rfl | assumption | (split <;> omega) | (and_intros <;> first | rfl | omega | (split <;> omega)) | (dsimp only [maxLen]; and_intros <;> omega) | (simp only [n21, n22, m9]; done) | (simp only [n21, n22, m9]; first | omega | (and_intros <;> omega)))))
          | ((with_reducible refine Or.inl ⟨?_, ?_, ?_⟩); (focus rfl); (focus (and_intros <;> first | rfl | omega)))
          | ((with_reducible refine Or.inr (Or.inl ⟨?_, ?_⟩)); focus (and_intros <;> first | rfl | omega))
          | ((with_reducible refine Or.inr (Or.inr (Or.inl ⟨?_, ?_⟩))); focus (and_intros <;> first | rfl | omega))
          | ((with_reducible refine Or.inr (Or.inr (Or.inr ⟨?_, ?_⟩))); focus (and_intros <;> first | rfl | omega))
          | (with_reducible intro hc; (try simp only [capsP, and_true] at hc); (try (exfalso; omega)))
          | ((fail_if_success (with_reducible first | refine And.intro ?_ ?_ | refine Or.inl ?_ | intro _)); (conv => whnf); (fail_if_success (fail_if_success (with_reducible first | apply kL | apply kC | apply kF | apply kM | refine Exists.intro ?_ ?_ | refine Both.mk ?_ ?_ | refine And.intro ?_ ?_ | refine Or.inl ?_ | intro _))))))
      refine ⟨⟨i + 1, by omega⟩, [0, 1], by simp only; omega, ?_⟩
      (repeat' (first | (refine And.intro ?_ ?_) | exact trivial | rfl | exact Nat.le_refl _ | exact (fun _ _ => rfl) | exact all_one (by rfl) | (simp only [Int.toNat_natCast, Nat.zero_add, Nat.add_zero]; done)))
      omega
  · skip
    repeat' (first
      | ((fail_if_success (with_reducible first | apply kL | apply kC | apply kF | apply kM | refine Exists.intro ?_ ?_)); first
        | ((with_reducible refine And.intro (fun (hb : _ = true) => ?_) (fun (hb : _ = false) => ?_)) <;> (try simp only [n1, n2, n3, n4, n5, n6, n7, n8, n9, n10, n11, n12, n13, n14, n15, n16, reduceCtorEq, n17, n18, n19, n20, n21, n22] at hb) <;> (try (first | (exfalso; omega) | exact bff hb (by assumption) | exact bff (by assumption) hb)))
        | (with_reducible refine Both.mk ?_ ?_)
        | ((with_reducible refine And.intro ?_ ?_); (focus (first | rfl | omega | exact fun _ _ => rfl | assumption | (split <;> omega) | (and_intros <;> first | rfl | omega | (split <;> omega)) | (dsimp only [maxLen]; and_intros <;> omega) | (simp only [n21, n22, m9]; done) | (simp only [n21, n22, m9]; first | omega | (and_intros <;> omega)))))
        | ((with_reducible refine Or.inl ⟨?_, ?_, ?_⟩); (focus rfl); (focus (and_intros <;> first | rfl | omega)))
        | ((with_reducible refine Or.inr (Or.inl ⟨?_, ?_⟩)); focus (and_intros <;> first | rfl | omega))
        | ((with_reducible refine Or.inr (Or.inr (Or.inl ⟨?_, ?_⟩))); focus (and_intros <;> first | rfl | omega))
        | ((with_reducible refine Or.inr (Or.inr (Or.inr ⟨?_, ?_⟩))); focus (and_intros <;> first | rfl | omega))
        | (with_reducible intro hc; (try simp only [capsP, and_true] at hc); (try (exfalso; omega)))
        | ((fail_if_success (with_reducible first | refine And.intro ?_ ?_ | refine Or.inl ?_ | intro _)); (conv => whnf); (fail_if_success (fail_if_success (with_reducible first | apply kL | apply kC | apply kF | apply kM | refine Exists.intro ?_ ?_ | refine Both.mk ?_ ?_ | refine And.intro ?_ ?_ | refine Or.inl ?_ | intro _))))))
    have hap : (wrL (l.take i)).length = (mkS (wrL l)).size := by rw [List.take_of_length_le (by omega), mkS_size]
    refine CallK.mk3 (σ := [.whole 1]) (nl := []) (cLeft (mkS (wrL l)) (wrL (l.take i)).length 0 ha hs') rfl rfl (List.append_nil _) (by (try simp only [↓List.length_cons, ↓List.length_nil, Nat.reduceAdd]); rfl) (by (try simp only [↓List.length_cons, ↓List.length_nil, Nat.reduceAdd]); rfl) (by (try simp (maxSteps := 1000000) only [givesF, setF, updF, Fam.zeroth, Fam.rk, Ck.rk, C.rk, E.rk, T.rk, key, List.map_cons, List.map_nil, List.cons_append, List.nil_append, List.length_cons, List.length_nil, Option.map_some, Option.bind_some, Nat.reduceAdd, Nat.zero_add, Nat.add_zero, Nat.add_sub_cancel_left, Int.toNat_natCast, reps, List.all_cons, List.all_nil, C.flat, List.append_eq, Bool.not_true, Bool.and_true, Bool.or_false, Bool.or_self, Bool.not_false, List.append_nil, Bool.and_self]); rfl) (by (repeat' (first | (refine And.intro ?_ ?_) | exact trivial | rfl | exact Nat.le_refl _ | exact (fun _ _ => rfl) | exact all_one (by rfl) | (simp only [Int.toNat_natCast, Nat.zero_add, Nat.add_zero]; done)))) ?_
    rintro v h' ⟨rfl, rfl⟩ hcaps
    refine ret_mk3 (by (try simp only [↓List.length_cons, ↓List.length_nil, Nat.reduceAdd]); rfl) (by (try simp (maxSteps := 1000000) only [givesF, setF, updF, Fam.zeroth, Fam.rk, Ck.rk, C.rk, E.rk, T.rk, key, List.map_cons, List.map_nil, List.cons_append, List.nil_append, List.length_cons, List.length_nil, Option.map_some, Option.bind_some, Nat.reduceAdd, Nat.zero_add, Nat.add_zero, Nat.add_sub_cancel_left, Int.toNat_natCast, reps, List.all_cons, List.all_nil, C.flat, List.append_eq, Bool.not_true, Bool.and_true, Bool.or_false, Bool.or_self, Bool.not_false, List.append_nil, Bool.and_self]); rfl) (by (try simp only [givesF, setF, updF, Fam.zeroth, Fam.rk, Ck.rk, C.rk, E.rk, T.rk, key, List.map_cons, List.map_nil, List.cons_append, List.nil_append, List.length_cons, List.length_nil, Option.map_some, Option.bind_some, Nat.reduceAdd, Nat.zero_add, Nat.add_zero, Nat.add_sub_cancel_left, Int.toNat_natCast, reps, List.all_cons, List.all_nil, C.flat, List.append_eq, Bool.not_true, Bool.and_true, Bool.or_false, Bool.or_self, Bool.not_false, List.append_nil, Bool.and_self]); rfl) ?_
    repeat' (first
      | ((fail_if_success (with_reducible first | apply kL | apply kC | apply kF | apply kM | refine Exists.intro ?_ ?_)); first
        | ((with_reducible refine And.intro (fun (hb : _ = true) => ?_) (fun (hb : _ = false) => ?_)) <;> (try simp only [n1, n2, n3, n4, n5, n6, n7, n8, n9, n10, n11, n12, n13, n14, n15, n16, reduceCtorEq, n17, n18, n19, n20, n21, n22] at hb) <;> (try (first | (exfalso; omega) | exact bff hb (by assumption) | exact bff (by assumption) hb)))
        | (with_reducible refine Both.mk ?_ ?_)
        | ((with_reducible refine And.intro ?_ ?_); (focus (first | rfl | omega | exact fun _ _ => rfl | assumption | (split <;> omega) | (and_intros <;> first | rfl | omega | (split <;> omega)) | (dsimp only [maxLen]; and_intros <;> omega) | (simp only [n21, n22, m9]; done) | (simp only [n21, n22, m9]; first | omega | (and_intros <;> omega)))))
        | ((with_reducible refine Or.inl ⟨?_, ?_, ?_⟩); (focus rfl); (focus (and_intros <;> first | rfl | omega)))
        | ((with_reducible refine Or.inr (Or.inl ⟨?_, ?_⟩)); focus (and_intros <;> first | rfl | omega))
        | ((with_reducible refine Or.inr (Or.inr (Or.inl ⟨?_, ?_⟩))); focus (and_intros <;> first | rfl | omega))
        | ((with_reducible refine Or.inr (Or.inr (Or.inr ⟨?_, ?_⟩))); focus (and_intros <;> first | rfl | omega))
        | (with_reducible intro hc; (try simp only [capsP, and_true] at hc); (try (exfalso; omega)))
        | ((fail_if_success (with_reducible first | refine And.intro ?_ ?_ | refine Or.inl ?_ | intro _)); (conv => whnf); (fail_if_success (fail_if_success (with_reducible first | apply kL | apply kC | apply kF | apply kM | refine Exists.intro ?_ ?_ | refine Both.mk ?_ ?_ | refine And.intro ?_ ?_ | refine Or.inl ?_ | intro _))))))
    refine CallK.mk3 (σ := [.whole 1]) (nl := []) (cEnd (mkS (wrL l)) (wrL (l.take i)).length 0 ha hs') rfl rfl (List.append_nil _) (by (try simp only [↓List.length_cons, ↓List.length_nil, Nat.reduceAdd]); rfl) (by (try simp only [↓List.length_cons, ↓List.length_nil, Nat.reduceAdd]); rfl) (by (try simp (maxSteps := 1000000) only [givesF, setF, updF, Fam.zeroth, Fam.rk, Ck.rk, C.rk, E.rk, T.rk, key, List.map_cons, List.map_nil, List.cons_append, List.nil_append, List.length_cons, List.length_nil, Option.map_some, Option.bind_some, Nat.reduceAdd, Nat.zero_add, Nat.add_zero, Nat.add_sub_cancel_left, Int.toNat_natCast, reps, List.all_cons, List.all_nil, C.flat, List.append_eq, Bool.not_true, Bool.and_true, Bool.or_false, Bool.or_self, Bool.not_false, List.append_nil, Bool.and_self]); rfl) (by (repeat' (first | (refine And.intro ?_ ?_) | exact trivial | rfl | exact Nat.le_refl _ | exact (fun _ _ => rfl) | exact all_one (by rfl) | (simp only [Int.toNat_natCast, Nat.zero_add, Nat.add_zero]; done)))) ?_
    rintro v h' ⟨rfl, rfl⟩ hcaps
    rw [show endV (mkS (wrL l)) (wrL (l.take i)).length 0 = 0 by unfold endV; rw [if_pos rfl, if_neg (by omega)]]
    refine ret_mk3 (by (try simp only [↓List.length_cons, ↓List.length_nil, Nat.reduceAdd]); rfl) (by (try simp (maxSteps := 1000000) only [givesF, setF, updF, Fam.zeroth, Fam.rk, Ck.rk, C.rk, E.rk, T.rk, key, List.map_cons, List.map_nil, List.cons_append, List.nil_append, List.length_cons, List.length_nil, Option.map_some, Option.bind_some, Nat.reduceAdd, Nat.zero_add, Nat.add_zero, Nat.add_sub_cancel_left, Int.toNat_natCast, reps, List.all_cons, List.all_nil, C.flat, List.append_eq, Bool.not_true, Bool.and_true, Bool.or_false, Bool.or_self, Bool.not_false, List.append_nil, Bool.and_self]); rfl) (by (try simp only [givesF, setF, updF, Fam.zeroth, Fam.rk, Ck.rk, C.rk, E.rk, T.rk, key, List.map_cons, List.map_nil, List.cons_append, List.nil_append, List.length_cons, List.length_nil, Option.map_some, Option.bind_some, Nat.reduceAdd, Nat.zero_add, Nat.add_zero, Nat.add_sub_cancel_left, Int.toNat_natCast, reps, List.all_cons, List.all_nil, C.flat, List.append_eq, Bool.not_true, Bool.and_true, Bool.or_false, Bool.or_self, Bool.not_false, List.append_nil, Bool.and_self]); rfl) ?_
    repeat' (first
      | ((fail_if_success (with_reducible first | apply kL | apply kC | apply kF | apply kM | refine Exists.intro ?_ ?_)); first
        | ((with_reducible refine And.intro (fun (hb : _ = true) => ?_) (fun (hb : _ = false) => ?_)) <;> (try simp only [n1, n2, n3, n4, n5, n6, n7, n8, n9, n10, n11, n12, n13, n14, n15, n16, reduceCtorEq, n17, n18, n19, n20, n21, n22] at hb) <;> (try (first | (exfalso; omega) | exact bff hb (by assumption) | exact bff (by assumption) hb)))
        | (with_reducible refine Both.mk ?_ ?_)
        | ((with_reducible refine And.intro ?_ ?_); (focus (first | rfl | omega | exact fun _ _ => rfl | assumption | (split <;> omega) | (and_intros <;> first | rfl | omega | (split <;> omega)) | (dsimp only [maxLen]; and_intros <;> omega) | (simp only [n21, n22, m9]; done) | (simp only [n21, n22, m9]; first | omega | (and_intros <;> omega)))))
        | ((with_reducible refine Or.inl ⟨?_, ?_, ?_⟩); (focus rfl); (focus (and_intros <;> first | rfl | omega)))
        | ((with_reducible refine Or.inr (Or.inl ⟨?_, ?_⟩)); focus (and_intros <;> first | rfl | omega))
        | ((with_reducible refine Or.inr (Or.inr (Or.inl ⟨?_, ?_⟩))); focus (and_intros <;> first | rfl | omega))
        | ((with_reducible refine Or.inr (Or.inr (Or.inr ⟨?_, ?_⟩))); focus (and_intros <;> first | rfl | omega))
        | (with_reducible intro hc; (try simp only [capsP, and_true] at hc); (try (exfalso; omega)))
        | ((fail_if_success (with_reducible first | refine And.intro ?_ ?_ | refine Or.inl ?_ | intro _)); (conv => whnf); (fail_if_success (fail_if_success (with_reducible first | apply kL | apply kC | apply kF | apply kM | refine Exists.intro ?_ ?_ | refine Both.mk ?_ ?_ | refine And.intro ?_ ?_ | refine Or.inl ?_ | intro _))))))
    refine CallK.mk3 (σ := []) (nl := []) (cawake) rfl rfl (List.append_nil _) (by (try simp only [↓List.length_cons, ↓List.length_nil, Nat.reduceAdd]); rfl) (by (try simp only [↓List.length_cons, ↓List.length_nil, Nat.reduceAdd]); rfl) (by (try simp (maxSteps := 1000000) only [givesF, setF, updF, Fam.zeroth, Fam.rk, Ck.rk, C.rk, E.rk, T.rk, key, List.map_cons, List.map_nil, List.cons_append, List.nil_append, List.length_cons, List.length_nil, Option.map_some, Option.bind_some, Nat.reduceAdd, Nat.zero_add, Nat.add_zero, Nat.add_sub_cancel_left, Int.toNat_natCast, reps, List.all_cons, List.all_nil, C.flat, List.append_eq, Bool.not_true, Bool.and_true, Bool.or_false, Bool.or_self, Bool.not_false, List.append_nil, Bool.and_self]); rfl) (by (repeat' (first | (refine And.intro ?_ ?_) | exact trivial | rfl | exact Nat.le_refl _ | exact (fun _ _ => rfl) | exact all_one (by rfl) | (simp only [Int.toNat_natCast, Nat.zero_add, Nat.add_zero]; done)))) ?_
    rintro v h' ⟨rfl, rfl⟩ hcaps
    refine ret_mk3 (by (try simp only [↓List.length_cons, ↓List.length_nil, Nat.reduceAdd]); rfl) (by (try simp (maxSteps := 1000000) only [givesF, setF, updF, Fam.zeroth, Fam.rk, Ck.rk, C.rk, E.rk, T.rk, key, List.map_cons, List.map_nil, List.cons_append, List.nil_append, List.length_cons, List.length_nil, Option.map_some, Option.bind_some, Nat.reduceAdd, Nat.zero_add, Nat.add_zero, Nat.add_sub_cancel_left, Int.toNat_natCast, reps, List.all_cons, List.all_nil, C.flat, List.append_eq, Bool.not_true, Bool.and_true, Bool.or_false, Bool.or_self, Bool.not_false, List.append_nil, Bool.and_self]); rfl) (by (try simp only [givesF, setF, updF, Fam.zeroth, Fam.rk, Ck.rk, C.rk, E.rk, T.rk, key, List.map_cons, List.map_nil, List.cons_append, List.nil_append, List.length_cons, List.length_nil, Option.map_some, Option.bind_some, Nat.reduceAdd, Nat.zero_add, Nat.add_zero, Nat.add_sub_cancel_left, Int.toNat_natCast, reps, List.all_cons, List.all_nil, C.flat, List.append_eq, Bool.not_true, Bool.and_true, Bool.or_false, Bool.or_self, Bool.not_false, List.append_nil, Bool.and_self]); rfl) ?_
    repeat' (first
      | ((fail_if_success (with_reducible first | apply kL | apply kC | apply kF | apply kM | refine Exists.intro ?_ ?_)); first
        | ((with_reducible refine And.intro (fun (hb : _ = true) => ?_) (fun (hb : _ = false) => ?_)) <;> (try simp only [n1, n2, n3, n4, n5, n6, n7, n8, n9, n10, n11, n12, n13, n14, n15, n16, reduceCtorEq, n17, n18, n19, n20, n21, n22] at hb) <;> (try (first | (exfalso; omega) | exact bff hb (by assumption) | exact bff (by assumption) hb)))
        | (with_reducible refine Both.mk ?_ ?_)
        | ((with_reducible refine And.intro ?_ ?_); (focus (first | rfl | omega | exact fun _ _ => rfl | assumption | (split <;> omega) | (and_intros <;> first | rfl | omega | (split <;> omega)) | (dsimp only [maxLen]; and_intros <;> omega) | (simp only [n21, n22, m9]; done) | (simp only [n21, n22, m9]; first | omega | (and_intros <;> omega)))))
        | ((with_reducible refine Or.inl ⟨?_, ?_, ?_⟩); (focus rfl); (focus (and_intros <;> first | rfl | omega)))
        | ((with_reducible refine Or.inr (Or.inl ⟨?_, ?_⟩)); focus (and_intros <;> first | rfl | omega))
        | ((with_reducible refine Or.inr (Or.inr (Or.inl ⟨?_, ?_⟩))); focus (and_intros <;> first | rfl | omega))
        | ((with_reducible refine Or.inr (Or.inr (Or.inr ⟨?_, ?_⟩))); focus (and_intros <;> first | rfl | omega))
        | (with_reducible intro hc; (try simp only [capsP, and_true] at hc); (try (exfalso; omega)))
        | ((fail_if_success (with_reducible first | refine And.intro ?_ ?_ | refine Or.inl ?_ | intro _)); (conv => whnf); (fail_if_success (fail_if_success (with_reducible first | apply kL | apply kC | apply kF | apply kM | refine Exists.intro ?_ ?_ | refine Both.mk ?_ ?_ | refine And.intro ?_ ?_ | refine Or.inl ?_ | intro _))))))
    refine FinK.mk ⟨[0], _, [.one .no], rfl, ?_⟩
    (repeat' (first | (refine And.intro ?_ ?_) | exact trivial | rfl | exact Nat.le_refl _ | exact (fun _ _ => rfl) | exact all_one (by rfl) | (simp only [Int.toNat_natCast, Nat.zero_add, Nat.add_zero]; done)))
end Go.Proofs.Ythadbaknlipacaa

namespace Go.Proofs.Ythadbaknlipacaa
open Go.X Go.RowKit
set_option linter.unusedVariables false
abbrev kRq : List K := [.i .i64, .i .i64]
theorem ft_Rq {l : List C} (h : FT kRq l) : ∃ x : Rq, l = encRq x ∧ x.m ≤ 9223372036854775807 := by
  obtain ⟨a, _, rfl, _, h1⟩ := FT_i h
  obtain ⟨b, _, rfl, hb, h2⟩ := FT_i h1
  obtain rfl := FT_nil h2
  exact ⟨⟨a, b⟩, rfl, hb.2⟩
abbrev kIt : List K := [.i .i64, .i .u64, .i .i64, .s]
theorem ft_It {l : List C} (h : FT kIt l) : ∃ x : It, l = encIt x ∧ x.Ok := by
  obtain ⟨a, _, rfl, _, h1⟩ := FT_i h
  obtain ⟨b, _, rfl, hb, h2⟩ := FT_i h1
  obtain ⟨m, _, rfl, hm, h3⟩ := FT_i h2
  obtain ⟨s, _, rfl, hs, h4⟩ := FT_s h3
  obtain rfl := FT_nil h4
  have hb1 : 0 ≤ b := hb.1
  have hb2 : b ≤ 18446744073709551615 := hb.2
  refine ⟨⟨a, b.toNat, m, s.data.toList⟩, ?_, ?_, hm.1, hm.2, ?_⟩
  · unfold encIt
    rw [mkS_of, Int.toNat_of_nonneg hb1]
  · show b.toNat < 18446744073709551616
    omega
  · show s.data.toList.length ≤ _
    rw [P4.size_len]; omega
theorem fits_one {W : World} {A : Nat × Nat × Fl} {ck : Ck} (h : ∀ β, ck.holds β W A) (ho : ck.owned = false) : Fits (nmL [A]) [.one ck] W ∧ ∀ f x, (get [.one ck] f x).owned = false := by
  have hno := get_ones_own (h := [ck]) (by intro q hq; rw [List.mem_singleton.1 hq]; exact ho)
  exact ⟨fits_read (get_ones (h := [ck]) (fun f q hf => by
    match f, hf with
    | 0, hf => cases hf; exact h _
    | f + 1, hf => simp at hf)) hno, hno⟩
theorem walk_WireReads (W : World) (a0 : ByteArray) (s0 : a0.size ≤ 140737488351232) (v1 : Value) (k1 : VK W (.sl kRq) v1) (e1 : ∀ a n c, v1 = .slice (some a) n c → a.spot = none) :
    Calls Try.prog 6 #[.string a0, v1] W fun e W' => e = .returned (.bool true) ∧ Below W.heap.size W W' := by
  obtain ⟨A, n, c, g, hv, hh, hn, hc, hnc, hg⟩ := row_view (by rfl) k1 e1
  obtain ⟨l, hl, hge, hp⟩ := list_of encRq (Pr := fun x => x.m ≤ 9223372036854775807) (fun i hi => ft_Rq (hg i hi))
  subst hl
  obtain ⟨hf, hno⟩ := fits_one (ck := rqR l c) (fun β => holds_row_congr (hh β 42) hge) rfl
  have hv' : C.ren (nmL [A]) (C.sl 0 0 2 0 l.length c) = v1 := hv (nmL [A]) 0 0 rfl
  have := glue (creads a0 l c (Nat.le_trans hn (by decide)) (by omega) hp) hf hno
  simp only [List.map_cons, List.map_nil, T.ren, hv', show C.ren (nmL [A]) (.s a0) = .string a0 from rfl] at this
  exact this
theorem walk_WireStops (W : World) (a0 : ByteArray) (s0 : a0.size ≤ 140737488351232) (a1 : Int) (w1 : (Lit.int .i64 a1).wf = true) (v1 : Value) (k1 : VK W (.sl kRq) v1) (e1 : ∀ a n c, v1 = .slice (some a) n c → a.spot = none) :
    Calls Try.prog 8 #[.string a0, .int .i64 a1, v1] W fun e W' => e = .returned (.bool true) ∧ Below W.heap.size W W' := by
  obtain ⟨A, n, c, g, hv, hh, hn, hc, hnc, hg⟩ := row_view (by rfl) k1 e1
  obtain ⟨l, hl, hge, hp⟩ := list_of encRq (Pr := fun x => x.m ≤ 9223372036854775807) (fun i hi => ft_Rq (hg i hi))
  subst hl
  obtain ⟨hf, hno⟩ := fits_one (ck := rqR l c) (fun β => holds_row_congr (hh β 42) hge) rfl
  have hw : a1 ≤ 9223372036854775807 := by
    simp only [Lit.wf, Bool.and_eq_true, decide_eq_true_eq] at w1
    exact w1.2
  have hv' : C.ren (nmL [A]) (C.sl 0 0 2 0 l.length c) = v1 := hv (nmL [A]) 0 0 rfl
  have := glue (cstops a0 a1 l c (Nat.le_trans hn (by decide)) (by omega) hw hp) hf hno
  simp only [List.map_cons, List.map_nil, T.ren, hv', show C.ren (nmL [A]) (.s a0) = .string a0 from rfl, show C.ren (nmL [A]) (.i .i64 a1) = .int .i64 a1 from rfl] at this
  exact this
theorem walk_WireRoundTrip (W : World) (v0 : Value) (k0 : VK W (.sl kIt) v0) (e0 : ∀ a n c, v0 = .slice (some a) n c → a.spot = none) :
    Calls Try.prog 7 #[v0] W fun e W' => e = .returned (.bool true) ∧ Below W.heap.size W W' := by
  obtain ⟨A, n, c, g, hv, hh, hn, hc, hnc, hg⟩ := row_view (by rfl) k0 e0
  obtain ⟨l, hl, hge, hp⟩ := list_of encIt (Pr := It.Ok) (fun i hi => ft_It (hg i hi))
  subst hl
  obtain ⟨hf, hno⟩ := fits_one (ck := itR l c) (fun β => holds_row_congr (hh β 57) hge) rfl
  have hv' : C.ren (nmL [A]) (C.sl 0 0 4 0 l.length c) = v0 := hv (nmL [A]) 0 0 rfl
  have := glue (cround l c (Nat.le_trans hn (by decide)) hp) hf hno
  simp only [List.map_cons, List.map_nil, T.ren, hv'] at this
  exact this
end Go.Proofs.Ythadbaknlipacaa
