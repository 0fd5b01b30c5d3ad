/- Part 6 of the texts that a walk of this program rests on: an abstract machine, its soundness, contracts of functions. No statement of the seat is proved in this file. -/
import Derived.Test.YtgcofipbdidhmaaZ5
namespace Go.Proofs.Ytgcofipbdidhmaa
open Go.X
set_option linter.unusedSimpArgs false
set_option linter.unusedVariables false

def hbP : Pkt := ⟨2, 0, 0, 1, 0, 0, 1, 4, 0, ⟨#[]⟩⟩
def gpP : Pkt := ⟨4, 0, 0, 1, 0, 1, 4, 4, 0, ⟨#[]⟩⟩
def A0 : Rd := RdJ relQ
def A1 : Rd := recvR relQ (dataP 1) A0
def A2 : Rd := recvR relQ (dataP 3) A1
def A3 : Rd := recvR relQ hbP A2
def A4 : Rd := recvR relQ (dataP 2) A3
def A5 : Rd := recvR relQ gpP A4
theorem relQ_ok : okQ relQ := by unfold okQ okT relQ; simp
theorem A0_I : RdI A0 0 := RdJ_I _
theorem A1_I : RdI A1 1000 := recv_I A0_I
theorem A2_I : RdI A2 2000 := recv_I A1_I
theorem A3_I : RdI A3 3000 := recv_I A2_I
theorem A4_I : RdI A4 4000 := recv_I A3_I
theorem A5_I : RdI A5 5000 := recv_I A4_I
theorem a1 : recvE (dataP 1) A0 = 0 := by decide
theorem a2 : recvE (dataP 3) A1 = 0 := by decide
theorem a3 : recvE hbP A2 = 0 := by decide
theorem a4 : recvE (dataP 2) A3 = 0 := by decide
theorem a5 : recvE gpP A4 = 0 := by decide
theorem a6 : A2.exp 1 = 2 := by decide
theorem a7 : A4.exp 1 = 4 := by decide
def ackA : Pkt × List Int := (⟨3, 0, 3, 1, 9, 0, 2, 4, 7, ⟨#[]⟩⟩, [2, 4])
theorem a8 : recvA 9 relQ hbP 7 A2 = some ackA := by decide
theorem a9 : A5.ls = [(1, 4)] := by decide
theorem a10 : A5.l.length = 3 := by decide
theorem a11 : (restF A5.l (tkN A5.l 2)).length = 1 := by decide
theorem a12 : A5.exp 1 = 5 := by decide
theorem a13 : (A5.l.take (tkN A5.l 2)).length = 2 := by decide
def A6 : Rd := ⟨restF A5.l (tkN A5.l 2), [], A5.M, A5.ck, A5.D⟩
theorem A6_ok : RdOk A6 := ⟨A5_I.ok.a, A5_I.ok.b⟩
theorem a14 : A6.exp 1 = 5 := by decide

set_option maxRecDepth 20000 in
set_option maxHeartbeats 8000000 in
theorem cawake : Ctr Try.prog 13 [] [] fun v h => v = .c .tt ∧ h = [] := by
  refine Ctr.mk' tbv mixed Try.func13 rfl rfl rfl (fun _ _ => by kernel_rfl) (by kernel_rfl) (by rfl) (by rfl) (by (repeat' (first | (refine And.intro ?_ ?_) | exact trivial | rfl | exact Nat.le_refl _ | exact (fun _ _ => rfl) | exact all_one (by rfl) | (simp only [Int.toNat_natCast, Nat.zero_add, Nat.add_zero]; done)))) ?_
  repeat' (first
    | ((fail_if_success (with_reducible first | apply kL | apply kC | apply kF | apply kM | refine Exists.intro ?_ ?_)); first
      | ((with_reducible refine And.intro (fun (hb : _ = true) => ?_) (fun (hb : _ = false) => ?_)) <;> (try simp only [n1, n2, n3, n4, n5, n6, n7, n8, n9, n10, n11, n12, n13, n14, n15, n16, reduceCtorEq, n17, n18, n19, n20, n21, n22] at hb) <;> (try (first | (exfalso; omega) | exact bff hb (by assumption) | exact bff (by assumption) hb)))
      | (with_reducible refine Both.mk ?_ ?_)
      | ((with_reducible refine And.intro ?_ ?_); (focus (first | rfl | omega | exact fun _ _ => rfl | assumption | (split <;> omega) | (and_intros <;> first | rfl | omega | (split <;> omega)) | (dsimp only [maxLen]; and_intros <;> omega) | (simp only [n21, n22, m9]; first | omega | (and_intros <;> omega)))))
      | ((with_reducible refine Or.inl ⟨?_, ?_, ?_⟩); (focus rfl); (focus (and_intros <;> first | rfl | omega)))
      | ((with_reducible refine Or.inr (Or.inl ⟨?_, ?_⟩)); focus (and_intros <;> first | rfl | omega))
      | ((with_reducible refine Or.inr (Or.inr (Or.inl ⟨?_, ?_⟩))); focus (and_intros <;> first | rfl | omega))
      | ((with_reducible refine Or.inr (Or.inr (Or.inr ⟨?_, ?_⟩))); focus (and_intros <;> first | rfl | omega))
      | (with_reducible intro hc; (try simp only [capsP, and_true] at hc); (try (exfalso; omega)))
      | ((fail_if_success (with_reducible first | refine And.intro ?_ ?_ | refine Or.inl ?_ | intro _)); (conv => whnf); (fail_if_success (fail_if_success (with_reducible first | apply kL | apply kC | apply kF | apply kM | refine Exists.intro ?_ ?_ | refine Both.mk ?_ ?_ | refine And.intro ?_ ?_ | refine Or.inl ?_ | intro _))))))
  refine CallK.mk3 (σ := []) (nl := []) (crelQ) rfl rfl (List.append_nil _) (by (try simp only [↓List.length_cons, ↓List.length_nil, Nat.reduceAdd]); rfl) (by (try simp only [↓List.length_cons, ↓List.length_nil, Nat.reduceAdd]); rfl) (by (try simp (maxSteps := 1000000) only [givesF, setF, updF, Fam.zeroth, Fam.rk, Ck.rk, C.rk, E.rk, T.rk, key, List.map_cons, List.map_nil, List.cons_append, List.nil_append, List.length_cons, List.length_nil, Option.map_some, Option.bind_some, Nat.reduceAdd, Nat.zero_add, Nat.add_zero, Nat.add_sub_cancel_left, Int.toNat_natCast, reps, List.all_cons, List.all_nil, C.flat, List.append_eq, Bool.not_true, Bool.and_true, Bool.or_false, Bool.or_self, Bool.not_false, List.append_nil, Bool.and_self, ↓mtG_rk, ↓winO_rk]); rfl) (by (repeat' (first | (refine And.intro ?_ ?_) | exact trivial | rfl | exact Nat.le_refl _ | exact (fun _ _ => rfl) | exact all_one (by rfl) | (simp only [Int.toNat_natCast, Nat.zero_add, Nat.add_zero]; done)))) ?_
  rintro v h' ⟨rfl, rfl⟩ hcaps
  refine ret_mk3 (by (try simp only [↓List.length_cons, ↓List.length_nil, Nat.reduceAdd]); rfl) (by (try simp (maxSteps := 1000000) only [givesF, setF, updF, Fam.zeroth, Fam.rk, Ck.rk, C.rk, E.rk, T.rk, key, List.map_cons, List.map_nil, List.cons_append, List.nil_append, List.length_cons, List.length_nil, Option.map_some, Option.bind_some, Nat.reduceAdd, Nat.zero_add, Nat.add_zero, Nat.add_sub_cancel_left, Int.toNat_natCast, reps, List.all_cons, List.all_nil, C.flat, List.append_eq, Bool.not_true, Bool.and_true, Bool.or_false, Bool.or_self, Bool.not_false, List.append_nil, Bool.and_self, ↓mtG_rk, ↓winO_rk, encQ]); rfl) (by (try simp only [givesF, setF, updF, Fam.zeroth, Fam.rk, Ck.rk, C.rk, E.rk, T.rk, key, List.map_cons, List.map_nil, List.cons_append, List.nil_append, List.length_cons, List.length_nil, Option.map_some, Option.bind_some, Nat.reduceAdd, Nat.zero_add, Nat.add_zero, Nat.add_sub_cancel_left, Int.toNat_natCast, reps, List.all_cons, List.all_nil, C.flat, List.append_eq, Bool.not_true, Bool.and_true, Bool.or_false, Bool.or_self, Bool.not_false, List.append_nil, Bool.and_self, ↓mtG_rk, ↓winO_rk, encQ]); rfl) ?_
  repeat' (first
    | ((fail_if_success (with_reducible first | apply kL | apply kC | apply kF | apply kM | refine Exists.intro ?_ ?_)); first
      | ((with_reducible refine And.intro (fun (hb : _ = true) => ?_) (fun (hb : _ = false) => ?_)) <;> (try simp only [n1, n2, n3, n4, n5, n6, n7, n8, n9, n10, n11, n12, n13, n14, n15, n16, reduceCtorEq, n17, n18, n19, n20, n21, n22] at hb) <;> (try (first | (exfalso; omega) | exact bff hb (by assumption) | exact bff (by assumption) hb)))
      | (with_reducible refine Both.mk ?_ ?_)
      | ((with_reducible refine And.intro ?_ ?_); (focus (first | rfl | omega | exact fun _ _ => rfl | assumption | (split <;> omega) | (and_intros <;> first | rfl | omega | (split <;> omega)) | (dsimp only [maxLen]; and_intros <;> omega) | (simp only [n21, n22, m9]; first | omega | (and_intros <;> omega)))))
      | ((with_reducible refine Or.inl ⟨?_, ?_, ?_⟩); (focus rfl); (focus (and_intros <;> first | rfl | omega)))
      | ((with_reducible refine Or.inr (Or.inl ⟨?_, ?_⟩)); focus (and_intros <;> first | rfl | omega))
      | ((with_reducible refine Or.inr (Or.inr (Or.inl ⟨?_, ?_⟩))); focus (and_intros <;> first | rfl | omega))
      | ((with_reducible refine Or.inr (Or.inr (Or.inr ⟨?_, ?_⟩))); focus (and_intros <;> first | rfl | omega))
      | (with_reducible intro hc; (try simp only [capsP, and_true] at hc); (try (exfalso; omega)))
      | ((fail_if_success (with_reducible first | refine And.intro ?_ ?_ | refine Or.inl ?_ | intro _)); (conv => whnf); (fail_if_success (fail_if_success (with_reducible first | apply kL | apply kC | apply kF | apply kM | refine Exists.intro ?_ ?_ | refine Both.mk ?_ ?_ | refine And.intro ?_ ?_ | refine Or.inl ?_ | intro _))))))
  refine CallK.mk3 (σ := []) (nl := []) (cjoined relQ relQ_ok) rfl rfl (List.append_nil _) (by (try simp only [↓List.length_cons, ↓List.length_nil, Nat.reduceAdd]); rfl) (by (try simp only [↓List.length_cons, ↓List.length_nil, Nat.reduceAdd]); rfl) (by (try simp (maxSteps := 1000000) only [givesF, setF, updF, Fam.zeroth, Fam.rk, Ck.rk, C.rk, E.rk, T.rk, key, List.map_cons, List.map_nil, List.cons_append, List.nil_append, List.length_cons, List.length_nil, Option.map_some, Option.bind_some, Nat.reduceAdd, Nat.zero_add, Nat.add_zero, Nat.add_sub_cancel_left, Int.toNat_natCast, reps, List.all_cons, List.all_nil, C.flat, List.append_eq, Bool.not_true, Bool.and_true, Bool.or_false, Bool.or_self, Bool.not_false, List.append_nil, Bool.and_self, ↓mtG_rk, ↓winO_rk]); rfl) (by (repeat' (first | (refine And.intro ?_ ?_) | exact trivial | rfl | exact Nat.le_refl _ | exact (fun _ _ => rfl) | exact all_one (by rfl) | (simp only [Int.toNat_natCast, Nat.zero_add, Nat.add_zero]; done)))) ?_
  rintro v h' ⟨rfl, rfl⟩ hcaps
  rw [show RdJ relQ = A0 from rfl]
  refine ret_mk3 (by (try simp only [↓List.length_cons, ↓List.length_nil, Nat.reduceAdd]); rfl) (by (try simp (maxSteps := 1000000) only [givesF, setF, updF, Fam.zeroth, Fam.rk, Ck.rk, C.rk, E.rk, T.rk, key, List.map_cons, List.map_nil, List.cons_append, List.nil_append, List.length_cons, List.length_nil, Option.map_some, Option.bind_some, Nat.reduceAdd, Nat.zero_add, Nat.add_zero, Nat.add_sub_cancel_left, Int.toNat_natCast, reps, List.all_cons, List.all_nil, C.flat, List.append_eq, Bool.not_true, Bool.and_true, Bool.or_false, Bool.or_self, Bool.not_false, List.append_nil, Bool.and_self, ↓mtG_rk, ↓winO_rk, encQ]); rfl) (by (try simp only [givesF, setF, updF, Fam.zeroth, Fam.rk, Ck.rk, C.rk, E.rk, T.rk, key, List.map_cons, List.map_nil, List.cons_append, List.nil_append, List.length_cons, List.length_nil, Option.map_some, Option.bind_some, Nat.reduceAdd, Nat.zero_add, Nat.add_zero, Nat.add_sub_cancel_left, Int.toNat_natCast, reps, List.all_cons, List.all_nil, C.flat, List.append_eq, Bool.not_true, Bool.and_true, Bool.or_false, Bool.or_self, Bool.not_false, List.append_nil, Bool.and_self, ↓mtG_rk, ↓winO_rk, encQ]); rfl) ?_
  repeat' (first
    | ((fail_if_success (with_reducible first | apply kL | apply kC | apply kF | apply kM | refine Exists.intro ?_ ?_)); first
      | ((with_reducible refine And.intro (fun (hb : _ = true) => ?_) (fun (hb : _ = false) => ?_)) <;> (try simp only [n1, n2, n3, n4, n5, n6, n7, n8, n9, n10, n11, n12, n13, n14, n15, n16, reduceCtorEq, n17, n18, n19, n20, n21, n22] at hb) <;> (try (first | (exfalso; omega) | exact bff hb (by assumption) | exact bff (by assumption) hb)))
      | (with_reducible refine Both.mk ?_ ?_)
      | ((with_reducible refine And.intro ?_ ?_); (focus (first | rfl | omega | exact fun _ _ => rfl | assumption | (split <;> omega) | (and_intros <;> first | rfl | omega | (split <;> omega)) | (dsimp only [maxLen]; and_intros <;> omega) | (simp only [n21, n22, m9]; first | omega | (and_intros <;> omega)))))
      | ((with_reducible refine Or.inl ⟨?_, ?_, ?_⟩); (focus rfl); (focus (and_intros <;> first | rfl | omega)))
      | ((with_reducible refine Or.inr (Or.inl ⟨?_, ?_⟩)); focus (and_intros <;> first | rfl | omega))
      | ((with_reducible refine Or.inr (Or.inr (Or.inl ⟨?_, ?_⟩))); focus (and_intros <;> first | rfl | omega))
      | ((with_reducible refine Or.inr (Or.inr (Or.inr ⟨?_, ?_⟩))); focus (and_intros <;> first | rfl | omega))
      | (with_reducible intro hc; (try simp only [capsP, and_true] at hc); (try (exfalso; omega)))
      | ((fail_if_success (with_reducible first | refine And.intro ?_ ?_ | refine Or.inl ?_ | intro _)); (conv => whnf); (fail_if_success (fail_if_success (with_reducible first | apply kL | apply kC | apply kF | apply kM | refine Exists.intro ?_ ?_ | refine Both.mk ?_ ?_ | refine And.intro ?_ ?_ | refine Or.inl ?_ | intro _))))))
  refine CallK.mk3 (σ := []) (nl := []) (cdataP 1) rfl rfl (List.append_nil _) (by (try simp only [↓List.length_cons, ↓List.length_nil, Nat.reduceAdd]); rfl) (by (try simp only [↓List.length_cons, ↓List.length_nil, Nat.reduceAdd]); rfl) (by (try simp (maxSteps := 1000000) only [givesF, setF, updF, Fam.zeroth, Fam.rk, Ck.rk, C.rk, E.rk, T.rk, key, List.map_cons, List.map_nil, List.cons_append, List.nil_append, List.length_cons, List.length_nil, Option.map_some, Option.bind_some, Nat.reduceAdd, Nat.zero_add, Nat.add_zero, Nat.add_sub_cancel_left, Int.toNat_natCast, reps, List.all_cons, List.all_nil, C.flat, List.append_eq, Bool.not_true, Bool.and_true, Bool.or_false, Bool.or_self, Bool.not_false, List.append_nil, Bool.and_self, ↓mtG_rk, ↓winO_rk]); rfl) (by (repeat' (first | (refine And.intro ?_ ?_) | exact trivial | rfl | exact Nat.le_refl _ | exact (fun _ _ => rfl) | exact all_one (by rfl) | (simp only [Int.toNat_natCast, Nat.zero_add, Nat.add_zero]; done)))) ?_
  rintro v h' ⟨rfl, rfl⟩ hcaps
  refine ret_mk3 (by (try simp only [↓List.length_cons, ↓List.length_nil, Nat.reduceAdd]); rfl) (by (try simp (maxSteps := 1000000) only [givesF, setF, updF, Fam.zeroth, Fam.rk, Ck.rk, C.rk, E.rk, T.rk, key, List.map_cons, List.map_nil, List.cons_append, List.nil_append, List.length_cons, List.length_nil, Option.map_some, Option.bind_some, Nat.reduceAdd, Nat.zero_add, Nat.add_zero, Nat.add_sub_cancel_left, Int.toNat_natCast, reps, List.all_cons, List.all_nil, C.flat, List.append_eq, Bool.not_true, Bool.and_true, Bool.or_false, Bool.or_self, Bool.not_false, List.append_nil, Bool.and_self, ↓mtG_rk, ↓winO_rk]); rfl) (by (try simp only [givesF, setF, updF, Fam.zeroth, Fam.rk, Ck.rk, C.rk, E.rk, T.rk, key, List.map_cons, List.map_nil, List.cons_append, List.nil_append, List.length_cons, List.length_nil, Option.map_some, Option.bind_some, Nat.reduceAdd, Nat.zero_add, Nat.add_zero, Nat.add_sub_cancel_left, Int.toNat_natCast, reps, List.all_cons, List.all_nil, C.flat, List.append_eq, Bool.not_true, Bool.and_true, Bool.or_false, Bool.or_self, Bool.not_false, List.append_nil, Bool.and_self, ↓mtG_rk, ↓winO_rk]); rfl) ?_
  repeat' (first
    | ((fail_if_success (with_reducible first | apply kL | apply kC | apply kF | apply kM | refine Exists.intro ?_ ?_)); first
      | ((with_reducible refine And.intro (fun (hb : _ = true) => ?_) (fun (hb : _ = false) => ?_)) <;> (try simp only [n1, n2, n3, n4, n5, n6, n7, n8, n9, n10, n11, n12, n13, n14, n15, n16, reduceCtorEq, n17, n18, n19, n20, n21, n22] at hb) <;> (try (first | (exfalso; omega) | exact bff hb (by assumption) | exact bff (by assumption) hb)))
      | (with_reducible refine Both.mk ?_ ?_)
      | ((with_reducible refine And.intro ?_ ?_); (focus (first | rfl | omega | exact fun _ _ => rfl | assumption | (split <;> omega) | (and_intros <;> first | rfl | omega | (split <;> omega)) | (dsimp only [maxLen]; and_intros <;> omega) | (simp only [n21, n22, m9]; first | omega | (and_intros <;> omega)))))
      | ((with_reducible refine Or.inl ⟨?_, ?_, ?_⟩); (focus rfl); (focus (and_intros <;> first | rfl | omega)))
      | ((with_reducible refine Or.inr (Or.inl ⟨?_, ?_⟩)); focus (and_intros <;> first | rfl | omega))
      | ((with_reducible refine Or.inr (Or.inr (Or.inl ⟨?_, ?_⟩))); focus (and_intros <;> first | rfl | omega))
      | ((with_reducible refine Or.inr (Or.inr (Or.inr ⟨?_, ?_⟩))); focus (and_intros <;> first | rfl | omega))
      | (with_reducible intro hc; (try simp only [capsP, and_true] at hc); (try (exfalso; omega)))
      | ((fail_if_success (with_reducible first | refine And.intro ?_ ?_ | refine Or.inl ?_ | intro _)); (conv => whnf); (fail_if_success (fail_if_success (with_reducible first | apply kL | apply kC | apply kF | apply kM | refine Exists.intro ?_ ?_ | refine Both.mk ?_ ?_ | refine And.intro ?_ ?_ | refine Or.inl ?_ | intro _))))))
  refine CallK.mk3 (σ := [.whole 0, .whole 1, .whole 2, .whole 3, .whole 4, .whole 5, .whole 6, .name 8]) (nl := [.one .no]) (crecv 9 relQ A0 0 0 0 0 (dataP 1) 5 A0_I.ok (A0_I.all (by omega))) rfl rfl (by (try simp only [List.cons_append, List.nil_append]); rfl) (by (try simp only [↓List.length_cons, ↓List.length_nil, Nat.reduceAdd]); rfl) (by (try simp only [↓List.length_cons, ↓List.length_nil, Nat.reduceAdd]); rfl) (by (try simp (maxSteps := 1000000) only [givesF, setF, updF, Fam.zeroth, Fam.rk, Ck.rk, C.rk, E.rk, T.rk, key, List.map_cons, List.map_nil, List.cons_append, List.nil_append, List.length_cons, List.length_nil, Option.map_some, Option.bind_some, Nat.reduceAdd, Nat.zero_add, Nat.add_zero, Nat.add_sub_cancel_left, Int.toNat_natCast, reps, List.all_cons, List.all_nil, C.flat, List.append_eq, Bool.not_true, Bool.and_true, Bool.or_false, Bool.or_self, Bool.not_false, List.append_nil, Bool.and_self, ↓mtG_rk, ↓winO_rk]); rfl) (by (repeat' (first | (refine And.intro ?_ ?_) | exact trivial | rfl | exact Nat.le_refl _ | exact (fun _ _ => rfl) | exact all_one (by rfl) | (simp only [Int.toNat_natCast, Nat.zero_add, Nat.add_zero]; done))) <;> (first | exact fun _ => trivial | exact fun x => mtO_le rfl | exact fun x => winO_le | exact fun x => mtO_bel rfl | exact fun x => winO_bel | exact fun x => mtR_bel rfl rfl | exact fun x => winR_bel)) ?_
  rintro v h' ⟨c1, d1, m1, p1, rfl, rfl⟩ hcaps
  rw [show recvR relQ (dataP 1) A0 = A1 from rfl, a1]
  refine ret_mk3 (by (try simp only [↓List.length_cons, ↓List.length_nil, Nat.reduceAdd]); rfl) (by (try simp (maxSteps := 1000000) only [givesF, setF, updF, Fam.zeroth, Fam.rk, Ck.rk, C.rk, E.rk, T.rk, key, List.map_cons, List.map_nil, List.cons_append, List.nil_append, List.length_cons, List.length_nil, Option.map_some, Option.bind_some, Nat.reduceAdd, Nat.zero_add, Nat.add_zero, Nat.add_sub_cancel_left, Int.toNat_natCast, reps, List.all_cons, List.all_nil, C.flat, List.append_eq, Bool.not_true, Bool.and_true, Bool.or_false, Bool.or_self, Bool.not_false, List.append_nil, Bool.and_self, ↓mtG_rk, ↓winO_rk]); rfl) (by (try simp only [givesF, setF, updF, Fam.zeroth, Fam.rk, Ck.rk, C.rk, E.rk, T.rk, key, List.map_cons, List.map_nil, List.cons_append, List.nil_append, List.length_cons, List.length_nil, Option.map_some, Option.bind_some, Nat.reduceAdd, Nat.zero_add, Nat.add_zero, Nat.add_sub_cancel_left, Int.toNat_natCast, reps, List.all_cons, List.all_nil, C.flat, List.append_eq, Bool.not_true, Bool.and_true, Bool.or_false, Bool.or_self, Bool.not_false, List.append_nil, Bool.and_self, ↓mtG_rk, ↓winO_rk]); rfl) ?_
  repeat' (first
    | ((fail_if_success (with_reducible first | apply kL | apply kC | apply kF | apply kM | refine Exists.intro ?_ ?_)); first
      | ((with_reducible refine And.intro (fun (hb : _ = true) => ?_) (fun (hb : _ = false) => ?_)) <;> (try simp only [n1, n2, n3, n4, n5, n6, n7, n8, n9, n10, n11, n12, n13, n14, n15, n16, reduceCtorEq, n17, n18, n19, n20, n21, n22] at hb) <;> (try (first | (exfalso; omega) | exact bff hb (by assumption) | exact bff (by assumption) hb)))
      | (with_reducible refine Both.mk ?_ ?_)
      | ((with_reducible refine And.intro ?_ ?_); (focus (first | rfl | omega | exact fun _ _ => rfl | assumption | (split <;> omega) | (and_intros <;> first | rfl | omega | (split <;> omega)) | (dsimp only [maxLen]; and_intros <;> omega) | (simp only [n21, n22, m9]; first | omega | (and_intros <;> omega)))))
      | ((with_reducible refine Or.inl ⟨?_, ?_, ?_⟩); (focus rfl); (focus (and_intros <;> first | rfl | omega)))
      | ((with_reducible refine Or.inr (Or.inl ⟨?_, ?_⟩)); focus (and_intros <;> first | rfl | omega))
      | ((with_reducible refine Or.inr (Or.inr (Or.inl ⟨?_, ?_⟩))); focus (and_intros <;> first | rfl | omega))
      | ((with_reducible refine Or.inr (Or.inr (Or.inr ⟨?_, ?_⟩))); focus (and_intros <;> first | rfl | omega))
      | (with_reducible intro hc; (try simp only [capsP, and_true] at hc); (try (exfalso; omega)))
      | ((fail_if_success (with_reducible first | refine And.intro ?_ ?_ | refine Or.inl ?_ | intro _)); (conv => whnf); (fail_if_success (fail_if_success (with_reducible first | apply kL | apply kC | apply kF | apply kM | refine Exists.intro ?_ ?_ | refine Both.mk ?_ ?_ | refine And.intro ?_ ?_ | refine Or.inl ?_ | intro _))))))
  refine CallK.mk3 (σ := []) (nl := []) (cdataP 3) rfl rfl (List.append_nil _) (by (try simp only [↓List.length_cons, ↓List.length_nil, Nat.reduceAdd]); rfl) (by (try simp only [↓List.length_cons, ↓List.length_nil, Nat.reduceAdd]); rfl) (by (try simp (maxSteps := 1000000) only [givesF, setF, updF, Fam.zeroth, Fam.rk, Ck.rk, C.rk, E.rk, T.rk, key, List.map_cons, List.map_nil, List.cons_append, List.nil_append, List.length_cons, List.length_nil, Option.map_some, Option.bind_some, Nat.reduceAdd, Nat.zero_add, Nat.add_zero, Nat.add_sub_cancel_left, Int.toNat_natCast, reps, List.all_cons, List.all_nil, C.flat, List.append_eq, Bool.not_true, Bool.and_true, Bool.or_false, Bool.or_self, Bool.not_false, List.append_nil, Bool.and_self, ↓mtG_rk, ↓winO_rk]); rfl) (by (repeat' (first | (refine And.intro ?_ ?_) | exact trivial | rfl | exact Nat.le_refl _ | exact (fun _ _ => rfl) | exact all_one (by rfl) | (simp only [Int.toNat_natCast, Nat.zero_add, Nat.add_zero]; done)))) ?_
  rintro v h' ⟨rfl, rfl⟩ hcaps
  refine ret_mk3 (by (try simp only [↓List.length_cons, ↓List.length_nil, Nat.reduceAdd]); rfl) (by (try simp (maxSteps := 1000000) only [givesF, setF, updF, Fam.zeroth, Fam.rk, Ck.rk, C.rk, E.rk, T.rk, key, List.map_cons, List.map_nil, List.cons_append, List.nil_append, List.length_cons, List.length_nil, Option.map_some, Option.bind_some, Nat.reduceAdd, Nat.zero_add, Nat.add_zero, Nat.add_sub_cancel_left, Int.toNat_natCast, reps, List.all_cons, List.all_nil, C.flat, List.append_eq, Bool.not_true, Bool.and_true, Bool.or_false, Bool.or_self, Bool.not_false, List.append_nil, Bool.and_self, ↓mtG_rk, ↓winO_rk]); rfl) (by (try simp only [givesF, setF, updF, Fam.zeroth, Fam.rk, Ck.rk, C.rk, E.rk, T.rk, key, List.map_cons, List.map_nil, List.cons_append, List.nil_append, List.length_cons, List.length_nil, Option.map_some, Option.bind_some, Nat.reduceAdd, Nat.zero_add, Nat.add_zero, Nat.add_sub_cancel_left, Int.toNat_natCast, reps, List.all_cons, List.all_nil, C.flat, List.append_eq, Bool.not_true, Bool.and_true, Bool.or_false, Bool.or_self, Bool.not_false, List.append_nil, Bool.and_self, ↓mtG_rk, ↓winO_rk]); rfl) ?_
  repeat' (first
    | ((fail_if_success (with_reducible first | apply kL | apply kC | apply kF | apply kM | refine Exists.intro ?_ ?_)); first
      | ((with_reducible refine And.intro (fun (hb : _ = true) => ?_) (fun (hb : _ = false) => ?_)) <;> (try simp only [n1, n2, n3, n4, n5, n6, n7, n8, n9, n10, n11, n12, n13, n14, n15, n16, reduceCtorEq, n17, n18, n19, n20, n21, n22] at hb) <;> (try (first | (exfalso; omega) | exact bff hb (by assumption) | exact bff (by assumption) hb)))
      | (with_reducible refine Both.mk ?_ ?_)
      | ((with_reducible refine And.intro ?_ ?_); (focus (first | rfl | omega | exact fun _ _ => rfl | assumption | (split <;> omega) | (and_intros <;> first | rfl | omega | (split <;> omega)) | (dsimp only [maxLen]; and_intros <;> omega) | (simp only [n21, n22, m9]; first | omega | (and_intros <;> omega)))))
      | ((with_reducible refine Or.inl ⟨?_, ?_, ?_⟩); (focus rfl); (focus (and_intros <;> first | rfl | omega)))
      | ((with_reducible refine Or.inr (Or.inl ⟨?_, ?_⟩)); focus (and_intros <;> first | rfl | omega))
      | ((with_reducible refine Or.inr (Or.inr (Or.inl ⟨?_, ?_⟩))); focus (and_intros <;> first | rfl | omega))
      | ((with_reducible refine Or.inr (Or.inr (Or.inr ⟨?_, ?_⟩))); focus (and_intros <;> first | rfl | omega))
      | (with_reducible intro hc; (try simp only [capsP, and_true] at hc); (try (exfalso; omega)))
      | ((fail_if_success (with_reducible first | refine And.intro ?_ ?_ | refine Or.inl ?_ | intro _)); (conv => whnf); (fail_if_success (fail_if_success (with_reducible first | apply kL | apply kC | apply kF | apply kM | refine Exists.intro ?_ ?_ | refine Both.mk ?_ ?_ | refine And.intro ?_ ?_ | refine Or.inl ?_ | intro _))))))
  refine CallK.mk3 (σ := [.whole 0, .whole 1, .whole 2, .whole 9, .whole 10, .whole 5, .whole 6, .name 13]) (nl := [.one .no]) (crecv 9 relQ A1 c1 d1 0 0 (dataP 3) 6 A1_I.ok (A1_I.all (by omega))) rfl rfl (by (try simp only [List.cons_append, List.nil_append]); rfl) (by (try simp only [↓List.length_cons, ↓List.length_nil, Nat.reduceAdd]); rfl) (by (try simp only [↓List.length_cons, ↓List.length_nil, Nat.reduceAdd]); rfl) (by (try simp (maxSteps := 1000000) only [givesF, setF, updF, Fam.zeroth, Fam.rk, Ck.rk, C.rk, E.rk, T.rk, key, List.map_cons, List.map_nil, List.cons_append, List.nil_append, List.length_cons, List.length_nil, Option.map_some, Option.bind_some, Nat.reduceAdd, Nat.zero_add, Nat.add_zero, Nat.add_sub_cancel_left, Int.toNat_natCast, reps, List.all_cons, List.all_nil, C.flat, List.append_eq, Bool.not_true, Bool.and_true, Bool.or_false, Bool.or_self, Bool.not_false, List.append_nil, Bool.and_self, ↓mtG_rk, ↓winO_rk]); rfl) (by (repeat' (first | (refine And.intro ?_ ?_) | exact trivial | rfl | exact Nat.le_refl _ | exact (fun _ _ => rfl) | exact all_one (by rfl) | (simp only [Int.toNat_natCast, Nat.zero_add, Nat.add_zero]; done))) <;> (first | exact fun _ => trivial | exact fun x => mtO_le rfl | exact fun x => winO_le | exact fun x => mtO_bel rfl | exact fun x => winO_bel | exact fun x => mtR_bel rfl rfl | exact fun x => winR_bel)) ?_
  rintro v h' ⟨c2, d2, m2, p2, rfl, rfl⟩ hcaps
  rw [show recvR relQ (dataP 3) A1 = A2 from rfl, a2]
  refine ret_mk3 (by (try simp only [↓List.length_cons, ↓List.length_nil, Nat.reduceAdd]); rfl) (by (try simp (maxSteps := 1000000) only [givesF, setF, updF, Fam.zeroth, Fam.rk, Ck.rk, C.rk, E.rk, T.rk, key, List.map_cons, List.map_nil, List.cons_append, List.nil_append, List.length_cons, List.length_nil, Option.map_some, Option.bind_some, Nat.reduceAdd, Nat.zero_add, Nat.add_zero, Nat.add_sub_cancel_left, Int.toNat_natCast, reps, List.all_cons, List.all_nil, C.flat, List.append_eq, Bool.not_true, Bool.and_true, Bool.or_false, Bool.or_self, Bool.not_false, List.append_nil, Bool.and_self, ↓mtG_rk, ↓winO_rk]); rfl) (by (try simp only [givesF, setF, updF, Fam.zeroth, Fam.rk, Ck.rk, C.rk, E.rk, T.rk, key, List.map_cons, List.map_nil, List.cons_append, List.nil_append, List.length_cons, List.length_nil, Option.map_some, Option.bind_some, Nat.reduceAdd, Nat.zero_add, Nat.add_zero, Nat.add_sub_cancel_left, Int.toNat_natCast, reps, List.all_cons, List.all_nil, C.flat, List.append_eq, Bool.not_true, Bool.and_true, Bool.or_false, Bool.or_self, Bool.not_false, List.append_nil, Bool.and_self, ↓mtG_rk, ↓winO_rk]); rfl) ?_
  repeat' (first
    | ((fail_if_success (with_reducible first | apply kL | apply kC | apply kF | apply kM | refine Exists.intro ?_ ?_)); first
      | ((with_reducible refine And.intro (fun (hb : _ = true) => ?_) (fun (hb : _ = false) => ?_)) <;> (try simp only [n1, n2, n3, n4, n5, n6, n7, n8, n9, n10, n11, n12, n13, n14, n15, n16, reduceCtorEq, n17, n18, n19, n20, n21, n22] at hb) <;> (try (first | (exfalso; omega) | exact bff hb (by assumption) | exact bff (by assumption) hb)))
      | (with_reducible refine Both.mk ?_ ?_)
      | ((with_reducible refine And.intro ?_ ?_); (focus (first | rfl | omega | exact fun _ _ => rfl | assumption | (split <;> omega) | (and_intros <;> first | rfl | omega | (split <;> omega)) | (dsimp only [maxLen]; and_intros <;> omega) | (simp only [n21, n22, m9]; first | omega | (and_intros <;> omega)))))
      | ((with_reducible refine Or.inl ⟨?_, ?_, ?_⟩); (focus rfl); (focus (and_intros <;> first | rfl | omega)))
      | ((with_reducible refine Or.inr (Or.inl ⟨?_, ?_⟩)); focus (and_intros <;> first | rfl | omega))
      | ((with_reducible refine Or.inr (Or.inr (Or.inl ⟨?_, ?_⟩))); focus (and_intros <;> first | rfl | omega))
      | ((with_reducible refine Or.inr (Or.inr (Or.inr ⟨?_, ?_⟩))); focus (and_intros <;> first | rfl | omega))
      | (with_reducible intro hc; (try simp only [capsP, and_true] at hc); (try (exfalso; omega)))
      | ((fail_if_success (with_reducible first | refine And.intro ?_ ?_ | refine Or.inl ?_ | intro _)); (conv => whnf); (fail_if_success (fail_if_success (with_reducible first | apply kL | apply kC | apply kF | apply kM | refine Exists.intro ?_ ?_ | refine Both.mk ?_ ?_ | refine And.intro ?_ ?_ | refine Or.inl ?_ | intro _))))))
  refine CallK.mk3 (σ := [.whole 0, .name 1, .whole 2, .name 14, .whole 5, .name 6]) (nl := []) (cexp 9 relQ A2 1 0 d2 A2_I.ok) rfl rfl (List.append_nil _) (by (try simp only [↓List.length_cons, ↓List.length_nil, Nat.reduceAdd]); rfl) (by (try simp only [↓List.length_cons, ↓List.length_nil, Nat.reduceAdd]); rfl) (by (try simp (maxSteps := 1000000) only [givesF, setF, updF, Fam.zeroth, Fam.rk, Ck.rk, C.rk, E.rk, T.rk, key, List.map_cons, List.map_nil, List.cons_append, List.nil_append, List.length_cons, List.length_nil, Option.map_some, Option.bind_some, Nat.reduceAdd, Nat.zero_add, Nat.add_zero, Nat.add_sub_cancel_left, Int.toNat_natCast, reps, List.all_cons, List.all_nil, C.flat, List.append_eq, Bool.not_true, Bool.and_true, Bool.or_false, Bool.or_self, Bool.not_false, List.append_nil, Bool.and_self, ↓mtG_rk, ↓winO_rk]); rfl) (by (repeat' (first | (refine And.intro ?_ ?_) | exact trivial | rfl | exact Nat.le_refl _ | exact (fun _ _ => rfl) | exact all_one (by rfl) | (simp only [Int.toNat_natCast, Nat.zero_add, Nat.add_zero]; done))) <;> (first | exact fun _ => trivial | exact fun x => mtO_le rfl | exact fun x => winO_le | exact fun x => mtO_bel rfl | exact fun x => winO_bel | exact fun x => mtR_bel rfl rfl | exact fun x => winR_bel)) ?_
  rintro v h' ⟨rfl, rfl⟩ hcaps
  rw [a6]
  refine ret_mk3 (by (try simp only [↓List.length_cons, ↓List.length_nil, Nat.reduceAdd]); rfl) (by (try simp (maxSteps := 1000000) only [givesF, setF, updF, Fam.zeroth, Fam.rk, Ck.rk, C.rk, E.rk, T.rk, key, List.map_cons, List.map_nil, List.cons_append, List.nil_append, List.length_cons, List.length_nil, Option.map_some, Option.bind_some, Nat.reduceAdd, Nat.zero_add, Nat.add_zero, Nat.add_sub_cancel_left, Int.toNat_natCast, reps, List.all_cons, List.all_nil, C.flat, List.append_eq, Bool.not_true, Bool.and_true, Bool.or_false, Bool.or_self, Bool.not_false, List.append_nil, Bool.and_self, ↓mtG_rk, ↓winO_rk]); rfl) (by (try simp only [givesF, setF, updF, Fam.zeroth, Fam.rk, Ck.rk, C.rk, E.rk, T.rk, key, List.map_cons, List.map_nil, List.cons_append, List.nil_append, List.length_cons, List.length_nil, Option.map_some, Option.bind_some, Nat.reduceAdd, Nat.zero_add, Nat.add_zero, Nat.add_sub_cancel_left, Int.toNat_natCast, reps, List.all_cons, List.all_nil, C.flat, List.append_eq, Bool.not_true, Bool.and_true, Bool.or_false, Bool.or_self, Bool.not_false, List.append_nil, Bool.and_self, ↓mtG_rk, ↓winO_rk]); rfl) ?_
  repeat' (first
    | ((fail_if_success (with_reducible first | apply kL | apply kC | apply kF | apply kM | refine Exists.intro ?_ ?_)); first
      | ((with_reducible refine And.intro (fun (hb : _ = true) => ?_) (fun (hb : _ = false) => ?_)) <;> (try simp only [n1, n2, n3, n4, n5, n6, n7, n8, n9, n10, n11, n12, n13, n14, n15, n16, reduceCtorEq, n17, n18, n19, n20, n21, n22] at hb) <;> (try (first | (exfalso; omega) | exact bff hb (by assumption) | exact bff (by assumption) hb)))
      | (with_reducible refine Both.mk ?_ ?_)
      | ((with_reducible refine And.intro ?_ ?_); (focus (first | rfl | omega | exact fun _ _ => rfl | assumption | (split <;> omega) | (and_intros <;> first | rfl | omega | (split <;> omega)) | (dsimp only [maxLen]; and_intros <;> omega) | (simp only [n21, n22, m9]; first | omega | (and_intros <;> omega)))))
      | ((with_reducible refine Or.inl ⟨?_, ?_, ?_⟩); (focus rfl); (focus (and_intros <;> first | rfl | omega)))
      | ((with_reducible refine Or.inr (Or.inl ⟨?_, ?_⟩)); focus (and_intros <;> first | rfl | omega))
      | ((with_reducible refine Or.inr (Or.inr (Or.inl ⟨?_, ?_⟩))); focus (and_intros <;> first | rfl | omega))
      | ((with_reducible refine Or.inr (Or.inr (Or.inr ⟨?_, ?_⟩))); focus (and_intros <;> first | rfl | omega))
      | (with_reducible intro hc; (try simp only [capsP, and_true] at hc); (try (exfalso; omega)))
      | ((fail_if_success (with_reducible first | refine And.intro ?_ ?_ | refine Or.inl ?_ | intro _)); (conv => whnf); (fail_if_success (fail_if_success (with_reducible first | apply kL | apply kC | apply kF | apply kM | refine Exists.intro ?_ ?_ | refine Both.mk ?_ ?_ | refine And.intro ?_ ?_ | refine Or.inl ?_ | intro _))))))
  refine CallK.mk3 (σ := [.whole 0, .whole 1, .whole 2, .whole 14, .whole 15, .whole 5, .whole 6, .name 18]) (nl := [.one .no]) (crecv 9 relQ A2 c2 d2 0 0 hbP 7 A2_I.ok (A2_I.all (by omega))) rfl rfl (by (try simp only [List.cons_append, List.nil_append]); rfl) (by (try simp only [↓List.length_cons, ↓List.length_nil, Nat.reduceAdd]); rfl) (by (try simp only [↓List.length_cons, ↓List.length_nil, Nat.reduceAdd]); rfl) (by (try simp (maxSteps := 1000000) only [givesF, setF, updF, Fam.zeroth, Fam.rk, Ck.rk, C.rk, E.rk, T.rk, key, List.map_cons, List.map_nil, List.cons_append, List.nil_append, List.length_cons, List.length_nil, Option.map_some, Option.bind_some, Nat.reduceAdd, Nat.zero_add, Nat.add_zero, Nat.add_sub_cancel_left, Int.toNat_natCast, reps, List.all_cons, List.all_nil, C.flat, List.append_eq, Bool.not_true, Bool.and_true, Bool.or_false, Bool.or_self, Bool.not_false, List.append_nil, Bool.and_self, ↓mtG_rk, ↓winO_rk]); rfl) (by (repeat' (first | (refine And.intro ?_ ?_) | exact trivial | rfl | exact Nat.le_refl _ | exact (fun _ _ => rfl) | exact all_one (by rfl) | (simp only [Int.toNat_natCast, Nat.zero_add, Nat.add_zero]; done))) <;> (first | exact fun _ => trivial | exact fun x => mtO_le rfl | exact fun x => winO_le | exact fun x => mtO_bel rfl | exact fun x => winO_bel | exact fun x => mtR_bel rfl rfl | exact fun x => winR_bel)) ?_
  rintro v h' ⟨c3, d3, m3, p3, rfl, rfl⟩ hcaps
  rw [a8]
  rw [show recvR relQ hbP A2 = A3 from rfl, a3]
  refine ret_mk3 (by (try simp only [↓List.length_cons, ↓List.length_nil, Nat.reduceAdd]); rfl) (by (try simp (maxSteps := 1000000) only [givesF, setF, updF, Fam.zeroth, Fam.rk, Ck.rk, C.rk, E.rk, T.rk, key, List.map_cons, List.map_nil, List.cons_append, List.nil_append, List.length_cons, List.length_nil, Option.map_some, Option.bind_some, Nat.reduceAdd, Nat.zero_add, Nat.add_zero, Nat.add_sub_cancel_left, Int.toNat_natCast, reps, List.all_cons, List.all_nil, C.flat, List.append_eq, Bool.not_true, Bool.and_true, Bool.or_false, Bool.or_self, Bool.not_false, List.append_nil, Bool.and_self, ↓mtG_rk, ↓winO_rk]); rfl) (by (try simp only [givesF, setF, updF, Fam.zeroth, Fam.rk, Ck.rk, C.rk, E.rk, T.rk, key, List.map_cons, List.map_nil, List.cons_append, List.nil_append, List.length_cons, List.length_nil, Option.map_some, Option.bind_some, Nat.reduceAdd, Nat.zero_add, Nat.add_zero, Nat.add_sub_cancel_left, Int.toNat_natCast, reps, List.all_cons, List.all_nil, C.flat, List.append_eq, Bool.not_true, Bool.and_true, Bool.or_false, Bool.or_self, Bool.not_false, List.append_nil, Bool.and_self, ↓mtG_rk, ↓winO_rk]); rfl) ?_
  repeat' (first
    | ((fail_if_success (with_reducible first | apply kL | apply kC | apply kF | apply kM | refine Exists.intro ?_ ?_)); first
      | ((with_reducible refine And.intro (fun (hb : _ = true) => ?_) (fun (hb : _ = false) => ?_)) <;> (try simp only [n1, n2, n3, n4, n5, n6, n7, n8, n9, n10, n11, n12, n13, n14, n15, n16, reduceCtorEq, n17, n18, n19, n20, n21, n22] at hb) <;> (try (first | (exfalso; omega) | exact bff hb (by assumption) | exact bff (by assumption) hb)))
      | (with_reducible refine Both.mk ?_ ?_)
      | ((with_reducible refine And.intro ?_ ?_); (focus (first | rfl | omega | exact fun _ _ => rfl | assumption | (split <;> omega) | (and_intros <;> first | rfl | omega | (split <;> omega)) | (dsimp only [maxLen]; and_intros <;> omega) | (simp only [n21, n22, m9]; first | omega | (and_intros <;> omega)))))
      | ((with_reducible refine Or.inl ⟨?_, ?_, ?_⟩); (focus rfl); (focus (and_intros <;> first | rfl | omega)))
      | ((with_reducible refine Or.inr (Or.inl ⟨?_, ?_⟩)); focus (and_intros <;> first | rfl | omega))
      | ((with_reducible refine Or.inr (Or.inr (Or.inl ⟨?_, ?_⟩))); focus (and_intros <;> first | rfl | omega))
      | ((with_reducible refine Or.inr (Or.inr (Or.inr ⟨?_, ?_⟩))); focus (and_intros <;> first | rfl | omega))
      | (with_reducible intro hc; (try simp only [capsP, and_true] at hc); (try (exfalso; omega)))
      | ((fail_if_success (with_reducible first | refine And.intro ?_ ?_ | refine Or.inl ?_ | intro _)); (conv => whnf); (fail_if_success (fail_if_success (with_reducible first | apply kL | apply kC | apply kF | apply kM | refine Exists.intro ?_ ?_ | refine Both.mk ?_ ?_ | refine And.intro ?_ ?_ | refine Or.inl ?_ | intro _))))))
  refine CallK.mk3 (σ := []) (nl := []) (cdataP 2) rfl rfl (List.append_nil _) (by (try simp only [↓List.length_cons, ↓List.length_nil, Nat.reduceAdd]); rfl) (by (try simp only [↓List.length_cons, ↓List.length_nil, Nat.reduceAdd]); rfl) (by (try simp (maxSteps := 1000000) only [givesF, setF, updF, Fam.zeroth, Fam.rk, Ck.rk, C.rk, E.rk, T.rk, key, List.map_cons, List.map_nil, List.cons_append, List.nil_append, List.length_cons, List.length_nil, Option.map_some, Option.bind_some, Nat.reduceAdd, Nat.zero_add, Nat.add_zero, Nat.add_sub_cancel_left, Int.toNat_natCast, reps, List.all_cons, List.all_nil, C.flat, List.append_eq, Bool.not_true, Bool.and_true, Bool.or_false, Bool.or_self, Bool.not_false, List.append_nil, Bool.and_self, ↓mtG_rk, ↓winO_rk]); rfl) (by (repeat' (first | (refine And.intro ?_ ?_) | exact trivial | rfl | exact Nat.le_refl _ | exact (fun _ _ => rfl) | exact all_one (by rfl) | (simp only [Int.toNat_natCast, Nat.zero_add, Nat.add_zero]; done)))) ?_
  rintro v h' ⟨rfl, rfl⟩ hcaps
  refine ret_mk3 (by (try simp only [↓List.length_cons, ↓List.length_nil, Nat.reduceAdd]); rfl) (by (try simp (maxSteps := 1000000) only [givesF, setF, updF, Fam.zeroth, Fam.rk, Ck.rk, C.rk, E.rk, T.rk, key, List.map_cons, List.map_nil, List.cons_append, List.nil_append, List.length_cons, List.length_nil, Option.map_some, Option.bind_some, Nat.reduceAdd, Nat.zero_add, Nat.add_zero, Nat.add_sub_cancel_left, Int.toNat_natCast, reps, List.all_cons, List.all_nil, C.flat, List.append_eq, Bool.not_true, Bool.and_true, Bool.or_false, Bool.or_self, Bool.not_false, List.append_nil, Bool.and_self, ↓mtG_rk, ↓winO_rk]); rfl) (by (try simp only [givesF, setF, updF, Fam.zeroth, Fam.rk, Ck.rk, C.rk, E.rk, T.rk, key, List.map_cons, List.map_nil, List.cons_append, List.nil_append, List.length_cons, List.length_nil, Option.map_some, Option.bind_some, Nat.reduceAdd, Nat.zero_add, Nat.add_zero, Nat.add_sub_cancel_left, Int.toNat_natCast, reps, List.all_cons, List.all_nil, C.flat, List.append_eq, Bool.not_true, Bool.and_true, Bool.or_false, Bool.or_self, Bool.not_false, List.append_nil, Bool.and_self, ↓mtG_rk, ↓winO_rk]); rfl) ?_
  repeat' (first
    | ((fail_if_success (with_reducible first | apply kL | apply kC | apply kF | apply kM | refine Exists.intro ?_ ?_)); first
      | ((with_reducible refine And.intro (fun (hb : _ = true) => ?_) (fun (hb : _ = false) => ?_)) <;> (try simp only [n1, n2, n3, n4, n5, n6, n7, n8, n9, n10, n11, n12, n13, n14, n15, n16, reduceCtorEq, n17, n18, n19, n20, n21, n22] at hb) <;> (try (first | (exfalso; omega) | exact bff hb (by assumption) | exact bff (by assumption) hb)))
      | (with_reducible refine Both.mk ?_ ?_)
      | ((with_reducible refine And.intro ?_ ?_); (focus (first | rfl | omega | exact fun _ _ => rfl | assumption | (split <;> omega) | (and_intros <;> first | rfl | omega | (split <;> omega)) | (dsimp only [maxLen]; and_intros <;> omega) | (simp only [n21, n22, m9]; first | omega | (and_intros <;> omega)))))
      | ((with_reducible refine Or.inl ⟨?_, ?_, ?_⟩); (focus rfl); (focus (and_intros <;> first | rfl | omega)))
      | ((with_reducible refine Or.inr (Or.inl ⟨?_, ?_⟩)); focus (and_intros <;> first | rfl | omega))
      | ((with_reducible refine Or.inr (Or.inr (Or.inl ⟨?_, ?_⟩))); focus (and_intros <;> first | rfl | omega))
      | ((with_reducible refine Or.inr (Or.inr (Or.inr ⟨?_, ?_⟩))); focus (and_intros <;> first | rfl | omega))
      | (with_reducible intro hc; (try simp only [capsP, and_true] at hc); (try (exfalso; omega)))
      | ((fail_if_success (with_reducible first | refine And.intro ?_ ?_ | refine Or.inl ?_ | intro _)); (conv => whnf); (fail_if_success (fail_if_success (with_reducible first | apply kL | apply kC | apply kF | apply kM | refine Exists.intro ?_ ?_ | refine Both.mk ?_ ?_ | refine And.intro ?_ ?_ | refine Or.inl ?_ | intro _))))))
  refine CallK.mk3 (σ := [.whole 0, .whole 1, .whole 2, .whole 19, .whole 20, .whole 5, .whole 6, .name 23]) (nl := [.one .no]) (crecv 9 relQ A3 c3 d3 0 0 (dataP 2) 8 A3_I.ok (A3_I.all (by omega))) rfl rfl (by (try simp only [List.cons_append, List.nil_append]); rfl) (by (try simp only [↓List.length_cons, ↓List.length_nil, Nat.reduceAdd]); rfl) (by (try simp only [↓List.length_cons, ↓List.length_nil, Nat.reduceAdd]); rfl) (by (try simp (maxSteps := 1000000) only [givesF, setF, updF, Fam.zeroth, Fam.rk, Ck.rk, C.rk, E.rk, T.rk, key, List.map_cons, List.map_nil, List.cons_append, List.nil_append, List.length_cons, List.length_nil, Option.map_some, Option.bind_some, Nat.reduceAdd, Nat.zero_add, Nat.add_zero, Nat.add_sub_cancel_left, Int.toNat_natCast, reps, List.all_cons, List.all_nil, C.flat, List.append_eq, Bool.not_true, Bool.and_true, Bool.or_false, Bool.or_self, Bool.not_false, List.append_nil, Bool.and_self, ↓mtG_rk, ↓winO_rk]); rfl) (by (repeat' (first | (refine And.intro ?_ ?_) | exact trivial | rfl | exact Nat.le_refl _ | exact (fun _ _ => rfl) | exact all_one (by rfl) | (simp only [Int.toNat_natCast, Nat.zero_add, Nat.add_zero]; done))) <;> (first | exact fun _ => trivial | exact fun x => mtO_le rfl | exact fun x => winO_le | exact fun x => mtO_bel rfl | exact fun x => winO_bel | exact fun x => mtR_bel rfl rfl | exact fun x => winR_bel)) ?_
  rintro v h' ⟨c4, d4, m4, p4, rfl, rfl⟩ hcaps
  rw [show recvR relQ (dataP 2) A3 = A4 from rfl, a4]
  refine ret_mk3 (by (try simp only [↓List.length_cons, ↓List.length_nil, Nat.reduceAdd]); rfl) (by (try simp (maxSteps := 1000000) only [givesF, setF, updF, Fam.zeroth, Fam.rk, Ck.rk, C.rk, E.rk, T.rk, key, List.map_cons, List.map_nil, List.cons_append, List.nil_append, List.length_cons, List.length_nil, Option.map_some, Option.bind_some, Nat.reduceAdd, Nat.zero_add, Nat.add_zero, Nat.add_sub_cancel_left, Int.toNat_natCast, reps, List.all_cons, List.all_nil, C.flat, List.append_eq, Bool.not_true, Bool.and_true, Bool.or_false, Bool.or_self, Bool.not_false, List.append_nil, Bool.and_self, ↓mtG_rk, ↓winO_rk]); rfl) (by (try simp only [givesF, setF, updF, Fam.zeroth, Fam.rk, Ck.rk, C.rk, E.rk, T.rk, key, List.map_cons, List.map_nil, List.cons_append, List.nil_append, List.length_cons, List.length_nil, Option.map_some, Option.bind_some, Nat.reduceAdd, Nat.zero_add, Nat.add_zero, Nat.add_sub_cancel_left, Int.toNat_natCast, reps, List.all_cons, List.all_nil, C.flat, List.append_eq, Bool.not_true, Bool.and_true, Bool.or_false, Bool.or_self, Bool.not_false, List.append_nil, Bool.and_self, ↓mtG_rk, ↓winO_rk]); rfl) ?_
  repeat' (first
    | ((fail_if_success (with_reducible first | apply kL | apply kC | apply kF | apply kM | refine Exists.intro ?_ ?_)); first
      | ((with_reducible refine And.intro (fun (hb : _ = true) => ?_) (fun (hb : _ = false) => ?_)) <;> (try simp only [n1, n2, n3, n4, n5, n6, n7, n8, n9, n10, n11, n12, n13, n14, n15, n16, reduceCtorEq, n17, n18, n19, n20, n21, n22] at hb) <;> (try (first | (exfalso; omega) | exact bff hb (by assumption) | exact bff (by assumption) hb)))
      | (with_reducible refine Both.mk ?_ ?_)
      | ((with_reducible refine And.intro ?_ ?_); (focus (first | rfl | omega | exact fun _ _ => rfl | assumption | (split <;> omega) | (and_intros <;> first | rfl | omega | (split <;> omega)) | (dsimp only [maxLen]; and_intros <;> omega) | (simp only [n21, n22, m9]; first | omega | (and_intros <;> omega)))))
      | ((with_reducible refine Or.inl ⟨?_, ?_, ?_⟩); (focus rfl); (focus (and_intros <;> first | rfl | omega)))
      | ((with_reducible refine Or.inr (Or.inl ⟨?_, ?_⟩)); focus (and_intros <;> first | rfl | omega))
      | ((with_reducible refine Or.inr (Or.inr (Or.inl ⟨?_, ?_⟩))); focus (and_intros <;> first | rfl | omega))
      | ((with_reducible refine Or.inr (Or.inr (Or.inr ⟨?_, ?_⟩))); focus (and_intros <;> first | rfl | omega))
      | (with_reducible intro hc; (try simp only [capsP, and_true] at hc); (try (exfalso; omega)))
      | ((fail_if_success (with_reducible first | refine And.intro ?_ ?_ | refine Or.inl ?_ | intro _)); (conv => whnf); (fail_if_success (fail_if_success (with_reducible first | apply kL | apply kC | apply kF | apply kM | refine Exists.intro ?_ ?_ | refine Both.mk ?_ ?_ | refine And.intro ?_ ?_ | refine Or.inl ?_ | intro _))))))
  refine CallK.mk3 (σ := [.whole 0, .name 1, .whole 2, .name 24, .whole 5, .name 6]) (nl := []) (cexp 9 relQ A4 1 0 d4 A4_I.ok) rfl rfl (List.append_nil _) (by (try simp only [↓List.length_cons, ↓List.length_nil, Nat.reduceAdd]); rfl) (by (try simp only [↓List.length_cons, ↓List.length_nil, Nat.reduceAdd]); rfl) (by (try simp (maxSteps := 1000000) only [givesF, setF, updF, Fam.zeroth, Fam.rk, Ck.rk, C.rk, E.rk, T.rk, key, List.map_cons, List.map_nil, List.cons_append, List.nil_append, List.length_cons, List.length_nil, Option.map_some, Option.bind_some, Nat.reduceAdd, Nat.zero_add, Nat.add_zero, Nat.add_sub_cancel_left, Int.toNat_natCast, reps, List.all_cons, List.all_nil, C.flat, List.append_eq, Bool.not_true, Bool.and_true, Bool.or_false, Bool.or_self, Bool.not_false, List.append_nil, Bool.and_self, ↓mtG_rk, ↓winO_rk]); rfl) (by (repeat' (first | (refine And.intro ?_ ?_) | exact trivial | rfl | exact Nat.le_refl _ | exact (fun _ _ => rfl) | exact all_one (by rfl) | (simp only [Int.toNat_natCast, Nat.zero_add, Nat.add_zero]; done))) <;> (first | exact fun _ => trivial | exact fun x => mtO_le rfl | exact fun x => winO_le | exact fun x => mtO_bel rfl | exact fun x => winO_bel | exact fun x => mtR_bel rfl rfl | exact fun x => winR_bel)) ?_
  rintro v h' ⟨rfl, rfl⟩ hcaps
  rw [a7]
  refine ret_mk3 (by (try simp only [↓List.length_cons, ↓List.length_nil, Nat.reduceAdd]); rfl) (by (try simp (maxSteps := 1000000) only [givesF, setF, updF, Fam.zeroth, Fam.rk, Ck.rk, C.rk, E.rk, T.rk, key, List.map_cons, List.map_nil, List.cons_append, List.nil_append, List.length_cons, List.length_nil, Option.map_some, Option.bind_some, Nat.reduceAdd, Nat.zero_add, Nat.add_zero, Nat.add_sub_cancel_left, Int.toNat_natCast, reps, List.all_cons, List.all_nil, C.flat, List.append_eq, Bool.not_true, Bool.and_true, Bool.or_false, Bool.or_self, Bool.not_false, List.append_nil, Bool.and_self, ↓mtG_rk, ↓winO_rk]); rfl) (by (try simp only [givesF, setF, updF, Fam.zeroth, Fam.rk, Ck.rk, C.rk, E.rk, T.rk, key, List.map_cons, List.map_nil, List.cons_append, List.nil_append, List.length_cons, List.length_nil, Option.map_some, Option.bind_some, Nat.reduceAdd, Nat.zero_add, Nat.add_zero, Nat.add_sub_cancel_left, Int.toNat_natCast, reps, List.all_cons, List.all_nil, C.flat, List.append_eq, Bool.not_true, Bool.and_true, Bool.or_false, Bool.or_self, Bool.not_false, List.append_nil, Bool.and_self, ↓mtG_rk, ↓winO_rk]); rfl) ?_
  repeat' (first
    | ((fail_if_success (with_reducible first | apply kL | apply kC | apply kF | apply kM | refine Exists.intro ?_ ?_)); first
      | ((with_reducible refine And.intro (fun (hb : _ = true) => ?_) (fun (hb : _ = false) => ?_)) <;> (try simp only [n1, n2, n3, n4, n5, n6, n7, n8, n9, n10, n11, n12, n13, n14, n15, n16, reduceCtorEq, n17, n18, n19, n20, n21, n22] at hb) <;> (try (first | (exfalso; omega) | exact bff hb (by assumption) | exact bff (by assumption) hb)))
      | (with_reducible refine Both.mk ?_ ?_)
      | ((with_reducible refine And.intro ?_ ?_); (focus (first | rfl | omega | exact fun _ _ => rfl | assumption | (split <;> omega) | (and_intros <;> first | rfl | omega | (split <;> omega)) | (dsimp only [maxLen]; and_intros <;> omega) | (simp only [n21, n22, m9]; first | omega | (and_intros <;> omega)))))
      | ((with_reducible refine Or.inl ⟨?_, ?_, ?_⟩); (focus rfl); (focus (and_intros <;> first | rfl | omega)))
      | ((with_reducible refine Or.inr (Or.inl ⟨?_, ?_⟩)); focus (and_intros <;> first | rfl | omega))
      | ((with_reducible refine Or.inr (Or.inr (Or.inl ⟨?_, ?_⟩))); focus (and_intros <;> first | rfl | omega))
      | ((with_reducible refine Or.inr (Or.inr (Or.inr ⟨?_, ?_⟩))); focus (and_intros <;> first | rfl | omega))
      | (with_reducible intro hc; (try simp only [capsP, and_true] at hc); (try (exfalso; omega)))
      | ((fail_if_success (with_reducible first | refine And.intro ?_ ?_ | refine Or.inl ?_ | intro _)); (conv => whnf); (fail_if_success (fail_if_success (with_reducible first | apply kL | apply kC | apply kF | apply kM | refine Exists.intro ?_ ?_ | refine Both.mk ?_ ?_ | refine And.intro ?_ ?_ | refine Or.inl ?_ | intro _))))))
  refine CallK.mk3 (σ := [.whole 0, .whole 1, .whole 2, .whole 24, .whole 25, .whole 5, .whole 6, .name 28]) (nl := [.one .no]) (crecv 9 relQ A4 c4 d4 0 0 gpP 9 A4_I.ok (A4_I.all (by omega))) rfl rfl (by (try simp only [List.cons_append, List.nil_append]); rfl) (by (try simp only [↓List.length_cons, ↓List.length_nil, Nat.reduceAdd]); rfl) (by (try simp only [↓List.length_cons, ↓List.length_nil, Nat.reduceAdd]); rfl) (by (try simp (maxSteps := 1000000) only [givesF, setF, updF, Fam.zeroth, Fam.rk, Ck.rk, C.rk, E.rk, T.rk, key, List.map_cons, List.map_nil, List.cons_append, List.nil_append, List.length_cons, List.length_nil, Option.map_some, Option.bind_some, Nat.reduceAdd, Nat.zero_add, Nat.add_zero, Nat.add_sub_cancel_left, Int.toNat_natCast, reps, List.all_cons, List.all_nil, C.flat, List.append_eq, Bool.not_true, Bool.and_true, Bool.or_false, Bool.or_self, Bool.not_false, List.append_nil, Bool.and_self, ↓mtG_rk, ↓winO_rk]); rfl) (by (repeat' (first | (refine And.intro ?_ ?_) | exact trivial | rfl | exact Nat.le_refl _ | exact (fun _ _ => rfl) | exact all_one (by rfl) | (simp only [Int.toNat_natCast, Nat.zero_add, Nat.add_zero]; done))) <;> (first | exact fun _ => trivial | exact fun x => mtO_le rfl | exact fun x => winO_le | exact fun x => mtO_bel rfl | exact fun x => winO_bel | exact fun x => mtR_bel rfl rfl | exact fun x => winR_bel)) ?_
  rintro v h' ⟨c5, d5, m5, p5, rfl, rfl⟩ hcaps
  rw [show recvR relQ gpP A4 = A5 from rfl, a5]
  refine ret_mk3 (by (try simp only [↓List.length_cons, ↓List.length_nil, Nat.reduceAdd]); rfl) (by (try simp (maxSteps := 1000000) only [givesF, setF, updF, Fam.zeroth, Fam.rk, Ck.rk, C.rk, E.rk, T.rk, key, List.map_cons, List.map_nil, List.cons_append, List.nil_append, List.length_cons, List.length_nil, Option.map_some, Option.bind_some, Nat.reduceAdd, Nat.zero_add, Nat.add_zero, Nat.add_sub_cancel_left, Int.toNat_natCast, reps, List.all_cons, List.all_nil, C.flat, List.append_eq, Bool.not_true, Bool.and_true, Bool.or_false, Bool.or_self, Bool.not_false, List.append_nil, Bool.and_self, ↓mtG_rk, ↓winO_rk]); rfl) (by (try simp only [givesF, setF, updF, Fam.zeroth, Fam.rk, Ck.rk, C.rk, E.rk, T.rk, key, List.map_cons, List.map_nil, List.cons_append, List.nil_append, List.length_cons, List.length_nil, Option.map_some, Option.bind_some, Nat.reduceAdd, Nat.zero_add, Nat.add_zero, Nat.add_sub_cancel_left, Int.toNat_natCast, reps, List.all_cons, List.all_nil, C.flat, List.append_eq, Bool.not_true, Bool.and_true, Bool.or_false, Bool.or_self, Bool.not_false, List.append_nil, Bool.and_self, ↓mtG_rk, ↓winO_rk]); rfl) ?_
  repeat' (first
    | ((fail_if_success (with_reducible first | apply kL | apply kC | apply kF | apply kM | refine Exists.intro ?_ ?_)); first
      | ((with_reducible refine And.intro (fun (hb : _ = true) => ?_) (fun (hb : _ = false) => ?_)) <;> (try simp only [n1, n2, n3, n4, n5, n6, n7, n8, n9, n10, n11, n12, n13, n14, n15, n16, reduceCtorEq, n17, n18, n19, n20, n21, n22] at hb) <;> (try (first | (exfalso; omega) | exact bff hb (by assumption) | exact bff (by assumption) hb)))
      | (with_reducible refine Both.mk ?_ ?_)
      | ((with_reducible refine And.intro ?_ ?_); (focus (first | rfl | omega | exact fun _ _ => rfl | assumption | (split <;> omega) | (and_intros <;> first | rfl | omega | (split <;> omega)) | (dsimp only [maxLen]; and_intros <;> omega) | (simp only [n21, n22, m9]; first | omega | (and_intros <;> omega)))))
      | ((with_reducible refine Or.inl ⟨?_, ?_, ?_⟩); (focus rfl); (focus (and_intros <;> first | rfl | omega)))
      | ((with_reducible refine Or.inr (Or.inl ⟨?_, ?_⟩)); focus (and_intros <;> first | rfl | omega))
      | ((with_reducible refine Or.inr (Or.inr (Or.inl ⟨?_, ?_⟩))); focus (and_intros <;> first | rfl | omega))
      | ((with_reducible refine Or.inr (Or.inr (Or.inr ⟨?_, ?_⟩))); focus (and_intros <;> first | rfl | omega))
      | (with_reducible intro hc; (try simp only [capsP, and_true] at hc); (try (exfalso; omega)))
      | ((fail_if_success (with_reducible first | refine And.intro ?_ ?_ | refine Or.inl ?_ | intro _)); (conv => whnf); (fail_if_success (fail_if_success (with_reducible first | apply kL | apply kC | apply kF | apply kM | refine Exists.intro ?_ ?_ | refine Both.mk ?_ ?_ | refine And.intro ?_ ?_ | refine Or.inl ?_ | intro _))))))
  refine CallK.mk3 (σ := [.whole 22, .whole 21, .whole 35, .whole 33]) (nl := []) (csamePs p3 1 m3 2 true true true true (some ackA) (some ackA) (by decide)) rfl rfl (List.append_nil _) (by (try simp only [↓List.length_cons, ↓List.length_nil, Nat.reduceAdd]); rfl) (by (try simp only [↓List.length_cons, ↓List.length_nil, Nat.reduceAdd]); rfl) (by (try simp (maxSteps := 1000000) only [givesF, setF, updF, Fam.zeroth, Fam.rk, Ck.rk, C.rk, E.rk, T.rk, key, List.map_cons, List.map_nil, List.cons_append, List.nil_append, List.length_cons, List.length_nil, Option.map_some, Option.bind_some, Nat.reduceAdd, Nat.zero_add, Nat.add_zero, Nat.add_sub_cancel_left, Int.toNat_natCast, reps, List.all_cons, List.all_nil, C.flat, List.append_eq, Bool.not_true, Bool.and_true, Bool.or_false, Bool.or_self, Bool.not_false, List.append_nil, Bool.and_self, ↓mtG_rk, ↓winO_rk]); rfl) (by (repeat' (first | (refine And.intro ?_ ?_) | exact trivial | rfl | exact Nat.le_refl _ | exact (fun _ _ => rfl) | exact all_one (by rfl) | (simp only [Int.toNat_natCast, Nat.zero_add, Nat.add_zero]; done))) <;> first | (first | exact fun _ => trivial | exact fun x => mtO_le rfl | exact fun x => winO_le | exact fun x => mtO_bel rfl | exact fun x => winO_bel | exact fun x => mtR_bel rfl rfl | exact fun x => winR_bel) | (intro i hi; have : i < 2 := hi; rcases (by omega : i = 0 ∨ i = 1) with rfl | rfl <;> rfl) | (intro i hi; have : i < 1 := hi; obtain rfl : i = 0 := (by omega); rfl)) ?_
  rintro v h' ⟨rfl, rfl⟩ hcaps
  rw [show sameA (some ackA) (some ackA) = true from by decide]
  refine ret_mk3 (by (try simp only [↓List.length_cons, ↓List.length_nil, Nat.reduceAdd]); rfl) (by (try simp (maxSteps := 1000000) only [givesF, setF, updF, Fam.zeroth, Fam.rk, Ck.rk, C.rk, E.rk, T.rk, key, List.map_cons, List.map_nil, List.cons_append, List.nil_append, List.length_cons, List.length_nil, Option.map_some, Option.bind_some, Nat.reduceAdd, Nat.zero_add, Nat.add_zero, Nat.add_sub_cancel_left, Int.toNat_natCast, reps, List.all_cons, List.all_nil, C.flat, List.append_eq, Bool.not_true, Bool.and_true, Bool.or_false, Bool.or_self, Bool.not_false, List.append_nil, Bool.and_self, ↓mtG_rk, ↓winO_rk]); rfl) (by (try simp only [givesF, setF, updF, Fam.zeroth, Fam.rk, Ck.rk, C.rk, E.rk, T.rk, key, List.map_cons, List.map_nil, List.cons_append, List.nil_append, List.length_cons, List.length_nil, Option.map_some, Option.bind_some, Nat.reduceAdd, Nat.zero_add, Nat.add_zero, Nat.add_sub_cancel_left, Int.toNat_natCast, reps, List.all_cons, List.all_nil, C.flat, List.append_eq, Bool.not_true, Bool.and_true, Bool.or_false, Bool.or_self, Bool.not_false, List.append_nil, Bool.and_self, ↓mtG_rk, ↓winO_rk]); rfl) ?_
  repeat' (first
    | ((fail_if_success (with_reducible first | apply kL | apply kC | apply kF | apply kM | refine Exists.intro ?_ ?_)); first
      | ((with_reducible refine And.intro (fun (hb : _ = true) => ?_) (fun (hb : _ = false) => ?_)) <;> (try simp only [n1, n2, n3, n4, n5, n6, n7, n8, n9, n10, n11, n12, n13, n14, n15, n16, reduceCtorEq, n17, n18, n19, n20, n21, n22] at hb) <;> (try (first | (exfalso; omega) | exact bff hb (by assumption) | exact bff (by assumption) hb)))
      | (with_reducible refine Both.mk ?_ ?_)
      | ((with_reducible refine And.intro ?_ ?_); (focus (first | rfl | omega | exact fun _ _ => rfl | assumption | (split <;> omega) | (and_intros <;> first | rfl | omega | (split <;> omega)) | (dsimp only [maxLen]; and_intros <;> omega) | (simp only [n21, n22, m9]; first | omega | (and_intros <;> omega)))))
      | ((with_reducible refine Or.inl ⟨?_, ?_, ?_⟩); (focus rfl); (focus (and_intros <;> first | rfl | omega)))
      | ((with_reducible refine Or.inr (Or.inl ⟨?_, ?_⟩)); focus (and_intros <;> first | rfl | omega))
      | ((with_reducible refine Or.inr (Or.inr (Or.inl ⟨?_, ?_⟩))); focus (and_intros <;> first | rfl | omega))
      | ((with_reducible refine Or.inr (Or.inr (Or.inr ⟨?_, ?_⟩))); focus (and_intros <;> first | rfl | omega))
      | (with_reducible intro hc; (try simp only [capsP, and_true] at hc); (try (exfalso; omega)))
      | ((fail_if_success (with_reducible first | refine And.intro ?_ ?_ | refine Or.inl ?_ | intro _)); (conv => whnf); (fail_if_success (fail_if_success (with_reducible first | apply kL | apply kC | apply kF | apply kM | refine Exists.intro ?_ ?_ | refine Both.mk ?_ ?_ | refine And.intro ?_ ?_ | refine Or.inl ?_ | intro _))))))
  refine CallK.mk3 (σ := [.whole 0, .whole 1, .name 2, .name 29, .whole 30]) (nl := []) (cwait 9 relQ A5.l A5.ls.length c5 d5) rfl rfl (List.append_nil _) (by (try simp only [↓List.length_cons, ↓List.length_nil, Nat.reduceAdd]); rfl) (by (try simp only [↓List.length_cons, ↓List.length_nil, Nat.reduceAdd]); rfl) (by (try simp (maxSteps := 1000000) only [givesF, setF, updF, Fam.zeroth, Fam.rk, Ck.rk, C.rk, E.rk, T.rk, key, List.map_cons, List.map_nil, List.cons_append, List.nil_append, List.length_cons, List.length_nil, Option.map_some, Option.bind_some, Nat.reduceAdd, Nat.zero_add, Nat.add_zero, Nat.add_sub_cancel_left, Int.toNat_natCast, reps, List.all_cons, List.all_nil, C.flat, List.append_eq, Bool.not_true, Bool.and_true, Bool.or_false, Bool.or_self, Bool.not_false, List.append_nil, Bool.and_self, ↓mtG_rk, ↓winO_rk]); rfl) (by (repeat' (first | (refine And.intro ?_ ?_) | exact trivial | rfl | exact Nat.le_refl _ | exact (fun _ _ => rfl) | exact all_one (by rfl) | (simp only [Int.toNat_natCast, Nat.zero_add, Nat.add_zero]; done)))) ?_
  rintro v h' ⟨rfl, rfl⟩ hcaps
  rw [a10]
  refine ret_mk3 (by (try simp only [↓List.length_cons, ↓List.length_nil, Nat.reduceAdd]); rfl) (by (try simp (maxSteps := 1000000) only [givesF, setF, updF, Fam.zeroth, Fam.rk, Ck.rk, C.rk, E.rk, T.rk, key, List.map_cons, List.map_nil, List.cons_append, List.nil_append, List.length_cons, List.length_nil, Option.map_some, Option.bind_some, Nat.reduceAdd, Nat.zero_add, Nat.add_zero, Nat.add_sub_cancel_left, Int.toNat_natCast, reps, List.all_cons, List.all_nil, C.flat, List.append_eq, Bool.not_true, Bool.and_true, Bool.or_false, Bool.or_self, Bool.not_false, List.append_nil, Bool.and_self, ↓mtG_rk, ↓winO_rk]); rfl) (by (try simp only [givesF, setF, updF, Fam.zeroth, Fam.rk, Ck.rk, C.rk, E.rk, T.rk, key, List.map_cons, List.map_nil, List.cons_append, List.nil_append, List.length_cons, List.length_nil, Option.map_some, Option.bind_some, Nat.reduceAdd, Nat.zero_add, Nat.add_zero, Nat.add_sub_cancel_left, Int.toNat_natCast, reps, List.all_cons, List.all_nil, C.flat, List.append_eq, Bool.not_true, Bool.and_true, Bool.or_false, Bool.or_self, Bool.not_false, List.append_nil, Bool.and_self, ↓mtG_rk, ↓winO_rk]); rfl) ?_
  repeat' (first
    | ((fail_if_success (with_reducible first | apply kL | apply kC | apply kF | apply kM | refine Exists.intro ?_ ?_)); first
      | ((with_reducible refine And.intro (fun (hb : _ = true) => ?_) (fun (hb : _ = false) => ?_)) <;> (try simp only [n1, n2, n3, n4, n5, n6, n7, n8, n9, n10, n11, n12, n13, n14, n15, n16, reduceCtorEq, n17, n18, n19, n20, n21, n22] at hb) <;> (try (first | (exfalso; omega) | exact bff hb (by assumption) | exact bff (by assumption) hb)))
      | (with_reducible refine Both.mk ?_ ?_)
      | ((with_reducible refine And.intro ?_ ?_); (focus (first | rfl | omega | exact fun _ _ => rfl | assumption | (split <;> omega) | (and_intros <;> first | rfl | omega | (split <;> omega)) | (dsimp only [maxLen]; and_intros <;> omega) | (simp only [n21, n22, m9]; first | omega | (and_intros <;> omega)))))
      | ((with_reducible refine Or.inl ⟨?_, ?_, ?_⟩); (focus rfl); (focus (and_intros <;> first | rfl | omega)))
      | ((with_reducible refine Or.inr (Or.inl ⟨?_, ?_⟩)); focus (and_intros <;> first | rfl | omega))
      | ((with_reducible refine Or.inr (Or.inr (Or.inl ⟨?_, ?_⟩))); focus (and_intros <;> first | rfl | omega))
      | ((with_reducible refine Or.inr (Or.inr (Or.inr ⟨?_, ?_⟩))); focus (and_intros <;> first | rfl | omega))
      | (with_reducible intro hc; (try simp only [capsP, and_true] at hc); (try (exfalso; omega)))
      | ((fail_if_success (with_reducible first | refine And.intro ?_ ?_ | refine Or.inl ?_ | intro _)); (conv => whnf); (fail_if_success (fail_if_success (with_reducible first | apply kL | apply kC | apply kF | apply kM | refine Exists.intro ?_ ?_ | refine Both.mk ?_ ?_ | refine And.intro ?_ ?_ | refine Or.inl ?_ | intro _))))))
  refine CallK.mk3 (σ := [.whole 0, .whole 1, .name 2, .name 29, .whole 30]) (nl := []) (ctake 9 relQ A5.l A5.ls.length c5 d5 9 2 (by have := A5_I.l; omega)) rfl rfl (List.append_nil _) (by (try simp only [↓List.length_cons, ↓List.length_nil, Nat.reduceAdd]); rfl) (by (try simp only [↓List.length_cons, ↓List.length_nil, Nat.reduceAdd]); rfl) (by (try simp (maxSteps := 1000000) only [givesF, setF, updF, Fam.zeroth, Fam.rk, Ck.rk, C.rk, E.rk, T.rk, key, List.map_cons, List.map_nil, List.cons_append, List.nil_append, List.length_cons, List.length_nil, Option.map_some, Option.bind_some, Nat.reduceAdd, Nat.zero_add, Nat.add_zero, Nat.add_sub_cancel_left, Int.toNat_natCast, reps, List.all_cons, List.all_nil, C.flat, List.append_eq, Bool.not_true, Bool.and_true, Bool.or_false, Bool.or_self, Bool.not_false, List.append_nil, Bool.and_self, ↓mtG_rk, ↓winO_rk]); rfl) (by (repeat' (first | (refine And.intro ?_ ?_) | exact trivial | rfl | exact Nat.le_refl _ | exact (fun _ _ => rfl) | exact all_one (by rfl) | (simp only [Int.toNat_natCast, Nat.zero_add, Nat.add_zero]; done))) <;> (rw [a10])) ?_
  rintro v h' ⟨cr, co, rfl, rfl⟩ hcaps
  rw [a11, a13]
  refine ret_mk3 (by (try simp only [↓List.length_cons, ↓List.length_nil, Nat.reduceAdd]); rfl) (by (try simp (maxSteps := 1000000) only [givesF, setF, updF, Fam.zeroth, Fam.rk, Ck.rk, C.rk, E.rk, T.rk, key, List.map_cons, List.map_nil, List.cons_append, List.nil_append, List.length_cons, List.length_nil, Option.map_some, Option.bind_some, Nat.reduceAdd, Nat.zero_add, Nat.add_zero, Nat.add_sub_cancel_left, Int.toNat_natCast, reps, List.all_cons, List.all_nil, C.flat, List.append_eq, Bool.not_true, Bool.and_true, Bool.or_false, Bool.or_self, Bool.not_false, List.append_nil, Bool.and_self, ↓mtG_rk, ↓winO_rk]); rfl) (by (try simp only [givesF, setF, updF, Fam.zeroth, Fam.rk, Ck.rk, C.rk, E.rk, T.rk, key, List.map_cons, List.map_nil, List.cons_append, List.nil_append, List.length_cons, List.length_nil, Option.map_some, Option.bind_some, Nat.reduceAdd, Nat.zero_add, Nat.add_zero, Nat.add_sub_cancel_left, Int.toNat_natCast, reps, List.all_cons, List.all_nil, C.flat, List.append_eq, Bool.not_true, Bool.and_true, Bool.or_false, Bool.or_self, Bool.not_false, List.append_nil, Bool.and_self, ↓mtG_rk, ↓winO_rk]); rfl) ?_
  repeat' (first
    | ((fail_if_success (with_reducible first | apply kL | apply kC | apply kF | apply kM | refine Exists.intro ?_ ?_)); first
      | ((with_reducible refine And.intro (fun (hb : _ = true) => ?_) (fun (hb : _ = false) => ?_)) <;> (try simp only [n1, n2, n3, n4, n5, n6, n7, n8, n9, n10, n11, n12, n13, n14, n15, n16, reduceCtorEq, n17, n18, n19, n20, n21, n22] at hb) <;> (try (first | (exfalso; omega) | exact bff hb (by assumption) | exact bff (by assumption) hb)))
      | (with_reducible refine Both.mk ?_ ?_)
      | ((with_reducible refine And.intro ?_ ?_); (focus (first | rfl | omega | exact fun _ _ => rfl | assumption | (split <;> omega) | (and_intros <;> first | rfl | omega | (split <;> omega)) | (dsimp only [maxLen]; and_intros <;> omega) | (simp only [n21, n22, m9]; first | omega | (and_intros <;> omega)))))
      | ((with_reducible refine Or.inl ⟨?_, ?_, ?_⟩); (focus rfl); (focus (and_intros <;> first | rfl | omega)))
      | ((with_reducible refine Or.inr (Or.inl ⟨?_, ?_⟩)); focus (and_intros <;> first | rfl | omega))
      | ((with_reducible refine Or.inr (Or.inr (Or.inl ⟨?_, ?_⟩))); focus (and_intros <;> first | rfl | omega))
      | ((with_reducible refine Or.inr (Or.inr (Or.inr ⟨?_, ?_⟩))); focus (and_intros <;> first | rfl | omega))
      | (with_reducible intro hc; (try simp only [capsP, and_true] at hc); (try (exfalso; omega)))
      | ((fail_if_success (with_reducible first | refine And.intro ?_ ?_ | refine Or.inl ?_ | intro _)); (conv => whnf); (fail_if_success (fail_if_success (with_reducible first | apply kL | apply kC | apply kF | apply kM | refine Exists.intro ?_ ?_ | refine Both.mk ?_ ?_ | refine And.intro ?_ ?_ | refine Or.inl ?_ | intro _))))))
  refine CallK.mk3 (σ := [.whole 0, .name 1, .name 2, .whole 29]) (nl := []) (closses 9 relQ A5.ls d5 (by rw [a9]; decide)) rfl rfl (List.append_nil _) (by (try simp only [↓List.length_cons, ↓List.length_nil, Nat.reduceAdd]); rfl) (by (try simp only [↓List.length_cons, ↓List.length_nil, Nat.reduceAdd]); rfl) (by (try simp (maxSteps := 1000000) only [givesF, setF, updF, Fam.zeroth, Fam.rk, Ck.rk, C.rk, E.rk, T.rk, key, List.map_cons, List.map_nil, List.cons_append, List.nil_append, List.length_cons, List.length_nil, Option.map_some, Option.bind_some, Nat.reduceAdd, Nat.zero_add, Nat.add_zero, Nat.add_sub_cancel_left, Int.toNat_natCast, reps, List.all_cons, List.all_nil, C.flat, List.append_eq, Bool.not_true, Bool.and_true, Bool.or_false, Bool.or_self, Bool.not_false, List.append_nil, Bool.and_self, ↓mtG_rk, ↓winO_rk]); rfl) (by (repeat' (first | (refine And.intro ?_ ?_) | exact trivial | rfl | exact Nat.le_refl _ | exact (fun _ _ => rfl) | exact all_one (by rfl) | (simp only [Int.toNat_natCast, Nat.zero_add, Nat.add_zero]; done)))) ?_
  rintro v h' ⟨cq, rfl, rfl⟩ hcaps
  refine ret_mk3 (by (try simp only [↓List.length_cons, ↓List.length_nil, Nat.reduceAdd]); rfl) (by (try simp (maxSteps := 1000000) only [givesF, setF, updF, Fam.zeroth, Fam.rk, Ck.rk, C.rk, E.rk, T.rk, key, List.map_cons, List.map_nil, List.cons_append, List.nil_append, List.length_cons, List.length_nil, Option.map_some, Option.bind_some, Nat.reduceAdd, Nat.zero_add, Nat.add_zero, Nat.add_sub_cancel_left, Int.toNat_natCast, reps, List.all_cons, List.all_nil, C.flat, List.append_eq, Bool.not_true, Bool.and_true, Bool.or_false, Bool.or_self, Bool.not_false, List.append_nil, Bool.and_self, ↓mtG_rk, ↓winO_rk]); rfl) (by (try simp only [givesF, setF, updF, Fam.zeroth, Fam.rk, Ck.rk, C.rk, E.rk, T.rk, key, List.map_cons, List.map_nil, List.cons_append, List.nil_append, List.length_cons, List.length_nil, Option.map_some, Option.bind_some, Nat.reduceAdd, Nat.zero_add, Nat.add_zero, Nat.add_sub_cancel_left, Int.toNat_natCast, reps, List.all_cons, List.all_nil, C.flat, List.append_eq, Bool.not_true, Bool.and_true, Bool.or_false, Bool.or_self, Bool.not_false, List.append_nil, Bool.and_self, ↓mtG_rk, ↓winO_rk]); rfl) ?_
  repeat' (first
    | ((fail_if_success (with_reducible first | apply kL | apply kC | apply kF | apply kM | refine Exists.intro ?_ ?_)); first
      | ((with_reducible refine And.intro (fun (hb : _ = true) => ?_) (fun (hb : _ = false) => ?_)) <;> (try simp only [n1, n2, n3, n4, n5, n6, n7, n8, n9, n10, n11, n12, n13, n14, n15, n16, reduceCtorEq, n17, n18, n19, n20, n21, n22] at hb) <;> (try (first | (exfalso; omega) | exact bff hb (by assumption) | exact bff (by assumption) hb)))
      | (with_reducible refine Both.mk ?_ ?_)
      | ((with_reducible refine And.intro ?_ ?_); (focus (first | rfl | omega | exact fun _ _ => rfl | assumption | (split <;> omega) | (and_intros <;> first | rfl | omega | (split <;> omega)) | (dsimp only [maxLen]; and_intros <;> omega) | (simp only [n21, n22, m9]; first | omega | (and_intros <;> omega)))))
      | ((with_reducible refine Or.inl ⟨?_, ?_, ?_⟩); (focus rfl); (focus (and_intros <;> first | rfl | omega)))
      | ((with_reducible refine Or.inr (Or.inl ⟨?_, ?_⟩)); focus (and_intros <;> first | rfl | omega))
      | ((with_reducible refine Or.inr (Or.inr (Or.inl ⟨?_, ?_⟩))); focus (and_intros <;> first | rfl | omega))
      | ((with_reducible refine Or.inr (Or.inr (Or.inr ⟨?_, ?_⟩))); focus (and_intros <;> first | rfl | omega))
      | (with_reducible intro hc; (try simp only [capsP, and_true] at hc); (try (exfalso; omega)))
      | ((fail_if_success (with_reducible first | refine And.intro ?_ ?_ | refine Or.inl ?_ | intro _)); (conv => whnf); (fail_if_success (fail_if_success (with_reducible first | apply kL | apply kC | apply kF | apply kM | refine Exists.intro ?_ ?_ | refine Both.mk ?_ ?_ | refine And.intro ?_ ?_ | refine Or.inl ?_ | intro _))))))
  refine CallK.mk3 (σ := [.whole 39]) (nl := []) (cplain true A5.ls cq (by rw [a9]; decide)) rfl rfl (List.append_nil _) (by (try simp only [↓List.length_cons, ↓List.length_nil, Nat.reduceAdd]); rfl) (by (try simp only [↓List.length_cons, ↓List.length_nil, Nat.reduceAdd]); rfl) (by (try simp (maxSteps := 1000000) only [givesF, setF, updF, Fam.zeroth, Fam.rk, Ck.rk, C.rk, E.rk, T.rk, key, List.map_cons, List.map_nil, List.cons_append, List.nil_append, List.length_cons, List.length_nil, Option.map_some, Option.bind_some, Nat.reduceAdd, Nat.zero_add, Nat.add_zero, Nat.add_sub_cancel_left, Int.toNat_natCast, reps, List.all_cons, List.all_nil, C.flat, List.append_eq, Bool.not_true, Bool.and_true, Bool.or_false, Bool.or_self, Bool.not_false, List.append_nil, Bool.and_self, ↓mtG_rk, ↓winO_rk]); rfl) (by (repeat' (first | (refine And.intro ?_ ?_) | exact trivial | rfl | exact Nat.le_refl _ | exact (fun _ _ => rfl) | exact all_one (by rfl) | (simp only [Int.toNat_natCast, Nat.zero_add, Nat.add_zero]; done)))) ?_
  rintro v h' ⟨cp, rfl, rfl⟩ hcaps
  refine ret_mk3 (by (try simp only [↓List.length_cons, ↓List.length_nil, Nat.reduceAdd]); rfl) (by (try simp (maxSteps := 1000000) only [givesF, setF, updF, Fam.zeroth, Fam.rk, Ck.rk, C.rk, E.rk, T.rk, key, List.map_cons, List.map_nil, List.cons_append, List.nil_append, List.length_cons, List.length_nil, Option.map_some, Option.bind_some, Nat.reduceAdd, Nat.zero_add, Nat.add_zero, Nat.add_sub_cancel_left, Int.toNat_natCast, reps, List.all_cons, List.all_nil, C.flat, List.append_eq, Bool.not_true, Bool.and_true, Bool.or_false, Bool.or_self, Bool.not_false, List.append_nil, Bool.and_self, ↓mtG_rk, ↓winO_rk]); rfl) (by (try simp only [givesF, setF, updF, Fam.zeroth, Fam.rk, Ck.rk, C.rk, E.rk, T.rk, key, List.map_cons, List.map_nil, List.cons_append, List.nil_append, List.length_cons, List.length_nil, Option.map_some, Option.bind_some, Nat.reduceAdd, Nat.zero_add, Nat.add_zero, Nat.add_sub_cancel_left, Int.toNat_natCast, reps, List.all_cons, List.all_nil, C.flat, List.append_eq, Bool.not_true, Bool.and_true, Bool.or_false, Bool.or_self, Bool.not_false, List.append_nil, Bool.and_self, ↓mtG_rk, ↓winO_rk]); rfl) ?_
  repeat' (first
    | ((fail_if_success (with_reducible first | apply kL | apply kC | apply kF | apply kM | refine Exists.intro ?_ ?_)); first
      | ((with_reducible refine And.intro (fun (hb : _ = true) => ?_) (fun (hb : _ = false) => ?_)) <;> (try simp only [n1, n2, n3, n4, n5, n6, n7, n8, n9, n10, n11, n12, n13, n14, n15, n16, reduceCtorEq, n17, n18, n19, n20, n21, n22] at hb) <;> (try (first | (exfalso; omega) | exact bff hb (by assumption) | exact bff (by assumption) hb)))
      | (with_reducible refine Both.mk ?_ ?_)
      | ((with_reducible refine And.intro ?_ ?_); (focus (first | rfl | omega | exact fun _ _ => rfl | assumption | (split <;> omega) | (and_intros <;> first | rfl | omega | (split <;> omega)) | (dsimp only [maxLen]; and_intros <;> omega) | (simp only [n21, n22, m9]; first | omega | (and_intros <;> omega)))))
      | ((with_reducible refine Or.inl ⟨?_, ?_, ?_⟩); (focus rfl); (focus (and_intros <;> first | rfl | omega)))
      | ((with_reducible refine Or.inr (Or.inl ⟨?_, ?_⟩)); focus (and_intros <;> first | rfl | omega))
      | ((with_reducible refine Or.inr (Or.inr (Or.inl ⟨?_, ?_⟩))); focus (and_intros <;> first | rfl | omega))
      | ((with_reducible refine Or.inr (Or.inr (Or.inr ⟨?_, ?_⟩))); focus (and_intros <;> first | rfl | omega))
      | (with_reducible intro hc; (try simp only [capsP, and_true] at hc); (try (exfalso; omega)))
      | ((fail_if_success (with_reducible first | refine And.intro ?_ ?_ | refine Or.inl ?_ | intro _)); (conv => whnf); (fail_if_success (fail_if_success (with_reducible first | apply kL | apply kC | apply kF | apply kM | refine Exists.intro ?_ ?_ | refine Both.mk ?_ ?_ | refine And.intro ?_ ?_ | refine Or.inl ?_ | intro _))))))
  refine CallK.mk3 (σ := [.whole 40, .whole 41]) (nl := []) (csameL cp 1 true true A5.ls [(1, 4)] (by rw [a9]; decide)) rfl rfl (List.append_nil _) (by (try simp only [↓List.length_cons, ↓List.length_nil, Nat.reduceAdd]); rfl) (by (try simp only [↓List.length_cons, ↓List.length_nil, Nat.reduceAdd]); rfl) (by (try simp (maxSteps := 1000000) only [givesF, setF, updF, Fam.zeroth, Fam.rk, Ck.rk, C.rk, E.rk, T.rk, key, List.map_cons, List.map_nil, List.cons_append, List.nil_append, List.length_cons, List.length_nil, Option.map_some, Option.bind_some, Nat.reduceAdd, Nat.zero_add, Nat.add_zero, Nat.add_sub_cancel_left, Int.toNat_natCast, reps, List.all_cons, List.all_nil, C.flat, List.append_eq, Bool.not_true, Bool.and_true, Bool.or_false, Bool.or_self, Bool.not_false, List.append_nil, Bool.and_self, ↓mtG_rk, ↓winO_rk]); rfl) (by (repeat' (first | (refine And.intro ?_ ?_) | exact trivial | rfl | exact Nat.le_refl _ | exact (fun _ _ => rfl) | exact all_one (by rfl) | (simp only [Int.toNat_natCast, Nat.zero_add, Nat.add_zero]; done))) <;> (intro i hi; have : i < 1 := hi; obtain rfl : i = 0 := (by omega); rfl)) ?_
  rintro v h' ⟨rfl, rfl⟩ hcaps
  rw [show decide (A5.ls = [(1, 4)]) = true from decide_eq_true a9]
  refine ret_mk3 (by (try simp only [↓List.length_cons, ↓List.length_nil, Nat.reduceAdd]); rfl) (by (try simp (maxSteps := 1000000) only [givesF, setF, updF, Fam.zeroth, Fam.rk, Ck.rk, C.rk, E.rk, T.rk, key, List.map_cons, List.map_nil, List.cons_append, List.nil_append, List.length_cons, List.length_nil, Option.map_some, Option.bind_some, Nat.reduceAdd, Nat.zero_add, Nat.add_zero, Nat.add_sub_cancel_left, Int.toNat_natCast, reps, List.all_cons, List.all_nil, C.flat, List.append_eq, Bool.not_true, Bool.and_true, Bool.or_false, Bool.or_self, Bool.not_false, List.append_nil, Bool.and_self, ↓mtG_rk, ↓winO_rk]); rfl) (by (try simp only [givesF, setF, updF, Fam.zeroth, Fam.rk, Ck.rk, C.rk, E.rk, T.rk, key, List.map_cons, List.map_nil, List.cons_append, List.nil_append, List.length_cons, List.length_nil, Option.map_some, Option.bind_some, Nat.reduceAdd, Nat.zero_add, Nat.add_zero, Nat.add_sub_cancel_left, Int.toNat_natCast, reps, List.all_cons, List.all_nil, C.flat, List.append_eq, Bool.not_true, Bool.and_true, Bool.or_false, Bool.or_self, Bool.not_false, List.append_nil, Bool.and_self, ↓mtG_rk, ↓winO_rk]); rfl) ?_
  repeat' (first
    | ((fail_if_success (with_reducible first | apply kL | apply kC | apply kF | apply kM | refine Exists.intro ?_ ?_)); first
      | ((with_reducible refine And.intro (fun (hb : _ = true) => ?_) (fun (hb : _ = false) => ?_)) <;> (try simp only [n1, n2, n3, n4, n5, n6, n7, n8, n9, n10, n11, n12, n13, n14, n15, n16, reduceCtorEq, n17, n18, n19, n20, n21, n22] at hb) <;> (try (first | (exfalso; omega) | exact bff hb (by assumption) | exact bff (by assumption) hb)))
      | (with_reducible refine Both.mk ?_ ?_)
      | ((with_reducible refine And.intro ?_ ?_); (focus (first | rfl | omega | exact fun _ _ => rfl | assumption | (split <;> omega) | (and_intros <;> first | rfl | omega | (split <;> omega)) | (dsimp only [maxLen]; and_intros <;> omega) | (simp only [n21, n22, m9]; first | omega | (and_intros <;> omega)))))
      | ((with_reducible refine Or.inl ⟨?_, ?_, ?_⟩); (focus rfl); (focus (and_intros <;> first | rfl | omega)))
      | ((with_reducible refine Or.inr (Or.inl ⟨?_, ?_⟩)); focus (and_intros <;> first | rfl | omega))
      | ((with_reducible refine Or.inr (Or.inr (Or.inl ⟨?_, ?_⟩))); focus (and_intros <;> first | rfl | omega))
      | ((with_reducible refine Or.inr (Or.inr (Or.inr ⟨?_, ?_⟩))); focus (and_intros <;> first | rfl | omega))
      | (with_reducible intro hc; (try simp only [capsP, and_true] at hc); (try (exfalso; omega)))
      | ((fail_if_success (with_reducible first | refine And.intro ?_ ?_ | refine Or.inl ?_ | intro _)); (conv => whnf); (fail_if_success (fail_if_success (with_reducible first | apply kL | apply kC | apply kF | apply kM | refine Exists.intro ?_ ?_ | refine Both.mk ?_ ?_ | refine And.intro ?_ ?_ | refine Or.inl ?_ | intro _))))))
  refine CallK.mk3 (σ := [.whole 0, .name 1, .whole 2, .name 38, .whole 5, .name 6]) (nl := []) (cexp 9 relQ A6 1 0 0 A6_ok) rfl rfl (List.append_nil _) (by (try simp only [↓List.length_cons, ↓List.length_nil, Nat.reduceAdd]); rfl) (by (try simp only [↓List.length_cons, ↓List.length_nil, Nat.reduceAdd]); rfl) (by (try simp (maxSteps := 1000000) only [givesF, setF, updF, Fam.zeroth, Fam.rk, Ck.rk, C.rk, E.rk, T.rk, key, List.map_cons, List.map_nil, List.cons_append, List.nil_append, List.length_cons, List.length_nil, Option.map_some, Option.bind_some, Nat.reduceAdd, Nat.zero_add, Nat.add_zero, Nat.add_sub_cancel_left, Int.toNat_natCast, reps, List.all_cons, List.all_nil, C.flat, List.append_eq, Bool.not_true, Bool.and_true, Bool.or_false, Bool.or_self, Bool.not_false, List.append_nil, Bool.and_self, ↓mtG_rk, ↓winO_rk]); rfl) (by (repeat' (first | (refine And.intro ?_ ?_) | exact trivial | rfl | exact Nat.le_refl _ | exact (fun _ _ => rfl) | exact all_one (by rfl) | (simp only [Int.toNat_natCast, Nat.zero_add, Nat.add_zero]; done))) <;> (first | exact fun _ => trivial | exact fun x => mtO_le rfl | exact fun x => winO_le | exact fun x => mtO_bel rfl | exact fun x => winO_bel | exact fun x => mtR_bel rfl rfl | exact fun x => winR_bel)) ?_
  rintro v h' ⟨rfl, rfl⟩ hcaps
  rw [a14]
  refine ret_mk3 (by (try simp only [↓List.length_cons, ↓List.length_nil, Nat.reduceAdd]); rfl) (by (try simp (maxSteps := 1000000) only [givesF, setF, updF, Fam.zeroth, Fam.rk, Ck.rk, C.rk, E.rk, T.rk, key, List.map_cons, List.map_nil, List.cons_append, List.nil_append, List.length_cons, List.length_nil, Option.map_some, Option.bind_some, Nat.reduceAdd, Nat.zero_add, Nat.add_zero, Nat.add_sub_cancel_left, Int.toNat_natCast, reps, List.all_cons, List.all_nil, C.flat, List.append_eq, Bool.not_true, Bool.and_true, Bool.or_false, Bool.or_self, Bool.not_false, List.append_nil, Bool.and_self, ↓mtG_rk, ↓winO_rk]); rfl) (by (try simp only [givesF, setF, updF, Fam.zeroth, Fam.rk, Ck.rk, C.rk, E.rk, T.rk, key, List.map_cons, List.map_nil, List.cons_append, List.nil_append, List.length_cons, List.length_nil, Option.map_some, Option.bind_some, Nat.reduceAdd, Nat.zero_add, Nat.add_zero, Nat.add_sub_cancel_left, Int.toNat_natCast, reps, List.all_cons, List.all_nil, C.flat, List.append_eq, Bool.not_true, Bool.and_true, Bool.or_false, Bool.or_self, Bool.not_false, List.append_nil, Bool.and_self, ↓mtG_rk, ↓winO_rk]); rfl) ?_
  repeat' (first
    | ((fail_if_success (with_reducible first | apply kL | apply kC | apply kF | apply kM | refine Exists.intro ?_ ?_)); first
      | ((with_reducible refine And.intro (fun (hb : _ = true) => ?_) (fun (hb : _ = false) => ?_)) <;> (try simp only [n1, n2, n3, n4, n5, n6, n7, n8, n9, n10, n11, n12, n13, n14, n15, n16, reduceCtorEq, n17, n18, n19, n20, n21, n22] at hb) <;> (try (first | (exfalso; omega) | exact bff hb (by assumption) | exact bff (by assumption) hb)))
      | (with_reducible refine Both.mk ?_ ?_)
      | ((with_reducible refine And.intro ?_ ?_); (focus (first | rfl | omega | exact fun _ _ => rfl | assumption | (split <;> omega) | (and_intros <;> first | rfl | omega | (split <;> omega)) | (dsimp only [maxLen]; and_intros <;> omega) | (simp only [n21, n22, m9]; first | omega | (and_intros <;> omega)))))
      | ((with_reducible refine Or.inl ⟨?_, ?_, ?_⟩); (focus rfl); (focus (and_intros <;> first | rfl | omega)))
      | ((with_reducible refine Or.inr (Or.inl ⟨?_, ?_⟩)); focus (and_intros <;> first | rfl | omega))
      | ((with_reducible refine Or.inr (Or.inr (Or.inl ⟨?_, ?_⟩))); focus (and_intros <;> first | rfl | omega))
      | ((with_reducible refine Or.inr (Or.inr (Or.inr ⟨?_, ?_⟩))); focus (and_intros <;> first | rfl | omega))
      | (with_reducible intro hc; (try simp only [capsP, and_true] at hc); (try (exfalso; omega)))
      | ((fail_if_success (with_reducible first | refine And.intro ?_ ?_ | refine Or.inl ?_ | intro _)); (conv => whnf); (fail_if_success (fail_if_success (with_reducible first | apply kL | apply kC | apply kF | apply kM | refine Exists.intro ?_ ?_ | refine Both.mk ?_ ?_ | refine And.intro ?_ ?_ | refine Or.inl ?_ | intro _))))))
  refine CallK.mk3 (σ := [.whole 0, .whole 1, .name 2, .name 38, .whole 36]) (nl := []) (cwait 9 relQ A6.l 0 cr 0) rfl rfl (List.append_nil _) (by (try simp only [↓List.length_cons, ↓List.length_nil, Nat.reduceAdd]); rfl) (by (try simp only [↓List.length_cons, ↓List.length_nil, Nat.reduceAdd]); rfl) (by (try simp (maxSteps := 1000000) only [givesF, setF, updF, Fam.zeroth, Fam.rk, Ck.rk, C.rk, E.rk, T.rk, key, List.map_cons, List.map_nil, List.cons_append, List.nil_append, List.length_cons, List.length_nil, Option.map_some, Option.bind_some, Nat.reduceAdd, Nat.zero_add, Nat.add_zero, Nat.add_sub_cancel_left, Int.toNat_natCast, reps, List.all_cons, List.all_nil, C.flat, List.append_eq, Bool.not_true, Bool.and_true, Bool.or_false, Bool.or_self, Bool.not_false, List.append_nil, Bool.and_self, ↓mtG_rk, ↓winO_rk]); rfl) (by (repeat' (first | (refine And.intro ?_ ?_) | exact trivial | rfl | exact Nat.le_refl _ | exact (fun _ _ => rfl) | exact all_one (by rfl) | (simp only [Int.toNat_natCast, Nat.zero_add, Nat.add_zero]; done))) <;> (exact a11)) ?_
  rintro v h' ⟨rfl, rfl⟩ hcaps
  rw [show A6.l.length = 1 from a11]
  refine ret_mk3 (by (try simp only [↓List.length_cons, ↓List.length_nil, Nat.reduceAdd]); rfl) (by (try simp (maxSteps := 1000000) only [givesF, setF, updF, Fam.zeroth, Fam.rk, Ck.rk, C.rk, E.rk, T.rk, key, List.map_cons, List.map_nil, List.cons_append, List.nil_append, List.length_cons, List.length_nil, Option.map_some, Option.bind_some, Nat.reduceAdd, Nat.zero_add, Nat.add_zero, Nat.add_sub_cancel_left, Int.toNat_natCast, reps, List.all_cons, List.all_nil, C.flat, List.append_eq, Bool.not_true, Bool.and_true, Bool.or_false, Bool.or_self, Bool.not_false, List.append_nil, Bool.and_self, ↓mtG_rk, ↓winO_rk]); rfl) (by (try simp only [givesF, setF, updF, Fam.zeroth, Fam.rk, Ck.rk, C.rk, E.rk, T.rk, key, List.map_cons, List.map_nil, List.cons_append, List.nil_append, List.length_cons, List.length_nil, Option.map_some, Option.bind_some, Nat.reduceAdd, Nat.zero_add, Nat.add_zero, Nat.add_sub_cancel_left, Int.toNat_natCast, reps, List.all_cons, List.all_nil, C.flat, List.append_eq, Bool.not_true, Bool.and_true, Bool.or_false, Bool.or_self, Bool.not_false, List.append_nil, Bool.and_self, ↓mtG_rk, ↓winO_rk]); rfl) ?_
  repeat' (first
    | ((fail_if_success (with_reducible first | apply kL | apply kC | apply kF | apply kM | refine Exists.intro ?_ ?_)); first
      | ((with_reducible refine And.intro (fun (hb : _ = true) => ?_) (fun (hb : _ = false) => ?_)) <;> (try simp only [n1, n2, n3, n4, n5, n6, n7, n8, n9, n10, n11, n12, n13, n14, n15, n16, reduceCtorEq, n17, n18, n19, n20, n21, n22] at hb) <;> (try (first | (exfalso; omega) | exact bff hb (by assumption) | exact bff (by assumption) hb)))
      | (with_reducible refine Both.mk ?_ ?_)
      | ((with_reducible refine And.intro ?_ ?_); (focus (first | rfl | omega | exact fun _ _ => rfl | assumption | (split <;> omega) | (and_intros <;> first | rfl | omega | (split <;> omega)) | (dsimp only [maxLen]; and_intros <;> omega) | (simp only [n21, n22, m9]; first | omega | (and_intros <;> omega)))))
      | ((with_reducible refine Or.inl ⟨?_, ?_, ?_⟩); (focus rfl); (focus (and_intros <;> first | rfl | omega)))
      | ((with_reducible refine Or.inr (Or.inl ⟨?_, ?_⟩)); focus (and_intros <;> first | rfl | omega))
      | ((with_reducible refine Or.inr (Or.inr (Or.inl ⟨?_, ?_⟩))); focus (and_intros <;> first | rfl | omega))
      | ((with_reducible refine Or.inr (Or.inr (Or.inr ⟨?_, ?_⟩))); focus (and_intros <;> first | rfl | omega))
      | (with_reducible intro hc; (try simp only [capsP, and_true] at hc); (try (exfalso; omega)))
      | ((fail_if_success (with_reducible first | refine And.intro ?_ ?_ | refine Or.inl ?_ | intro _)); (conv => whnf); (fail_if_success (fail_if_success (with_reducible first | apply kL | apply kC | apply kF | apply kM | refine Exists.intro ?_ ?_ | refine Both.mk ?_ ?_ | refine And.intro ?_ ?_ | refine Or.inl ?_ | intro _))))))
  all_goals (
    refine FinK.mk ⟨[], _, _, ⟨rfl, rfl⟩, ?_⟩; (repeat' (first | (refine And.intro ?_ ?_) | exact trivial | rfl | exact Nat.le_refl _ | exact (fun _ _ => rfl) | exact all_one (by rfl) | (simp only [Int.toNat_natCast, Nat.zero_add, Nat.add_zero]; done))))
end Go.Proofs.Ytgcofipbdidhmaa

namespace Go.Proofs.Ytgcofipbdidhmaa
open Go.X
set_option linter.unusedVariables false

/-! ### A reliable reader that receives samples of known contents, in any order -/
/-- The samples of a writer: number n is smp n. -/
structure Src (smp : Int → Smp) (N : Int) : Prop where
  hN : 1 ≤ N ∧ N ≤ 200
  w : ∀ n, (smp n).w = 1
  q : ∀ n, (smp n).q = n
  t : ∀ n, 1 ≤ n → n ≤ N → 0 ≤ (smp n).t ∧ (smp n).t ≤ 1099511627776
  p : ∀ n, 1 ≤ n → n ≤ N → (smp n).p.size ≤ 2000

/-- What was received is S; all below the expected number is delivered. -/
structure Pre (smp : Int → Smp) (N : Int) (S : Int → Bool) (r : Rs) : Prop where
  ls : r.ls = []
  l : r.l = (List.range (r.ex - 1).toNat).map fun (i : Nat) => smp ((i : Int) + 1)
  W : ∀ n, wget r.W n = if S n = true ∧ r.ex ≤ n then some ⟨1, smp n⟩ else none
  below : ∀ n, 1 ≤ n → n < r.ex → S n = true
  rg : ∀ n, S n = true → 1 ≤ n ∧ n ≤ N
  lo : 1 ≤ r.ex
  hi : r.ex ≤ N + 1
  ok : WOk r.W r.ex
structure St (smp : Int → Smp) (N : Int) (S : Int → Bool) (r : Rs) : Prop extends Pre smp N S r where
  at' : S r.ex = false

theorem wget_ne (W : Win) (m n : Int) : wget (wne m W) n = if n = m then none else wget W n := by
  unfold wget wne
  rw [List.find?_filter]
  by_cases h : n = m
  · subst h
    rw [if_pos rfl, Option.map_eq_none_iff, List.find?_eq_none]
    intro e he
    simp
  · rw [if_neg h]
    congr 1
    congr 1
    funext e
    by_cases h2 : e.2.1 = n
    · simp [h2, h]
    · simp [h2]

theorem wget_put (r : Rs) (m : Int) (s : Slt) (n : Int) (hno : wget r.W m = none) : wget (putW m s r).W n = if n = m then some s else wget r.W n := by
  unfold wget putW
  simp only [List.find?_append]
  by_cases h : n = m
  · subst h
    rw [if_pos rfl]
    unfold wget at hno
    rw [Option.map_eq_none_iff] at hno
    rw [hno]
    simp
  · rw [if_neg h]
    have : List.find? (fun e : Nat × Int × Slt => decide (e.2.1 = n)) [(r.ck, m, s)] = none := by
      rw [List.find?_eq_none]
      intro e he
      simp at he
      subst he
      simpa using fun e => h e.symm
    rw [this]
    cases List.find? (fun e : Nat × Int × Slt => decide (e.2.1 = n)) r.W <;> rfl

theorem get_open {r : Rs} {n : Int} : (∀ i, i < r.W.length → (r.W.getD i default).2.1 ≠ n) ↔ wget r.W n = none := by
  constructor
  · exact get_none
  · intro h i hi hk
    unfold wget at h
    rw [Option.map_eq_none_iff, List.find?_eq_none] at h
    have := h _ (by rw [getD_at hi]; exact List.getElem_mem hi : r.W.getD i default ∈ r.W)
    exact this (decide_eq_true hk)

/-- One more sample of a full row of samples. -/
theorem add_next {smp : Int → Smp} {N : Int} (h : Src smp N) {ex : Int} (h1 : 1 ≤ ex) (h2 : ex ≤ N) {l : List Smp} (hl : l = (List.range (ex - 1).toNat).map fun (i : Nat) => smp ((i : Int) + 1)) :
    newS relQ l (smp ex) = (List.range (ex + 1 - 1).toNat).map (fun (i : Nat) => smp ((i : Int) + 1)) ∧ ∀ ls, dlvL relQ l ls (smp ex) = ls := by
  have hN := h.hN
  have hlen : l.length = (ex - 1).toNat := by rw [hl]; simp
  have hf : findI l (smp ex).w (smp ex).q = -1 := by
    unfold findI
    have : l.findIdx? (fun x => x.w == (smp ex).w && x.q == (smp ex).q) = none := by
      rw [List.findIdx?_eq_none_iff]
      intro x hx
      rw [hl] at hx
      obtain ⟨i, hi, rfl⟩ := List.mem_map.1 hx
      have hi := List.mem_range.1 hi
      rw [h.q, h.q]
      simp
      intro _
      omega
    rw [this]
  have e : addE relQ l (smp ex) = 0 := by
    have ht := h.t ex h1 h2
    have hp := h.p ex h1 h2
    have ho : oldI relQ l (smp ex).w = -1 := rfl
    unfold addE
    rw [hf, ho, h.w, h.q, if_neg (by omega), if_neg (by omega), if_neg (by omega), if_neg (by omega)]
  obtain ⟨e1, e2⟩ := add_ok e
  have ho : oldI relQ l (smp ex).w = -1 := rfl
  refine ⟨?_, fun ls => ?_⟩
  · rw [e1]
    unfold addL
    rw [if_pos (by rw [ho]; omega), hl]
    rw [show (ex + 1 - 1).toNat = (ex - 1).toNat + 1 by omega, List.range_succ, List.map_append]
    congr 2
    show smp ex = smp ((((ex - 1).toNat : Nat) : Int) + 1)
    rw [show (((ex - 1).toNat : Nat) : Int) + 1 = ex by omega]
  · unfold dlvL
    rw [e2, if_pos e]
    unfold addO
    rw [if_pos (by rw [ho]; omega)]
    simp

theorem mv_St {smp : Int → Smp} {N : Int} (h : Src smp N) {S : Int → Bool} : ∀ (n : Nat) (r : Rs), r.W.length ≤ n → Pre smp N S r → St smp N S (mv relQ 1 n r)
  | 0, r, hn, hp => by
    refine ⟨hp, ?_⟩
    have e : r.W = [] := List.length_eq_zero_iff.1 (by omega)
    have := hp.W r.ex
    rw [e] at this
    cases hS : S r.ex with
    | false => exact hS
    | true => rw [hS] at this; simp [wget] at this
  | n + 1, r, hn, hp => by
    unfold mv
    have hW := hp.W r.ex
    cases hg : wget r.W r.ex with
    | none =>
      simp only
      refine ⟨hp, ?_⟩
      cases hS : S r.ex with
      | false => rfl
      | true => rw [hg, hS] at hW; simp at hW
    | some s =>
      simp only
      obtain ⟨i, hi, hk, _⟩ := get_find hg
      have hS : S r.ex = true ∧ s = ⟨1, smp r.ex⟩ := by
        rw [hg] at hW
        split at hW
        · rename_i hh; exact ⟨hh.1, by cases hW; rfl⟩
        · cases hW
      obtain ⟨hS, rfl⟩ := hS
      have hrg := hp.rg _ hS
      have hlen : (wne r.ex r.W).length = r.W.length - 1 := by rw [← erase_ne hp.ok.nd hi hk, List.length_eraseIdx_of_lt hi]
      obtain ⟨a1, a2⟩ := add_next h hrg.1 hrg.2 hp.l
      refine mv_St h n _ (by show (wne r.ex r.W).length ≤ n; omega) ⟨?_, ?_, fun m => ?_, fun m h1 h2 => ?_, hp.rg, ?_, ?_, ne_ok hp.ok⟩
      · show (if (1 : Int) = 1 then dlvL relQ r.l r.ls (smp r.ex) else if (1 : Int) = 3 then r.ls ++ [(1, r.ex)] else r.ls) = []
        rw [if_pos rfl, a2, hp.ls]
      · show (if (1 : Int) = 1 then newS relQ r.l (smp r.ex) else r.l) = _
        rw [if_pos rfl, a1]
        rfl
      · show wget (wne r.ex r.W) m = if S m = true ∧ r.ex + 1 ≤ m then some ⟨1, smp m⟩ else none
        rw [wget_ne, hp.W]
        by_cases hm : m = r.ex
        · rw [if_pos hm, if_neg (by omega)]
        · rw [if_neg hm]
          by_cases hle : S m = true ∧ r.ex ≤ m
          · rw [if_pos hle, if_pos ⟨hle.1, by omega⟩]
          · rw [if_neg hle, if_neg (fun hh => hle ⟨hh.1, by omega⟩)]
      · have h2 : m < r.ex + 1 := h2
        by_cases hm : m = r.ex
        · rw [hm]; exact hS
        · exact hp.below m h1 (by omega)
      · show 1 ≤ r.ex + 1
        have := hp.lo
        omega
      · show r.ex + 1 ≤ N + 1
        omega

theorem data_St {smp : Int → Smp} {N : Int} (h : Src smp N) {S : Int → Bool} {r : Rs} (hs : St smp N S r) {x : Pkt} {n : Int} (hx : smpOf x = smp n) (h1 : 1 ≤ n) (h2 : n ≤ N) :
    St smp N (fun m => S m || decide (m = n)) (dataF relQ 1 true x r) := by
  have hq : x.q = n := by have := congrArg Smp.q hx; rw [h.q] at this; exact this
  have hN := h.hN
  have hlo := hs.lo
  have hhi := hs.hi
  have same : S n = true → (fun m => S m || decide (m = n)) = S := by
    intro hn
    funext m
    by_cases hm : m = n
    · subst hm; simp [hn]
    · simp [hm]
  unfold dataF
  rw [hq]
  by_cases hlt : n < r.ex
  · rw [if_pos hlt, same (hs.below n h1 hlt)]
    exact hs
  · rw [if_neg hlt, if_neg (by simp)]
    by_cases hn : S n = true
    · rw [same hn, if_neg]
      · exact hs
      · rintro ⟨_, _, ho⟩
        have := get_open.1 ho
        rw [hs.W, if_pos ⟨hn, by omega⟩] at this
        cases this
    · have hno : wget r.W n = none := by rw [hs.W, if_neg (fun hh => hn hh.1)]
      have ho : openB r n := ⟨by omega, by omega, get_open.2 hno⟩
      rw [if_pos ho]
      refine mv_St h _ _ (by simp [putW]) ⟨hs.ls, hs.l, fun m => ?_, fun m a b => ?_, fun m hm => ?_, hs.lo, hs.hi, put_ok hs.ok ho (by omega)⟩
      · rw [wget_put _ _ _ _ hno, hs.W]
        show _ = if (S m || decide (m = n)) = true ∧ r.ex ≤ m then some (⟨1, smp m⟩ : Slt) else none
        by_cases hm : m = n
        · subst hm
          rw [if_pos rfl, if_pos ⟨by simp, by omega⟩, hx]
        · rw [if_neg hm]
          simp [hm]
      · have := hs.below m a b
        simp [this]
      · by_cases hmn : m = n
        · subst hmn; exact ⟨h1, h2⟩
        · exact hs.rg m (by simpa [hmn] using hm)
end Go.Proofs.Ytgcofipbdidhmaa

namespace Go.Proofs.Ytgcofipbdidhmaa
open Go.X
set_option linter.unusedVariables false

/-- A reader of one reliable writer. -/
def RJs (r : Rs) : Rd := ⟨r.l, r.ls, [(0, 1)], 1, fun y => if y = 1 then some ⟨3, r.ex, true, r.W, r.ck⟩ else none⟩
theorem RJs_ok (r : Rs) : RdOk (RJs r) where
  a := fun i hi => by
    have : i = 0 := by simp [RJs] at hi; exact hi
    subst this
    exact ⟨by simp [RJs], _, rfl⟩
  b := fun x m h => by
    by_cases hx : x = 1
    · subst hx
      exact ⟨0, by simp [RJs], by simp [RJs], Nat.le_refl _⟩
    · simp [RJs, hx] at h
theorem RJs_I {r : Rs} {B : Nat} (h : RsI r B) : RdI (RJs r) B := by
  refine ⟨RJs_ok r, fun x m hm => ?_, h.l, h.ls⟩
  by_cases hx : x = 1
  · simp [RJs, hx] at hm
    subst hm
    exact ⟨h.ok, h.lo, h.hi, fun e => by cases e⟩
  · simp [RJs, hx] at hm
theorem St_I {smp : Int → Smp} {N : Int} {S : Int → Bool} {r : Rs} (h : Src smp N) (hs : Pre smp N S r) : RsI r 0 := by
  have := h.hN
  have := hs.lo
  have := hs.hi
  refine ⟨hs.ok, hs.lo, by omega, ?_, by rw [hs.ls]; simp⟩
  rw [hs.l]
  simp only [List.length_map, List.length_range]
  omega
theorem RJs_get (r : Rs) : (RJs r).get 1 = some ⟨3, r.ex, true, r.W, r.ck⟩ := rfl
theorem RJs_E {x : Pkt} {r : Rs} (hw : x.w = 1) (hx : checkP x = 0) : recvE x (RJs r) = 0 := by
  unfold recvE
  rw [hw, RJs_get]
  exact hx
theorem RJs_R {x : Pkt} {r : Rs} (hw : x.w = 1) (hx : checkP x = 0) : recvR relQ x (RJs r) = RJs (stepF relQ x ⟨3, r.ex, true, r.W, r.ck⟩ r) := by
  unfold recvR
  rw [hw, RJs_get]
  simp only [if_pos hx]
  show Rd.mk _ _ _ _ _ = Rd.mk _ _ _ _ _
  congr 1
  funext y
  show (if y = 1 then _ else if y = 1 then _ else _) = (if y = 1 then _ else _)
  split <;> rfl
theorem step_data {x : Pkt} {r : Rs} {m : Mx} (hw : x.w = 1) (hk : x.k = 1) (hm : m.rel = true) : stepF relQ x m r = dataF relQ 1 true x r := by
  unfold stepF
  rw [if_pos hk, hw, hm]
theorem RJs_A1 {x : Pkt} {r : Rs} {id at' : Int} (hk : x.k = 1) : recvA id relQ x at' (RJs r) = none := by
  unfold recvA
  cases (RJs r).get x.w with
  | none => rfl
  | some m => exact if_neg (fun h => by omega)
theorem RJ_0 : RdJ relQ = RJs ⟨[], [], 1, [], 0⟩ := rfl
theorem St_0 {smp : Int → Smp} {N : Int} (h : Src smp N) : St smp N (fun _ => false) ⟨[], [], 1, [], 0⟩ := by
  have := h.hN
  refine ⟨⟨rfl, rfl, fun n => by simp [wget], fun n a b => (by simp only at b; omega), fun n hn => by simp at hn, Int.le_refl _, (by simp only; omega), nil_ok _⟩, rfl⟩

/-! ### What is missing -/
def genK (P : Int → Bool) (a : Int) (k : Nat) : List Int := ((List.range k).map fun (i : Nat) => a + (i : Int)).filter P
theorem gen_succ (P : Int → Bool) (a : Int) (k : Nat) : genK P a (k + 1) = genK P a k ++ if P (a + k) then [a + (k : Int)] else [] := by
  unfold genK
  rw [List.range_succ, List.map_append, List.filter_append]
  congr 1
  simp only [List.map_cons, List.map_nil, List.filter_cons, List.filter_nil]
theorem gen_pre (P : Int → Bool) (a : Int) (k m : Nat) : ∃ t, genK P a (k + m) = genK P a k ++ t := by
  induction m with
  | zero => exact ⟨[], by simp⟩
  | succ m ih =>
    obtain ⟨t, ht⟩ := ih
    exact ⟨_, by rw [← Nat.add_assoc, gen_succ, ht, List.append_assoc]⟩
theorem gen_end {P : Int → Bool} {a : Int} {k K : Nat} (hk : k ≤ K) (h1 : (genK P a k).length ≤ 32) (h2 : k = K ∨ 32 ≤ (genK P a k).length) : (genK P a K).take 32 = genK P a k := by
  rcases h2 with rfl | h2
  · exact List.take_of_length_le h1
  · obtain ⟨m, hm⟩ : ∃ m, K = k + m := ⟨_, (Nat.add_sub_cancel' hk).symm⟩
    obtain ⟨t, ht⟩ := gen_pre P a k m
    rw [hm, ht]
    exact List.take_left' (by omega)
theorem gen_split (P : Int → Bool) (a : Int) (j k : Nat) : genK P a (j + k) = genK P a j ++ genK P (a + j) k := by
  induction k with
  | zero => simp [genK]
  | succ k ih =>
    rw [← Nat.add_assoc, gen_succ, ih, gen_succ, List.append_assoc]
    have : a + ((j + k : Nat) : Int) = a + (j : Int) + (k : Int) := by omega
    rw [this]
theorem gen_nil {P : Int → Bool} {a : Int} {k : Nat} (h : ∀ i : Nat, i < k → P (a + i) = false) : genK P a k = [] := by
  unfold genK
  rw [List.filter_eq_nil_iff]
  intro x hx
  obtain ⟨i, hi, rfl⟩ := List.mem_map.1 hx
  simp [h i (List.mem_range.1 hi)]
theorem gen_congr {P Q : Int → Bool} {a : Int} {k : Nat} (h : ∀ i : Nat, i < k → P (a + i) = Q (a + i)) : genK P a k = genK Q a k := by
  unfold genK
  apply List.filter_congr
  intro x hx
  obtain ⟨i, hi, rfl⟩ := List.mem_map.1 hx
  exact h i (List.mem_range.1 hi)

theorem miss_St {smp : Int → Smp} {N : Int} {S : Int → Bool} {r : Rs} (hs : St smp N S r) {top : Int} (h0 : 0 ≤ top) : missF r top = (genK (fun n => !S n) 1 top.toNat).take 32 := by
  have hlo := hs.lo
  have hu : ∀ n, r.ex ≤ n → unk r.W n = !S n := by
    intro n hn
    have hW := hs.W n
    unfold unk
    cases hS : S n with
    | true =>
      rw [hS, if_pos ⟨rfl, hn⟩] at hW
      refine decide_eq_false fun h => ?_
      rw [get_open.1 h] at hW
      cases hW
    | false =>
      rw [hS, if_neg (fun h => by cases h.1)] at hW
      exact decide_eq_true (get_open.2 hW)
  have e1 : missF r top = (genK (unk r.W) r.ex (top - r.ex + 1).toNat).take 32 := rfl
  rw [e1]
  congr 1
  by_cases ht : r.ex ≤ top + 1
  · have e2 : top.toNat = (r.ex - 1).toNat + (top - r.ex + 1).toNat := by omega
    rw [e2, gen_split, gen_nil (k := (r.ex - 1).toNat), List.nil_append]
    · have e3 : 1 + (((r.ex - 1).toNat : Nat) : Int) = r.ex := by omega
      rw [e3]
      exact gen_congr fun i _ => hu _ (by omega)
    · intro i hi
      have := hs.below (1 + (i : Int)) (by omega) (by omega)
      simp [this]
  · rw [show (top - r.ex + 1).toNat = 0 by omega, gen_nil (k := top.toNat)]
    · rfl
    · intro i hi
      have := hs.below (1 + (i : Int)) (by omega) (by omega)
      simp [this]

/-! ### The heartbeat of ReaderAsks -/
def hbT (top : Int) : Pkt := ⟨2, 0, 0, 1, 0, 0, 1, top, 0, ⟨#[]⟩⟩
theorem hbT_ok {top : Int} (h : 0 ≤ top ∧ top ≤ 200) : checkP (hbT top) = 0 := by
  unfold checkP okN hbT
  rw [if_neg (by show ¬ (2 : Int) = 1; omega), if_neg (by show ¬ (2 : Int) = 4; omega), if_pos rfl, if_pos (by simp only; omega)]
theorem hbT_R {top : Int} {r : Rs} (h : 0 ≤ top ∧ top ≤ 200) (h1 : 1 ≤ r.ex) : recvR relQ (hbT top) (RJs r) = RJs r := by
  rw [RJs_R rfl (hbT_ok h)]
  have : stepF relQ (hbT top) ⟨3, r.ex, true, r.W, r.ck⟩ r = r := by
    unfold stepF hbF
    rw [if_neg (by show ¬ (2 : Int) = 1; omega), if_neg (by show ¬ (2 : Int) = 4; omega), if_neg (by simp), if_neg (by show ¬ r.ex < 1; omega)]
  rw [this]
theorem hbT_A {top : Int} {r : Rs} {at' : Int} (h : 0 ≤ top ∧ top ≤ 200) (h1 : 1 ≤ r.ex) : recvA 9 relQ (hbT top) at' (RJs r) = some (⟨3, 0, 3, 1, 9, 0, r.ex, top, at', ⟨#[]⟩⟩, missF r top) := by
  unfold recvA
  rw [show (RJs r).get (hbT top).w = some ⟨3, r.ex, true, r.W, r.ck⟩ from rfl]
  simp only
  rw [if_pos ⟨hbT_ok h, rfl, trivial⟩]
  have : hbF relQ (hbT top).w true (hbT top) ((RJs r).rs ⟨3, r.ex, true, r.W, r.ck⟩) = r := by
    unfold hbF
    rw [if_neg (by simp), if_neg (by show ¬ r.ex < 1; omega)]
    rfl
  rw [this]
  rfl
end Go.Proofs.Ytgcofipbdidhmaa
