/- Part 4 of the texts that a walk of this program rests on: an abstract machine, its soundness, contracts of functions. No statement of the seat is proved in this file. -/
import Derived.Test.YtgcofipbdidhmaaZ3
namespace Go.Proofs.Ytgcofipbdidhmaa
open Go.X
set_option linter.unusedSimpArgs false
set_option linter.unusedVariables false

abbrev mtcf (f : Nat) (w nd ex : Int) (rel : Bool) : Ck := .cells true [.i .i64 w, .i .i64 nd, .i .i64 ex, .b rel, .mp f 0]

/-- What a reader knows of its samples, its losses and a writer. -/
structure Rs where
  (l : List Smp) (ls : List (Int × Int)) (ex : Int) (W : Win) (ck : Nat)

/-- A number passed. -/
def mvStep (q : Qos) (w : Int) (s : Slt) (r : Rs) : Rs :=
  ⟨if s.st = 1 then newS q r.l s.x else r.l, if s.st = 1 then dlvL q r.l r.ls s.x else if s.st = 3 then r.ls ++ [(w, r.ex)] else r.ls, r.ex + 1, wne r.ex r.W, r.ck⟩

def mv (q : Qos) (w : Int) : Nat → Rs → Rs
  | 0, r => r
  | n + 1, r => match wget r.W r.ex with
    | none => r
    | some s => mv q w n (mvStep q w s r)

theorem ne_ok {W : Win} {ex : Int} (h : WOk W ex) : WOk (wne ex W) (ex + 1) where
  nd := ne_nd ex h.nd
  rg := fun e he => by
    unfold wne at he
    obtain ⟨h1, h2⟩ := List.mem_filter.1 he
    have := h.rg e h1
    have := of_decide_eq_true h2
    omega
  mx := fun e he => h.mx e (List.mem_filter.1 he).1

theorem new_le (q : Qos) (l : List Smp) (x : Smp) : (newS q l x).length ≤ l.length + 1 := by
  unfold newS addL
  split
  · split
    · simp
    · simp [List.length_eraseIdx]
      split <;> omega
  · omega
theorem dlv_le (q : Qos) (l : List Smp) (ls : List (Int × Int)) (x : Smp) : (dlvL q l ls x).length ≤ ls.length + 2 := by
  have := out_le q l x
  unfold dlvL
  split <;> simp <;> omega
theorem dlv_ge (q : Qos) (l : List Smp) (ls : List (Int × Int)) (x : Smp) : ls.length ≤ (dlvL q l ls x).length := by
  unfold dlvL
  split <;> simp <;> omega

theorem mv_next {q : Qos} {w : Int} {r R : Rs} (hr : mv q w r.W.length r = R) (hW : WOk r.W r.ex) (hex : 1 ≤ r.ex ∧ r.ex ≤ 1099511627777) (hl : r.l.length + r.W.length ≤ 900000) (hls : r.ls.length + 2 * r.W.length ≤ 800000)
    {i j : Nat} (hi : i < r.W.length) (hik : (r.W.getD i default).2.1 = r.ex) (hj : j < r.W.length) (hjk : (r.W.getD j default).2.1 = r.ex) :
    (r.W.eraseIdx j = wne r.ex r.W ∧ (wne r.ex r.W).length < r.W.length) ∧ r.ex ≤ 1099511627776 ∧ (mv q w (mvStep q w (r.W.getD i default).2.2 r).W.length (mvStep q w (r.W.getD i default).2.2 r) = R ∧ WOk (mvStep q w (r.W.getD i default).2.2 r).W (mvStep q w (r.W.getD i default).2.2 r).ex ∧
      (1 ≤ (mvStep q w (r.W.getD i default).2.2 r).ex ∧ (mvStep q w (r.W.getD i default).2.2 r).ex ≤ 1099511627777) ∧
      (mvStep q w (r.W.getD i default).2.2 r).l.length + (mvStep q w (r.W.getD i default).2.2 r).W.length ≤ 900000 ∧ (mvStep q w (r.W.getD i default).2.2 r).ls.length + 2 * (mvStep q w (r.W.getD i default).2.2 r).W.length ≤ 800000) := by
  have e1 := erase_ne hW.nd hj hjk
  have e2 := get_some hW.nd hi hik
  have hlen : (wne r.ex r.W).length = r.W.length - 1 := by rw [← e1, List.length_eraseIdx_of_lt hj]
  have hmx : r.ex ≤ 1099511627776 := by
    rw [← hik, getD_at hi]
    exact hW.mx _ (List.getElem_mem hi)
  generalize (r.W.getD i default).2.2 = s at e2
  have hn := new_le q r.l s.x
  have hd := dlv_le q r.l r.ls s.x
  refine ⟨⟨e1, by omega⟩, hmx, ?_, ne_ok hW, ⟨by simp only [mvStep]; omega, by simp only [mvStep]; omega⟩, ?_, ?_⟩
  · obtain ⟨n, hn⟩ : ∃ n, r.W.length = n + 1 := ⟨r.W.length - 1, by omega⟩
    have e3 : (mvStep q w s r).W.length = n := by show (wne r.ex r.W).length = n; omega
    rw [← hr, e3, hn, mv, e2]
  · simp only [mvStep]
    split <;> omega
  · simp only [mvStep]
    split
    · omega
    · split
      · simp; omega
      · omega

set_option maxRecDepth 10000 in
set_option maxHeartbeats 4000000 in
theorem cmove (id : Int) (q : Qos) (w nd : Int) (rel : Bool) (r0 : Rs) (c cl : Nat) (hW : WOk r0.W r0.ex) (hex : 1 ≤ r0.ex ∧ r0.ex ≤ 1099511627777) (hl : r0.l.length + r0.W.length ≤ 900000) (hls : r0.ls.length + 2 * r0.W.length ≤ 800000) :
    Ctr Try.prog 57 [.c (.p 0 0 0), .c (.p 5 0 0)] [.one (rdr 1 2 3 id q r0.ls.length cl), .one (hist 4 q r0.l.length c), .one .no, .one (lss true r0.ls cl), .one (smps true r0.l c), .one (mtcf 6 w nd r0.ex rel), .one (wnd r0.W r0.ck)]
      fun v h => v = .t [] ∧ ∃ c' cl', h = [.one (rdr 1 2 7 id q (mv q w r0.W.length r0).ls.length cl'), .one (hist 8 q (mv q w r0.W.length r0).l.length c'), .one .no, .one .no, .one .no, .one (mtcf 6 w nd (mv q w r0.W.length r0).ex rel), .one (wnd (mv q w r0.W.length r0).W (mv q w r0.W.length r0).ck),
        .one (lss true (mv q w r0.W.length r0).ls cl'), .one (smps true (mv q w r0.W.length r0).l c')] := by
  refine Ctr.mk' tbv mixed Try.func57 rfl rfl rfl (fun _ _ => by kernel_rfl) (by kernel_rfl) (by rfl) (by rfl) (by (repeat' (first | (refine And.intro ?_ ?_) | exact trivial | rfl | exact Nat.le_refl _ | exact (fun _ _ => rfl) | exact all_one (by rfl) | (simp only [Int.toNat_natCast, Nat.zero_add, Nat.add_zero]; done)))) ?_
  generalize hR : mv q w r0.W.length r0 = R
  repeat' (first
    | ((fail_if_success (with_reducible first | apply kL | apply kC | apply kF | apply kM | refine Exists.intro ?_ ?_)); first
      | ((with_reducible refine And.intro (fun (hb : _ = true) => ?_) (fun (hb : _ = false) => ?_)) <;> (try simp only [n1, n2, n3, n4, n5, n6, n7, n8, n9, n10, n11, n12, n13, n14, n15, n16, reduceCtorEq, n17, n18, n19, n20, n21, n22] at hb) <;> (try (first | (exfalso; omega) | exact bff hb (by assumption) | exact bff (by assumption) hb)))
      | (with_reducible refine Both.mk ?_ ?_)
      | ((with_reducible refine And.intro ?_ ?_); (focus (first | rfl | omega | exact fun _ _ => rfl | assumption | (split <;> omega) | (and_intros <;> first | rfl | omega | (split <;> omega)) | (dsimp only [maxLen]; and_intros <;> omega) | (simp only [n21, n22, m9]; first | omega | (and_intros <;> omega)))))
      | ((with_reducible refine Or.inl ⟨?_, ?_, ?_⟩); (focus rfl); (focus (and_intros <;> first | rfl | omega)))
      | ((with_reducible refine Or.inr (Or.inl ⟨?_, ?_⟩)); focus (and_intros <;> first | rfl | omega))
      | ((with_reducible refine Or.inr (Or.inr (Or.inl ⟨?_, ?_⟩))); focus (and_intros <;> first | rfl | omega))
      | ((with_reducible refine Or.inr (Or.inr (Or.inr ⟨?_, ?_⟩))); focus (and_intros <;> first | rfl | omega))
      | (with_reducible intro hc; (try simp only [capsP, and_true] at hc); (try (exfalso; omega)))
      | ((fail_if_success (with_reducible first | refine And.intro ?_ ?_ | refine Or.inl ?_ | intro _)); (conv => whnf); (fail_if_success (fail_if_success (with_reducible first | apply kL | apply kC | apply kF | apply kM | refine Exists.intro ?_ ?_ | refine Both.mk ?_ ?_ | refine And.intro ?_ ?_ | refine Or.inl ?_ | intro _))))))
  refine LoopK.mk' ({r : Rs // mv q w r.W.length r = R ∧ WOk r.W r.ex ∧ (1 ≤ r.ex ∧ r.ex ≤ 1099511627777) ∧ r.l.length + r.W.length ≤ 900000 ∧ r.ls.length + 2 * r.W.length ≤ 800000} × Nat × Nat)
    (fun ⟨⟨r, _⟩, c1, cl1⟩ => ⟨[(0, .c (.p 0 0 0)), (1, .c (.p 5 0 0))],
      [.one (rdr 1 2 7 id q r.ls.length cl1), .one (hist 8 q r.l.length c1), .one .no, .one .no, .one .no, .one (mtcf 6 w nd r.ex rel), .one (wnd r.W r.ck), .one (lss true r.ls cl1), .one (smps true r.l c1)]⟩)
    (fun r => r.1.1.W.length)
    ⟨⟨⟨r0, hR, hW, hex, hl, hls⟩, c, cl⟩, [0, 1, 2, 3, 4, 5, 6, 3, 4], ?_⟩ ?_
  · (repeat' (first | (refine And.intro ?_ ?_) | exact trivial | rfl | exact Nat.le_refl _ | exact (fun _ _ => rfl) | exact all_one (by rfl) | (simp only [Int.toNat_natCast, Nat.zero_add, Nat.add_zero]; done)))
  rintro ⟨⟨r, hr, hW, hex, hl, hls⟩, c1, cl1⟩
  repeat' (first
    | ((fail_if_success (with_reducible first | apply kL | apply kC | apply kF | apply kM | refine Exists.intro ?_ ?_)); first
      | ((with_reducible refine And.intro (fun (hb : _ = true) => ?_) (fun (hb : _ = false) => ?_)) <;> (try simp only [n1, n2, n3, n4, n5, n6, n7, n8, n9, n10, n11, n12, n13, n14, n15, n16, reduceCtorEq, n17, n18, n19, n20, n21, n22] at hb) <;> (try (first | (exfalso; omega) | exact bff hb (by assumption) | exact bff (by assumption) hb)))
      | (with_reducible refine Both.mk ?_ ?_)
      | ((with_reducible refine And.intro ?_ ?_); (focus (first | rfl | omega | exact fun _ _ => rfl | assumption | (split <;> omega) | (and_intros <;> first | rfl | omega | (split <;> omega)) | (dsimp only [maxLen]; and_intros <;> omega) | (simp only [n21, n22, m9]; first | omega | (and_intros <;> omega)))))
      | ((with_reducible refine Or.inl ⟨?_, ?_, ?_⟩); (focus rfl); (focus (and_intros <;> first | rfl | omega)))
      | ((with_reducible refine Or.inr (Or.inl ⟨?_, ?_⟩)); focus (and_intros <;> first | rfl | omega))
      | ((with_reducible refine Or.inr (Or.inr (Or.inl ⟨?_, ?_⟩))); focus (and_intros <;> first | rfl | omega))
      | ((with_reducible refine Or.inr (Or.inr (Or.inr ⟨?_, ?_⟩))); focus (and_intros <;> first | rfl | omega))
      | (with_reducible intro hc; (try simp only [capsP, and_true] at hc); (try (exfalso; omega)))
      | ((fail_if_success (with_reducible first | refine And.intro ?_ ?_ | refine Or.inl ?_ | intro _)); (conv => whnf); (fail_if_success (fail_if_success (with_reducible first | apply kL | apply kC | apply kF | apply kM | refine Exists.intro ?_ ?_ | refine Both.mk ?_ ?_ | refine And.intro ?_ ?_ | refine Or.inl ?_ | intro _))))))
  all_goals try exact (hc _ (by assumption) (by assumption)).elim
  all_goals first
    | (
      rename_i i hi hk j hj
      obtain ⟨e1, e2, e3⟩ := mv_next hr hW hex hl hls hi (Key.i.inj hk) hj (Key.i.inj hc)
      refine CallK.mk3 (σ := [.whole 0, .whole 1, .name 2, .whole 7, .whole 8]) (nl := []) (cdeliver id q r.l c1 r.ls cl1 (r.W.getD i default).2.2.x (by omega) (by omega)) rfl rfl (List.append_nil _) (by (try simp only [↓List.length_cons, ↓List.length_nil, Nat.reduceAdd]); rfl) (by (try simp only [↓List.length_cons, ↓List.length_nil, Nat.reduceAdd]); rfl) (by (try simp (maxSteps := 1000000) only [givesF, setF, updF, Fam.zeroth, Fam.rk, Ck.rk, C.rk, E.rk, T.rk, key, List.map_cons, List.map_nil, List.cons_append, List.nil_append, List.length_cons, List.length_nil, Option.map_some, Option.bind_some, Nat.reduceAdd, Nat.zero_add, Nat.add_zero, Nat.add_sub_cancel_left, Int.toNat_natCast, reps, List.all_cons, List.all_nil, C.flat, List.append_eq, Bool.not_true, Bool.and_true, Bool.or_false, Bool.or_self, Bool.not_false, List.append_nil, Bool.and_self]); rfl) (by (repeat' (first | (refine And.intro ?_ ?_) | exact trivial | rfl | exact Nat.le_refl _ | exact (fun _ _ => rfl) | exact all_one (by rfl) | (simp only [Int.toNat_natCast, Nat.zero_add, Nat.add_zero]; done)))) ?_
      rintro v h' ⟨rfl, c2, cl2, rfl⟩ hcaps
      refine ret_mk3 (by (try simp only [↓List.length_cons, ↓List.length_nil, Nat.reduceAdd]); rfl) (by (try simp (maxSteps := 1000000) only [givesF, setF, updF, Fam.zeroth, Fam.rk, Ck.rk, C.rk, E.rk, T.rk, key, List.map_cons, List.map_nil, List.cons_append, List.nil_append, List.length_cons, List.length_nil, Option.map_some, Option.bind_some, Nat.reduceAdd, Nat.zero_add, Nat.add_zero, Nat.add_sub_cancel_left, Int.toNat_natCast, reps, List.all_cons, List.all_nil, C.flat, List.append_eq, Bool.not_true, Bool.and_true, Bool.or_false, Bool.or_self, Bool.not_false, List.append_nil, Bool.and_self, encS]); rfl) (by (try simp only [givesF, setF, updF, Fam.zeroth, Fam.rk, Ck.rk, C.rk, E.rk, T.rk, key, List.map_cons, List.map_nil, List.cons_append, List.nil_append, List.length_cons, List.length_nil, Option.map_some, Option.bind_some, Nat.reduceAdd, Nat.zero_add, Nat.add_zero, Nat.add_sub_cancel_left, Int.toNat_natCast, reps, List.all_cons, List.all_nil, C.flat, List.append_eq, Bool.not_true, Bool.and_true, Bool.or_false, Bool.or_self, Bool.not_false, List.append_nil, Bool.and_self, encS]); rfl) ?_
      repeat' (first
        | ((fail_if_success (with_reducible first | apply kL | apply kC | apply kF | apply kM | refine Exists.intro ?_ ?_)); first
          | ((with_reducible refine And.intro (fun (hb : _ = true) => ?_) (fun (hb : _ = false) => ?_)) <;> (try simp only [n1, n2, n3, n4, n5, n6, n7, n8, n9, n10, n11, n12, n13, n14, n15, n16, reduceCtorEq, n17, n18, n19, n20, n21, n22] at hb) <;> (try (first | (exfalso; omega) | exact bff hb (by assumption) | exact bff (by assumption) hb)))
          | (with_reducible refine Both.mk ?_ ?_)
          | ((with_reducible refine And.intro ?_ ?_); (focus (first | rfl | omega | exact fun _ _ => rfl | assumption | (split <;> omega) | (and_intros <;> first | rfl | omega | (split <;> omega)) | (dsimp only [maxLen]; and_intros <;> omega) | (simp only [n21, n22, m9]; first | omega | (and_intros <;> omega)))))
          | ((with_reducible refine Or.inl ⟨?_, ?_, ?_⟩); (focus rfl); (focus (and_intros <;> first | rfl | omega)))
          | ((with_reducible refine Or.inr (Or.inl ⟨?_, ?_⟩)); focus (and_intros <;> first | rfl | omega))
          | ((with_reducible refine Or.inr (Or.inr (Or.inl ⟨?_, ?_⟩))); focus (and_intros <;> first | rfl | omega))
          | ((with_reducible refine Or.inr (Or.inr (Or.inr ⟨?_, ?_⟩))); focus (and_intros <;> first | rfl | omega))
          | (with_reducible intro hc; (try simp only [capsP, and_true] at hc); (try (exfalso; omega)))
          | ((fail_if_success (with_reducible first | refine And.intro ?_ ?_ | refine Or.inl ?_ | intro _)); (conv => whnf); (fail_if_success (fail_if_success (with_reducible first | apply kL | apply kC | apply kF | apply kM | refine Exists.intro ?_ ?_ | refine Both.mk ?_ ?_ | refine And.intro ?_ ?_ | refine Or.inl ?_ | intro _))))))
      refine CallK.mk3 (σ := [.whole 5, .name 6]) (nl := []) (cpass w nd r.ex rel (r.ex + 1)) rfl rfl (List.append_nil _) (by (try simp only [↓List.length_cons, ↓List.length_nil, Nat.reduceAdd]); rfl) (by (try simp only [↓List.length_cons, ↓List.length_nil, Nat.reduceAdd]); rfl) (by (try simp (maxSteps := 1000000) only [givesF, setF, updF, Fam.zeroth, Fam.rk, Ck.rk, C.rk, E.rk, T.rk, key, List.map_cons, List.map_nil, List.cons_append, List.nil_append, List.length_cons, List.length_nil, Option.map_some, Option.bind_some, Nat.reduceAdd, Nat.zero_add, Nat.add_zero, Nat.add_sub_cancel_left, Int.toNat_natCast, reps, List.all_cons, List.all_nil, C.flat, List.append_eq, Bool.not_true, Bool.and_true, Bool.or_false, Bool.or_self, Bool.not_false, List.append_nil, Bool.and_self]); rfl) (by (repeat' (first | (refine And.intro ?_ ?_) | exact trivial | rfl | exact Nat.le_refl _ | exact (fun _ _ => rfl) | exact all_one (by rfl) | (simp only [Int.toNat_natCast, Nat.zero_add, Nat.add_zero]; done)))) ?_
      rintro v h' ⟨rfl, rfl⟩ hcaps
      refine ret_mk3 (by (try simp only [↓List.length_cons, ↓List.length_nil, Nat.reduceAdd]); rfl) (by (try simp (maxSteps := 1000000) only [givesF, setF, updF, Fam.zeroth, Fam.rk, Ck.rk, C.rk, E.rk, T.rk, key, List.map_cons, List.map_nil, List.cons_append, List.nil_append, List.length_cons, List.length_nil, Option.map_some, Option.bind_some, Nat.reduceAdd, Nat.zero_add, Nat.add_zero, Nat.add_sub_cancel_left, Int.toNat_natCast, reps, List.all_cons, List.all_nil, C.flat, List.append_eq, Bool.not_true, Bool.and_true, Bool.or_false, Bool.or_self, Bool.not_false, List.append_nil, Bool.and_self, encS]); rfl) (by (try simp only [givesF, setF, updF, Fam.zeroth, Fam.rk, Ck.rk, C.rk, E.rk, T.rk, key, List.map_cons, List.map_nil, List.cons_append, List.nil_append, List.length_cons, List.length_nil, Option.map_some, Option.bind_some, Nat.reduceAdd, Nat.zero_add, Nat.add_zero, Nat.add_sub_cancel_left, Int.toNat_natCast, reps, List.all_cons, List.all_nil, C.flat, List.append_eq, Bool.not_true, Bool.and_true, Bool.or_false, Bool.or_self, Bool.not_false, List.append_nil, Bool.and_self, encS]); rfl) ?_
      repeat' (first
        | ((fail_if_success (with_reducible first | apply kL | apply kC | apply kF | apply kM | refine Exists.intro ?_ ?_)); first
          | ((with_reducible refine And.intro (fun (hb : _ = true) => ?_) (fun (hb : _ = false) => ?_)) <;> (try simp only [n1, n2, n3, n4, n5, n6, n7, n8, n9, n10, n11, n12, n13, n14, n15, n16, reduceCtorEq, n17, n18, n19, n20, n21, n22] at hb) <;> (try (first | (exfalso; omega) | exact bff hb (by assumption) | exact bff (by assumption) hb)))
          | (with_reducible refine Both.mk ?_ ?_)
          | ((with_reducible refine And.intro ?_ ?_); (focus (first | rfl | omega | exact fun _ _ => rfl | assumption | (split <;> omega) | (and_intros <;> first | rfl | omega | (split <;> omega)) | (dsimp only [maxLen]; and_intros <;> omega) | (simp only [n21, n22, m9]; first | omega | (and_intros <;> omega)))))
          | ((with_reducible refine Or.inl ⟨?_, ?_, ?_⟩); (focus rfl); (focus (and_intros <;> first | rfl | omega)))
          | ((with_reducible refine Or.inr (Or.inl ⟨?_, ?_⟩)); focus (and_intros <;> first | rfl | omega))
          | ((with_reducible refine Or.inr (Or.inr (Or.inl ⟨?_, ?_⟩))); focus (and_intros <;> first | rfl | omega))
          | ((with_reducible refine Or.inr (Or.inr (Or.inr ⟨?_, ?_⟩))); focus (and_intros <;> first | rfl | omega))
          | (with_reducible intro hc; (try simp only [capsP, and_true] at hc); (try (exfalso; omega)))
          | ((fail_if_success (with_reducible first | refine And.intro ?_ ?_ | refine Or.inl ?_ | intro _)); (conv => whnf); (fail_if_success (fail_if_success (with_reducible first | apply kL | apply kC | apply kF | apply kM | refine Exists.intro ?_ ?_ | refine Both.mk ?_ ?_ | refine And.intro ?_ ?_ | refine Or.inl ?_ | intro _))))))
      refine ⟨⟨⟨mvStep q w (r.W.getD i default).2.2 r, e3⟩, c2, cl2⟩, [0, 1, 2, 3, 4, 5, 6, 10, 11], e1.2, ?_⟩
      simp only [mvStep, hb, if_true]
      (repeat' (first | (refine And.intro ?_ ?_) | exact trivial | rfl | exact Nat.le_refl _ | exact (fun _ _ => rfl) | exact all_one (by rfl) | (simp only [Int.toNat_natCast, Nat.zero_add, Nat.add_zero]; done)))
      all_goals first
        | (intro j' hj'
           rw [← e1.1] at hj' ⊢
           rw [List.length_eraseIdx_of_lt hj] at hj'
           exact encW_erase _ _ j' hj')
        | (rw [← e1.1, List.length_eraseIdx_of_lt hj]))
    | (
      rename_i i hi hk j hj hb0
      obtain ⟨e1, e2, e3⟩ := mv_next hr hW hex hl hls hi (Key.i.inj hk) hj (Key.i.inj hc)
      refine CallK.mk3 (σ := [.whole 0, .name 1, .name 2, .whole 7]) (nl := []) (close id q r.ls cl1 w r.ex (by omega)) rfl rfl (List.append_nil _) (by (try simp only [↓List.length_cons, ↓List.length_nil, Nat.reduceAdd]); rfl) (by (try simp only [↓List.length_cons, ↓List.length_nil, Nat.reduceAdd]); rfl) (by (try simp (maxSteps := 1000000) only [givesF, setF, updF, Fam.zeroth, Fam.rk, Ck.rk, C.rk, E.rk, T.rk, key, List.map_cons, List.map_nil, List.cons_append, List.nil_append, List.length_cons, List.length_nil, Option.map_some, Option.bind_some, Nat.reduceAdd, Nat.zero_add, Nat.add_zero, Nat.add_sub_cancel_left, Int.toNat_natCast, reps, List.all_cons, List.all_nil, C.flat, List.append_eq, Bool.not_true, Bool.and_true, Bool.or_false, Bool.or_self, Bool.not_false, List.append_nil, Bool.and_self]); rfl) (by (repeat' (first | (refine And.intro ?_ ?_) | exact trivial | rfl | exact Nat.le_refl _ | exact (fun _ _ => rfl) | exact all_one (by rfl) | (simp only [Int.toNat_natCast, Nat.zero_add, Nat.add_zero]; done)))) ?_
      rintro v h' ⟨rfl, c2, rfl⟩ hcaps
      refine ret_mk3 (by (try simp only [↓List.length_cons, ↓List.length_nil, Nat.reduceAdd]); rfl) (by (try simp (maxSteps := 1000000) only [givesF, setF, updF, Fam.zeroth, Fam.rk, Ck.rk, C.rk, E.rk, T.rk, key, List.map_cons, List.map_nil, List.cons_append, List.nil_append, List.length_cons, List.length_nil, Option.map_some, Option.bind_some, Nat.reduceAdd, Nat.zero_add, Nat.add_zero, Nat.add_sub_cancel_left, Int.toNat_natCast, reps, List.all_cons, List.all_nil, C.flat, List.append_eq, Bool.not_true, Bool.and_true, Bool.or_false, Bool.or_self, Bool.not_false, List.append_nil, Bool.and_self, encS]); rfl) (by (try simp only [givesF, setF, updF, Fam.zeroth, Fam.rk, Ck.rk, C.rk, E.rk, T.rk, key, List.map_cons, List.map_nil, List.cons_append, List.nil_append, List.length_cons, List.length_nil, Option.map_some, Option.bind_some, Nat.reduceAdd, Nat.zero_add, Nat.add_zero, Nat.add_sub_cancel_left, Int.toNat_natCast, reps, List.all_cons, List.all_nil, C.flat, List.append_eq, Bool.not_true, Bool.and_true, Bool.or_false, Bool.or_self, Bool.not_false, List.append_nil, Bool.and_self, encS]); rfl) ?_
      repeat' (first
        | ((fail_if_success (with_reducible first | apply kL | apply kC | apply kF | apply kM | refine Exists.intro ?_ ?_)); first
          | ((with_reducible refine And.intro (fun (hb : _ = true) => ?_) (fun (hb : _ = false) => ?_)) <;> (try simp only [n1, n2, n3, n4, n5, n6, n7, n8, n9, n10, n11, n12, n13, n14, n15, n16, reduceCtorEq, n17, n18, n19, n20, n21, n22] at hb) <;> (try (first | (exfalso; omega) | exact bff hb (by assumption) | exact bff (by assumption) hb)))
          | (with_reducible refine Both.mk ?_ ?_)
          | ((with_reducible refine And.intro ?_ ?_); (focus (first | rfl | omega | exact fun _ _ => rfl | assumption | (split <;> omega) | (and_intros <;> first | rfl | omega | (split <;> omega)) | (dsimp only [maxLen]; and_intros <;> omega) | (simp only [n21, n22, m9]; first | omega | (and_intros <;> omega)))))
          | ((with_reducible refine Or.inl ⟨?_, ?_, ?_⟩); (focus rfl); (focus (and_intros <;> first | rfl | omega)))
          | ((with_reducible refine Or.inr (Or.inl ⟨?_, ?_⟩)); focus (and_intros <;> first | rfl | omega))
          | ((with_reducible refine Or.inr (Or.inr (Or.inl ⟨?_, ?_⟩))); focus (and_intros <;> first | rfl | omega))
          | ((with_reducible refine Or.inr (Or.inr (Or.inr ⟨?_, ?_⟩))); focus (and_intros <;> first | rfl | omega))
          | (with_reducible intro hc; (try simp only [capsP, and_true] at hc); (try (exfalso; omega)))
          | ((fail_if_success (with_reducible first | refine And.intro ?_ ?_ | refine Or.inl ?_ | intro _)); (conv => whnf); (fail_if_success (fail_if_success (with_reducible first | apply kL | apply kC | apply kF | apply kM | refine Exists.intro ?_ ?_ | refine Both.mk ?_ ?_ | refine And.intro ?_ ?_ | refine Or.inl ?_ | intro _))))))
      refine CallK.mk3 (σ := [.whole 5, .name 6]) (nl := []) (cpass w nd r.ex rel (r.ex + 1)) rfl rfl (List.append_nil _) (by (try simp only [↓List.length_cons, ↓List.length_nil, Nat.reduceAdd]); rfl) (by (try simp only [↓List.length_cons, ↓List.length_nil, Nat.reduceAdd]); rfl) (by (try simp (maxSteps := 1000000) only [givesF, setF, updF, Fam.zeroth, Fam.rk, Ck.rk, C.rk, E.rk, T.rk, key, List.map_cons, List.map_nil, List.cons_append, List.nil_append, List.length_cons, List.length_nil, Option.map_some, Option.bind_some, Nat.reduceAdd, Nat.zero_add, Nat.add_zero, Nat.add_sub_cancel_left, Int.toNat_natCast, reps, List.all_cons, List.all_nil, C.flat, List.append_eq, Bool.not_true, Bool.and_true, Bool.or_false, Bool.or_self, Bool.not_false, List.append_nil, Bool.and_self]); rfl) (by (repeat' (first | (refine And.intro ?_ ?_) | exact trivial | rfl | exact Nat.le_refl _ | exact (fun _ _ => rfl) | exact all_one (by rfl) | (simp only [Int.toNat_natCast, Nat.zero_add, Nat.add_zero]; done)))) ?_
      rintro v h' ⟨rfl, rfl⟩ hcaps
      refine ret_mk3 (by (try simp only [↓List.length_cons, ↓List.length_nil, Nat.reduceAdd]); rfl) (by (try simp (maxSteps := 1000000) only [givesF, setF, updF, Fam.zeroth, Fam.rk, Ck.rk, C.rk, E.rk, T.rk, key, List.map_cons, List.map_nil, List.cons_append, List.nil_append, List.length_cons, List.length_nil, Option.map_some, Option.bind_some, Nat.reduceAdd, Nat.zero_add, Nat.add_zero, Nat.add_sub_cancel_left, Int.toNat_natCast, reps, List.all_cons, List.all_nil, C.flat, List.append_eq, Bool.not_true, Bool.and_true, Bool.or_false, Bool.or_self, Bool.not_false, List.append_nil, Bool.and_self, encS]); rfl) (by (try simp only [givesF, setF, updF, Fam.zeroth, Fam.rk, Ck.rk, C.rk, E.rk, T.rk, key, List.map_cons, List.map_nil, List.cons_append, List.nil_append, List.length_cons, List.length_nil, Option.map_some, Option.bind_some, Nat.reduceAdd, Nat.zero_add, Nat.add_zero, Nat.add_sub_cancel_left, Int.toNat_natCast, reps, List.all_cons, List.all_nil, C.flat, List.append_eq, Bool.not_true, Bool.and_true, Bool.or_false, Bool.or_self, Bool.not_false, List.append_nil, Bool.and_self, encS]); rfl) ?_
      repeat' (first
        | ((fail_if_success (with_reducible first | apply kL | apply kC | apply kF | apply kM | refine Exists.intro ?_ ?_)); first
          | ((with_reducible refine And.intro (fun (hb : _ = true) => ?_) (fun (hb : _ = false) => ?_)) <;> (try simp only [n1, n2, n3, n4, n5, n6, n7, n8, n9, n10, n11, n12, n13, n14, n15, n16, reduceCtorEq, n17, n18, n19, n20, n21, n22] at hb) <;> (try (first | (exfalso; omega) | exact bff hb (by assumption) | exact bff (by assumption) hb)))
          | (with_reducible refine Both.mk ?_ ?_)
          | ((with_reducible refine And.intro ?_ ?_); (focus (first | rfl | omega | exact fun _ _ => rfl | assumption | (split <;> omega) | (and_intros <;> first | rfl | omega | (split <;> omega)) | (dsimp only [maxLen]; and_intros <;> omega) | (simp only [n21, n22, m9]; first | omega | (and_intros <;> omega)))))
          | ((with_reducible refine Or.inl ⟨?_, ?_, ?_⟩); (focus rfl); (focus (and_intros <;> first | rfl | omega)))
          | ((with_reducible refine Or.inr (Or.inl ⟨?_, ?_⟩)); focus (and_intros <;> first | rfl | omega))
          | ((with_reducible refine Or.inr (Or.inr (Or.inl ⟨?_, ?_⟩))); focus (and_intros <;> first | rfl | omega))
          | ((with_reducible refine Or.inr (Or.inr (Or.inr ⟨?_, ?_⟩))); focus (and_intros <;> first | rfl | omega))
          | (with_reducible intro hc; (try simp only [capsP, and_true] at hc); (try (exfalso; omega)))
          | ((fail_if_success (with_reducible first | refine And.intro ?_ ?_ | refine Or.inl ?_ | intro _)); (conv => whnf); (fail_if_success (fail_if_success (with_reducible first | apply kL | apply kC | apply kF | apply kM | refine Exists.intro ?_ ?_ | refine Both.mk ?_ ?_ | refine And.intro ?_ ?_ | refine Or.inl ?_ | intro _))))))
      refine ⟨⟨⟨mvStep q w (r.W.getD i default).2.2 r, e3⟩, c1, c2⟩, [0, 1, 2, 3, 4, 5, 6, 10, 8], e1.2, ?_⟩
      simp only [mvStep, hb, if_true, if_false, hb0]
      (repeat' (first | (refine And.intro ?_ ?_) | exact trivial | rfl | exact Nat.le_refl _ | exact (fun _ _ => rfl) | exact all_one (by rfl) | (simp only [Int.toNat_natCast, Nat.zero_add, Nat.add_zero]; done)))
      all_goals first
        | (intro j' hj'
           rw [← e1.1] at hj' ⊢
           rw [List.length_eraseIdx_of_lt hj] at hj'
           exact encW_erase _ _ j' hj')
        | (rw [← e1.1, List.length_eraseIdx_of_lt hj]))
    | (
      rename_i i hi hk j hj hb0
      obtain ⟨e1, e2, e3⟩ := mv_next hr hW hex hl hls hi (Key.i.inj hk) hj (Key.i.inj hc)
      refine CallK.mk3 (σ := [.whole 5, .name 6]) (nl := []) (cpass w nd r.ex rel (r.ex + 1)) rfl rfl (List.append_nil _) (by (try simp only [↓List.length_cons, ↓List.length_nil, Nat.reduceAdd]); rfl) (by (try simp only [↓List.length_cons, ↓List.length_nil, Nat.reduceAdd]); rfl) (by (try simp (maxSteps := 1000000) only [givesF, setF, updF, Fam.zeroth, Fam.rk, Ck.rk, C.rk, E.rk, T.rk, key, List.map_cons, List.map_nil, List.cons_append, List.nil_append, List.length_cons, List.length_nil, Option.map_some, Option.bind_some, Nat.reduceAdd, Nat.zero_add, Nat.add_zero, Nat.add_sub_cancel_left, Int.toNat_natCast, reps, List.all_cons, List.all_nil, C.flat, List.append_eq, Bool.not_true, Bool.and_true, Bool.or_false, Bool.or_self, Bool.not_false, List.append_nil, Bool.and_self]); rfl) (by (repeat' (first | (refine And.intro ?_ ?_) | exact trivial | rfl | exact Nat.le_refl _ | exact (fun _ _ => rfl) | exact all_one (by rfl) | (simp only [Int.toNat_natCast, Nat.zero_add, Nat.add_zero]; done)))) ?_
      rintro v h' ⟨rfl, rfl⟩ hcaps
      refine ret_mk3 (by (try simp only [↓List.length_cons, ↓List.length_nil, Nat.reduceAdd]); rfl) (by (try simp (maxSteps := 1000000) only [givesF, setF, updF, Fam.zeroth, Fam.rk, Ck.rk, C.rk, E.rk, T.rk, key, List.map_cons, List.map_nil, List.cons_append, List.nil_append, List.length_cons, List.length_nil, Option.map_some, Option.bind_some, Nat.reduceAdd, Nat.zero_add, Nat.add_zero, Nat.add_sub_cancel_left, Int.toNat_natCast, reps, List.all_cons, List.all_nil, C.flat, List.append_eq, Bool.not_true, Bool.and_true, Bool.or_false, Bool.or_self, Bool.not_false, List.append_nil, Bool.and_self, encS]); rfl) (by (try simp only [givesF, setF, updF, Fam.zeroth, Fam.rk, Ck.rk, C.rk, E.rk, T.rk, key, List.map_cons, List.map_nil, List.cons_append, List.nil_append, List.length_cons, List.length_nil, Option.map_some, Option.bind_some, Nat.reduceAdd, Nat.zero_add, Nat.add_zero, Nat.add_sub_cancel_left, Int.toNat_natCast, reps, List.all_cons, List.all_nil, C.flat, List.append_eq, Bool.not_true, Bool.and_true, Bool.or_false, Bool.or_self, Bool.not_false, List.append_nil, Bool.and_self, encS]); rfl) ?_
      repeat' (first
        | ((fail_if_success (with_reducible first | apply kL | apply kC | apply kF | apply kM | refine Exists.intro ?_ ?_)); first
          | ((with_reducible refine And.intro (fun (hb : _ = true) => ?_) (fun (hb : _ = false) => ?_)) <;> (try simp only [n1, n2, n3, n4, n5, n6, n7, n8, n9, n10, n11, n12, n13, n14, n15, n16, reduceCtorEq, n17, n18, n19, n20, n21, n22] at hb) <;> (try (first | (exfalso; omega) | exact bff hb (by assumption) | exact bff (by assumption) hb)))
          | (with_reducible refine Both.mk ?_ ?_)
          | ((with_reducible refine And.intro ?_ ?_); (focus (first | rfl | omega | exact fun _ _ => rfl | assumption | (split <;> omega) | (and_intros <;> first | rfl | omega | (split <;> omega)) | (dsimp only [maxLen]; and_intros <;> omega) | (simp only [n21, n22, m9]; first | omega | (and_intros <;> omega)))))
          | ((with_reducible refine Or.inl ⟨?_, ?_, ?_⟩); (focus rfl); (focus (and_intros <;> first | rfl | omega)))
          | ((with_reducible refine Or.inr (Or.inl ⟨?_, ?_⟩)); focus (and_intros <;> first | rfl | omega))
          | ((with_reducible refine Or.inr (Or.inr (Or.inl ⟨?_, ?_⟩))); focus (and_intros <;> first | rfl | omega))
          | ((with_reducible refine Or.inr (Or.inr (Or.inr ⟨?_, ?_⟩))); focus (and_intros <;> first | rfl | omega))
          | (with_reducible intro hc; (try simp only [capsP, and_true] at hc); (try (exfalso; omega)))
          | ((fail_if_success (with_reducible first | refine And.intro ?_ ?_ | refine Or.inl ?_ | intro _)); (conv => whnf); (fail_if_success (fail_if_success (with_reducible first | apply kL | apply kC | apply kF | apply kM | refine Exists.intro ?_ ?_ | refine Both.mk ?_ ?_ | refine And.intro ?_ ?_ | refine Or.inl ?_ | intro _))))))
      refine ⟨⟨⟨mvStep q w (r.W.getD i default).2.2 r, e3⟩, c1, cl1⟩, [0, 1, 2, 3, 4, 5, 6, 7, 8], e1.2, ?_⟩
      simp only [mvStep, hb, if_false, hb0]
      (repeat' (first | (refine And.intro ?_ ?_) | exact trivial | rfl | exact Nat.le_refl _ | exact (fun _ _ => rfl) | exact all_one (by rfl) | (simp only [Int.toNat_natCast, Nat.zero_add, Nat.add_zero]; done)))
      all_goals first
        | (intro j' hj'
           rw [← e1.1] at hj' ⊢
           rw [List.length_eraseIdx_of_lt hj] at hj'
           exact encW_erase _ _ j' hj')
        | (rw [← e1.1, List.length_eraseIdx_of_lt hj]))
    | (
      have e0 : mv q w r.W.length r = r := by
        have := get_none (W := r.W) (n := r.ex) fun i hi h => hc i hi (by show Key.i _ = Key.i r.ex; rw [h])
        cases r.W.length with
        | zero => rfl
        | succ n => rw [mv, this]
      rw [← hr, e0]
      refine FinK.mk ⟨[0, 1, 2, 3, 4, 5, 6, 7, 8], _, _, ⟨rfl, c1, cl1, rfl⟩, ?_⟩
      (repeat' (first | (refine And.intro ?_ ?_) | exact trivial | rfl | exact Nat.le_refl _ | exact (fun _ _ => rfl) | exact all_one (by rfl) | (simp only [Int.toNat_natCast, Nat.zero_add, Nat.add_zero]; done))))
end Go.Proofs.Ytgcofipbdidhmaa

namespace Go.Proofs.Ytgcofipbdidhmaa
open Go.X
set_option linter.unusedSimpArgs false
set_option linter.unusedVariables false

/-- A packet, but for the list of what is missing. -/
structure Pkt where
  (k fr to w r q f la at' : Int) (p : ByteArray)
deriving Inhabited
def encP (m : C) (x : Pkt) : List C := [.i .i64 x.k, .i .i64 x.fr, .i .i64 x.to, .i .i64 x.w, .i .i64 x.r, .i .i64 x.q, .i .i64 x.f, .i .i64 x.la, .i .i64 x.at', m, .s x.p]
abbrev msl (f n c : Nat) : C := .sl f 0 1 0 n c

def lapL (w ex e : Int) : List (Int × Int) := (List.range (e - max ex (e - 256)).toNat).map fun (i : Nat) => (w, max ex (e - 256) + i)
theorem lap_step (w a : Int) (k : Nat) : (List.range (k + 1)).map (fun (i : Nat) => (w, a + (i : Int))) = (List.range k).map (fun (i : Nat) => (w, a + (i : Int))) ++ [(w, a + (k : Int))] := by
  rw [List.range_succ, List.map_append]
  rfl

set_option maxRecDepth 10000 in
set_option maxHeartbeats 4000000 in
theorem clapse (id : Int) (q : Qos) (w nd ex : Int) (rel : Bool) (ls : List (Int × Int)) (cl : Nat) (e : Int) (hex : 1 ≤ ex ∧ ex ≤ 1099511627777) (he : 1 ≤ e ∧ e ≤ 1099511627777) (hls : ls.length ≤ 800000) :
    Ctr Try.prog 53 [.c (.p 0 0 0), .c (.p 4 0 0), .c (.i .i64 e)] [.one (rdr 1 2 3 id q ls.length cl), .one .no, .one .no, .one (lss true ls cl), .one (mtcf 5 w nd ex rel), .one .no]
      fun v h => v = .t [] ∧ ∃ cl', h = [.one (rdr 1 2 6 id q (ls ++ lapL w ex e).length cl'), .one .no, .one .no, .one .no, .one (mtcf 5 w nd ex rel), .one .no, .one (lss true (ls ++ lapL w ex e) cl')] := by
  refine Ctr.mk' tbv mixed Try.func53 rfl rfl rfl (fun _ _ => by kernel_rfl) (by kernel_rfl) (by rfl) (by rfl) (by (repeat' (first | (refine And.intro ?_ ?_) | exact trivial | rfl | exact Nat.le_refl _ | exact (fun _ _ => rfl) | exact all_one (by rfl) | (simp only [Int.toNat_natCast, Nat.zero_add, Nat.add_zero]; done)))) ?_
  repeat' (first
    | ((fail_if_success (with_reducible first | apply kL | apply kC | apply kF | apply kM | refine Exists.intro ?_ ?_)); first
      | ((with_reducible refine And.intro (fun (hb : _ = true) => ?_) (fun (hb : _ = false) => ?_)) <;> (try simp only [n1, n2, n3, n4, n5, n6, n7, n8, n9, n10, n11, n12, n13, n14, n15, n16, reduceCtorEq, n17, n18, n19, n20, n21, n22] at hb) <;> (try (first | (exfalso; omega) | exact bff hb (by assumption) | exact bff (by assumption) hb)))
      | (with_reducible refine Both.mk ?_ ?_)
      | ((with_reducible refine And.intro ?_ ?_); (focus (first | rfl | omega | exact fun _ _ => rfl | assumption | (split <;> omega) | (and_intros <;> first | rfl | omega | (split <;> omega)) | (dsimp only [maxLen]; and_intros <;> omega) | (simp only [n21, n22, m9]; first | omega | (and_intros <;> omega)))))
      | ((with_reducible refine Or.inl ⟨?_, ?_, ?_⟩); (focus rfl); (focus (and_intros <;> first | rfl | omega)))
      | ((with_reducible refine Or.inr (Or.inl ⟨?_, ?_⟩)); focus (and_intros <;> first | rfl | omega))
      | ((with_reducible refine Or.inr (Or.inr (Or.inl ⟨?_, ?_⟩))); focus (and_intros <;> first | rfl | omega))
      | ((with_reducible refine Or.inr (Or.inr (Or.inr ⟨?_, ?_⟩))); focus (and_intros <;> first | rfl | omega))
      | (with_reducible intro hc; (try simp only [capsP, and_true] at hc); (try (exfalso; omega)))
      | ((fail_if_success (with_reducible first | refine And.intro ?_ ?_ | refine Or.inl ?_ | intro _)); (conv => whnf); (fail_if_success (fail_if_success (with_reducible first | apply kL | apply kC | apply kF | apply kM | refine Exists.intro ?_ ?_ | refine Both.mk ?_ ?_ | refine And.intro ?_ ?_ | refine Or.inl ?_ | intro _))))))
  have hK : (e - max ex (e - 256)).toNat ≤ 256 := by omega
  refine LoopK.mk' ({k : Nat // k ≤ (e - max ex (e - 256)).toNat} × Nat)
    (fun ⟨⟨k, _⟩, cc⟩ => ⟨[(0, .c (.p 0 0 0)), (1, .c (.p 4 0 0)), (2, .c (.i .i64 e)), (6, .c (.i .i64 (max ex (e - 256) + k)))],
      [.one (rdr 1 2 6 id q (ls ++ (List.range k).map fun (i : Nat) => (w, max ex (e - 256) + (i : Int))).length cc), .one .no, .one .no, .one .no, .one (mtcf 5 w nd ex rel), .one .no, .one (lss true (ls ++ (List.range k).map fun (i : Nat) => (w, max ex (e - 256) + (i : Int))) cc)]⟩)
    (fun k => (e - max ex (e - 256)).toNat - k.1.1)
    ⟨⟨⟨0, Nat.zero_le _⟩, cl⟩, [0, 1, 2, 3, 4, 5, 3], ?_⟩ ?_
  · simp only [List.range_zero, List.map_nil, List.append_nil]
    (repeat' (first | (refine And.intro ?_ ?_) | exact trivial | rfl | exact Nat.le_refl _ | exact (fun _ _ => rfl) | exact all_one (by rfl) | (simp only [Int.toNat_natCast, Nat.zero_add, Nat.add_zero]; done)))
    all_goals simp
  rintro ⟨⟨k, hk⟩, cc⟩
  have hlen : (ls ++ (List.range k).map fun (i : Nat) => (w, max ex (e - 256) + (i : Int))).length ≤ 1000000 := by
    simp only [List.length_append, List.length_map, List.length_range]; omega
  repeat' (first
    | ((fail_if_success (with_reducible first | apply kL | apply kC | apply kF | apply kM | refine Exists.intro ?_ ?_)); first
      | ((with_reducible refine And.intro (fun (hb : _ = true) => ?_) (fun (hb : _ = false) => ?_)) <;> (try simp only [n1, n2, n3, n4, n5, n6, n7, n8, n9, n10, n11, n12, n13, n14, n15, n16, reduceCtorEq, n17, n18, n19, n20, n21, n22] at hb) <;> (try (first | (exfalso; omega) | exact bff hb (by assumption) | exact bff (by assumption) hb)))
      | (with_reducible refine Both.mk ?_ ?_)
      | ((with_reducible refine And.intro ?_ ?_); (focus (first | rfl | omega | exact fun _ _ => rfl | assumption | (split <;> omega) | (and_intros <;> first | rfl | omega | (split <;> omega)) | (dsimp only [maxLen]; and_intros <;> omega) | (simp only [n21, n22, m9]; first | omega | (and_intros <;> omega)))))
      | ((with_reducible refine Or.inl ⟨?_, ?_, ?_⟩); (focus rfl); (focus (and_intros <;> first | rfl | omega)))
      | ((with_reducible refine Or.inr (Or.inl ⟨?_, ?_⟩)); focus (and_intros <;> first | rfl | omega))
      | ((with_reducible refine Or.inr (Or.inr (Or.inl ⟨?_, ?_⟩))); focus (and_intros <;> first | rfl | omega))
      | ((with_reducible refine Or.inr (Or.inr (Or.inr ⟨?_, ?_⟩))); focus (and_intros <;> first | rfl | omega))
      | (with_reducible intro hc; (try simp only [capsP, and_true] at hc); (try (exfalso; omega)))
      | ((fail_if_success (with_reducible first | refine And.intro ?_ ?_ | refine Or.inl ?_ | intro _)); (conv => whnf); (fail_if_success (fail_if_success (with_reducible first | apply kL | apply kC | apply kF | apply kM | refine Exists.intro ?_ ?_ | refine Both.mk ?_ ?_ | refine And.intro ?_ ?_ | refine Or.inl ?_ | intro _))))))
  · refine CallK.mk3 (σ := [.whole 0, .name 1, .name 2, .whole 6]) (nl := []) (close id q (ls ++ (List.range k).map fun (i : Nat) => (w, max ex (e - 256) + (i : Int))) cc w (max ex (e - 256) + (k : Int)) hlen) rfl rfl (List.append_nil _) (by (try simp only [↓List.length_cons, ↓List.length_nil, Nat.reduceAdd]); rfl) (by (try simp only [↓List.length_cons, ↓List.length_nil, Nat.reduceAdd]); rfl) (by (try simp (maxSteps := 1000000) only [givesF, setF, updF, Fam.zeroth, Fam.rk, Ck.rk, C.rk, E.rk, T.rk, key, List.map_cons, List.map_nil, List.cons_append, List.nil_append, List.length_cons, List.length_nil, Option.map_some, Option.bind_some, Nat.reduceAdd, Nat.zero_add, Nat.add_zero, Nat.add_sub_cancel_left, Int.toNat_natCast, reps, List.all_cons, List.all_nil, C.flat, List.append_eq, Bool.not_true, Bool.and_true, Bool.or_false, Bool.or_self, Bool.not_false, List.append_nil, Bool.and_self]); rfl) (by (repeat' (first | (refine And.intro ?_ ?_) | exact trivial | rfl | exact Nat.le_refl _ | exact (fun _ _ => rfl) | exact all_one (by rfl) | (simp only [Int.toNat_natCast, Nat.zero_add, Nat.add_zero]; done)))) ?_
    rintro v h' ⟨rfl, c2, rfl⟩ hcaps
    refine ret_mk3 (by (try simp only [↓List.length_cons, ↓List.length_nil, Nat.reduceAdd]); rfl) (by (try simp (maxSteps := 1000000) only [givesF, setF, updF, Fam.zeroth, Fam.rk, Ck.rk, C.rk, E.rk, T.rk, key, List.map_cons, List.map_nil, List.cons_append, List.nil_append, List.length_cons, List.length_nil, Option.map_some, Option.bind_some, Nat.reduceAdd, Nat.zero_add, Nat.add_zero, Nat.add_sub_cancel_left, Int.toNat_natCast, reps, List.all_cons, List.all_nil, C.flat, List.append_eq, Bool.not_true, Bool.and_true, Bool.or_false, Bool.or_self, Bool.not_false, List.append_nil, Bool.and_self]); rfl) (by (try simp only [givesF, setF, updF, Fam.zeroth, Fam.rk, Ck.rk, C.rk, E.rk, T.rk, key, List.map_cons, List.map_nil, List.cons_append, List.nil_append, List.length_cons, List.length_nil, Option.map_some, Option.bind_some, Nat.reduceAdd, Nat.zero_add, Nat.add_zero, Nat.add_sub_cancel_left, Int.toNat_natCast, reps, List.all_cons, List.all_nil, C.flat, List.append_eq, Bool.not_true, Bool.and_true, Bool.or_false, Bool.or_self, Bool.not_false, List.append_nil, Bool.and_self]); rfl) ?_
    repeat' (first
      | ((fail_if_success (with_reducible first | apply kL | apply kC | apply kF | apply kM | refine Exists.intro ?_ ?_)); first
        | ((with_reducible refine And.intro (fun (hb : _ = true) => ?_) (fun (hb : _ = false) => ?_)) <;> (try simp only [n1, n2, n3, n4, n5, n6, n7, n8, n9, n10, n11, n12, n13, n14, n15, n16, reduceCtorEq, n17, n18, n19, n20, n21, n22] at hb) <;> (try (first | (exfalso; omega) | exact bff hb (by assumption) | exact bff (by assumption) hb)))
        | (with_reducible refine Both.mk ?_ ?_)
        | ((with_reducible refine And.intro ?_ ?_); (focus (first | rfl | omega | exact fun _ _ => rfl | assumption | (split <;> omega) | (and_intros <;> first | rfl | omega | (split <;> omega)) | (dsimp only [maxLen]; and_intros <;> omega) | (simp only [n21, n22, m9]; first | omega | (and_intros <;> omega)))))
        | ((with_reducible refine Or.inl ⟨?_, ?_, ?_⟩); (focus rfl); (focus (and_intros <;> first | rfl | omega)))
        | ((with_reducible refine Or.inr (Or.inl ⟨?_, ?_⟩)); focus (and_intros <;> first | rfl | omega))
        | ((with_reducible refine Or.inr (Or.inr (Or.inl ⟨?_, ?_⟩))); focus (and_intros <;> first | rfl | omega))
        | ((with_reducible refine Or.inr (Or.inr (Or.inr ⟨?_, ?_⟩))); focus (and_intros <;> first | rfl | omega))
        | (with_reducible intro hc; (try simp only [capsP, and_true] at hc); (try (exfalso; omega)))
        | ((fail_if_success (with_reducible first | refine And.intro ?_ ?_ | refine Or.inl ?_ | intro _)); (conv => whnf); (fail_if_success (fail_if_success (with_reducible first | apply kL | apply kC | apply kF | apply kM | refine Exists.intro ?_ ?_ | refine Both.mk ?_ ?_ | refine And.intro ?_ ?_ | refine Or.inl ?_ | intro _))))))
    refine ⟨⟨⟨k + 1, by omega⟩, c2⟩, [0, 1, 2, 3, 4, 5, 7], by simp only; omega, ?_⟩
    simp only [lap_step, ← List.append_assoc]
    (repeat' (first | (refine And.intro ?_ ?_) | exact trivial | rfl | exact Nat.le_refl _ | exact (fun _ _ => rfl) | exact all_one (by rfl) | (simp only [Int.toNat_natCast, Nat.zero_add, Nat.add_zero]; done)))
    all_goals omega
  · have ek : k = (e - max ex (e - 256)).toNat := by omega
    refine FinK.mk ⟨[0, 1, 2, 3, 4, 5, 6], _, _, ⟨rfl, cc, rfl⟩, ?_⟩
    unfold lapL
    rw [← ek]
    (repeat' (first | (refine And.intro ?_ ?_) | exact trivial | rfl | exact Nat.le_refl _ | exact (fun _ _ => rfl) | exact all_one (by rfl) | (simp only [Int.toNat_natCast, Nat.zero_add, Nat.add_zero]; done)))

set_option maxRecDepth 10000 in
theorem cnumber (n : Int) : Ctr Try.prog 51 [.c (.i .i64 n)] [] fun v h => v = .c (.b (decide (1 ≤ n ∧ n ≤ 1099511627776))) ∧ h = [] := by
  refine Ctr.mk' tbv mixed Try.func51 rfl rfl rfl (fun _ _ => by kernel_rfl) (by kernel_rfl) (by rfl) (by rfl) (by (repeat' (first | (refine And.intro ?_ ?_) | exact trivial | rfl | exact Nat.le_refl _ | exact (fun _ _ => rfl) | exact all_one (by rfl) | (simp only [Int.toNat_natCast, Nat.zero_add, Nat.add_zero]; done)))) ?_
  repeat' (first
    | ((fail_if_success (with_reducible first | apply kL | apply kC | apply kF | apply kM | refine Exists.intro ?_ ?_)); first
      | ((with_reducible refine And.intro (fun (hb : _ = true) => ?_) (fun (hb : _ = false) => ?_)) <;> (try simp only [n1, n2, n3, n4, n5, n6, n7, n8, n9, n10, n11, n12, n13, n14, n15, n16, reduceCtorEq, n17, n18, n19, n20, n21, n22] at hb) <;> (try (first | (exfalso; omega) | exact bff hb (by assumption) | exact bff (by assumption) hb)))
      | (with_reducible refine Both.mk ?_ ?_)
      | ((with_reducible refine And.intro ?_ ?_); (focus (first | rfl | omega | exact fun _ _ => rfl | assumption | (split <;> omega) | (and_intros <;> first | rfl | omega | (split <;> omega)) | (dsimp only [maxLen]; and_intros <;> omega) | (simp only [n21, n22, m9]; first | omega | (and_intros <;> omega)))))
      | ((with_reducible refine Or.inl ⟨?_, ?_, ?_⟩); (focus rfl); (focus (and_intros <;> first | rfl | omega)))
      | ((with_reducible refine Or.inr (Or.inl ⟨?_, ?_⟩)); focus (and_intros <;> first | rfl | omega))
      | ((with_reducible refine Or.inr (Or.inr (Or.inl ⟨?_, ?_⟩))); focus (and_intros <;> first | rfl | omega))
      | ((with_reducible refine Or.inr (Or.inr (Or.inr ⟨?_, ?_⟩))); focus (and_intros <;> first | rfl | omega))
      | (with_reducible intro hc; (try simp only [capsP, and_true] at hc); (try (exfalso; omega)))
      | ((fail_if_success (with_reducible first | refine And.intro ?_ ?_ | refine Or.inl ?_ | intro _)); (conv => whnf); (fail_if_success (fail_if_success (with_reducible first | apply kL | apply kC | apply kF | apply kM | refine Exists.intro ?_ ?_ | refine Both.mk ?_ ?_ | refine And.intro ?_ ?_ | refine Or.inl ?_ | intro _))))))
  all_goals (
    refine FinK.mk ⟨[], _, _, ⟨rfl, rfl⟩, ?_⟩; (repeat' (first | (refine And.intro ?_ ?_) | exact trivial | rfl | exact Nat.le_refl _ | exact (fun _ _ => rfl) | exact all_one (by rfl) | (simp only [Int.toNat_natCast, Nat.zero_add, Nat.add_zero]; done)))
    all_goals first | (symm; exact decide_eq_true (by omega)) | (symm; exact decide_eq_false (by omega)) | (exact decide_eq_true (by omega)) | (exact decide_eq_false (by omega)) | (simp; omega))
end Go.Proofs.Ytgcofipbdidhmaa

namespace Go.Proofs.Ytgcofipbdidhmaa
open Go.X
set_option linter.unusedSimpArgs false
set_option linter.unusedVariables false

def okN (n : Int) : Prop := 1 ≤ n ∧ n ≤ 1099511627776
instance (n : Int) : Decidable (okN n) := by unfold okN; infer_instance
def checkP (x : Pkt) : Int :=
  if x.k = 1 then (if okN x.q ∧ 0 ≤ x.at' ∧ x.at' ≤ 1099511627776 ∧ x.p.size ≤ 2000 then 0 else 4)
  else if x.k = 4 then (if (x.q = 0 ∨ x.q = 1) ∧ okN x.f ∧ x.f - 1 ≤ x.la ∧ x.la ≤ 1099511627776 then 0 else 4)
  else if x.k = 2 then (if okN x.f ∧ x.f - 1 ≤ x.la ∧ x.la ≤ 1099511627776 then 0 else 4)
  else 10

set_option maxRecDepth 10000 in
set_option maxHeartbeats 4000000 in
theorem ccheck (x : Pkt) (n c : Nat) (xm : Nat := 0) : Ctr Try.prog 32 [.a (encP (.sl 0 xm 1 0 n c) x)] [.one .no] fun v h => v = .c (.i .i64 (checkP x)) ∧ h = [.one .no] := by
  refine Ctr.mk' tbv mixed Try.func32 rfl rfl rfl (fun _ _ => by kernel_rfl) (by kernel_rfl) (by rfl) (by rfl) (by (repeat' (first | (refine And.intro ?_ ?_) | exact trivial | rfl | exact Nat.le_refl _ | exact (fun _ _ => rfl) | exact all_one (by rfl) | (simp only [Int.toNat_natCast, Nat.zero_add, Nat.add_zero]; done)))) ?_
  repeat' (first
    | ((fail_if_success (with_reducible first | apply kL | apply kC | apply kF | apply kM | refine Exists.intro ?_ ?_)); first
      | ((with_reducible refine And.intro (fun (hb : _ = true) => ?_) (fun (hb : _ = false) => ?_)) <;> (try simp only [n1, n2, n3, n4, n5, n6, n7, n8, n9, n10, n11, n12, n13, n14, n15, n16, reduceCtorEq, n17, n18, n19, n20, n21, n22] at hb) <;> (try (first | (exfalso; omega) | exact bff hb (by assumption) | exact bff (by assumption) hb)))
      | (with_reducible refine Both.mk ?_ ?_)
      | ((with_reducible refine And.intro ?_ ?_); (focus (first | rfl | omega | exact fun _ _ => rfl | assumption | (split <;> omega) | (and_intros <;> first | rfl | omega | (split <;> omega)) | (dsimp only [maxLen]; and_intros <;> omega) | (simp only [n21, n22, m9]; first | omega | (and_intros <;> omega)))))
      | ((with_reducible refine Or.inl ⟨?_, ?_, ?_⟩); (focus rfl); (focus (and_intros <;> first | rfl | omega)))
      | ((with_reducible refine Or.inr (Or.inl ⟨?_, ?_⟩)); focus (and_intros <;> first | rfl | omega))
      | ((with_reducible refine Or.inr (Or.inr (Or.inl ⟨?_, ?_⟩))); focus (and_intros <;> first | rfl | omega))
      | ((with_reducible refine Or.inr (Or.inr (Or.inr ⟨?_, ?_⟩))); focus (and_intros <;> first | rfl | omega))
      | (with_reducible intro hc; (try simp only [capsP, and_true] at hc); (try (exfalso; omega)))
      | ((fail_if_success (with_reducible first | refine And.intro ?_ ?_ | refine Or.inl ?_ | intro _)); (conv => whnf); (fail_if_success (fail_if_success (with_reducible first | apply kL | apply kC | apply kF | apply kM | refine Exists.intro ?_ ?_ | refine Both.mk ?_ ?_ | refine And.intro ?_ ?_ | refine Or.inl ?_ | intro _))))))
  · refine CallK.mk3 (σ := []) (nl := []) (cnumber x.q) rfl rfl (List.append_nil _) (by (try simp only [↓List.length_cons, ↓List.length_nil, Nat.reduceAdd]); rfl) (by (try simp only [↓List.length_cons, ↓List.length_nil, Nat.reduceAdd]); rfl) (by (try simp (maxSteps := 1000000) only [givesF, setF, updF, Fam.zeroth, Fam.rk, Ck.rk, C.rk, E.rk, T.rk, key, List.map_cons, List.map_nil, List.cons_append, List.nil_append, List.length_cons, List.length_nil, Option.map_some, Option.bind_some, Nat.reduceAdd, Nat.zero_add, Nat.add_zero, Nat.add_sub_cancel_left, Int.toNat_natCast, reps, List.all_cons, List.all_nil, C.flat, List.append_eq, Bool.not_true, Bool.and_true, Bool.or_false, Bool.or_self, Bool.not_false, List.append_nil, Bool.and_self]); rfl) (by (repeat' (first | (refine And.intro ?_ ?_) | exact trivial | rfl | exact Nat.le_refl _ | exact (fun _ _ => rfl) | exact all_one (by rfl) | (simp only [Int.toNat_natCast, Nat.zero_add, Nat.add_zero]; done)))) ?_
    rintro v h' ⟨rfl, rfl⟩ hcaps
    refine ret_mk3 (by (try simp only [↓List.length_cons, ↓List.length_nil, Nat.reduceAdd]); rfl) (by (try simp (maxSteps := 1000000) only [givesF, setF, updF, Fam.zeroth, Fam.rk, Ck.rk, C.rk, E.rk, T.rk, key, List.map_cons, List.map_nil, List.cons_append, List.nil_append, List.length_cons, List.length_nil, Option.map_some, Option.bind_some, Nat.reduceAdd, Nat.zero_add, Nat.add_zero, Nat.add_sub_cancel_left, Int.toNat_natCast, reps, List.all_cons, List.all_nil, C.flat, List.append_eq, Bool.not_true, Bool.and_true, Bool.or_false, Bool.or_self, Bool.not_false, List.append_nil, Bool.and_self]); rfl) (by (try simp only [givesF, setF, updF, Fam.zeroth, Fam.rk, Ck.rk, C.rk, E.rk, T.rk, key, List.map_cons, List.map_nil, List.cons_append, List.nil_append, List.length_cons, List.length_nil, Option.map_some, Option.bind_some, Nat.reduceAdd, Nat.zero_add, Nat.add_zero, Nat.add_sub_cancel_left, Int.toNat_natCast, reps, List.all_cons, List.all_nil, C.flat, List.append_eq, Bool.not_true, Bool.and_true, Bool.or_false, Bool.or_self, Bool.not_false, List.append_nil, Bool.and_self]); rfl) ?_
    repeat' (first
      | ((fail_if_success (with_reducible first | apply kL | apply kC | apply kF | apply kM | refine Exists.intro ?_ ?_)); first
        | ((with_reducible refine And.intro (fun (hb : _ = true) => ?_) (fun (hb : _ = false) => ?_)) <;> (try simp only [n1, n2, n3, n4, n5, n6, n7, n8, n9, n10, n11, n12, n13, n14, n15, n16, reduceCtorEq, n17, n18, n19, n20, n21, n22] at hb) <;> (try (first | (exfalso; omega) | exact bff hb (by assumption) | exact bff (by assumption) hb)))
        | (with_reducible refine Both.mk ?_ ?_)
        | ((with_reducible refine And.intro ?_ ?_); (focus (first | rfl | omega | exact fun _ _ => rfl | assumption | (split <;> omega) | (and_intros <;> first | rfl | omega | (split <;> omega)) | (dsimp only [maxLen]; and_intros <;> omega) | (simp only [n21, n22, m9]; first | omega | (and_intros <;> omega)))))
        | ((with_reducible refine Or.inl ⟨?_, ?_, ?_⟩); (focus rfl); (focus (and_intros <;> first | rfl | omega)))
        | ((with_reducible refine Or.inr (Or.inl ⟨?_, ?_⟩)); focus (and_intros <;> first | rfl | omega))
        | ((with_reducible refine Or.inr (Or.inr (Or.inl ⟨?_, ?_⟩))); focus (and_intros <;> first | rfl | omega))
        | ((with_reducible refine Or.inr (Or.inr (Or.inr ⟨?_, ?_⟩))); focus (and_intros <;> first | rfl | omega))
        | (with_reducible intro hc; (try simp only [capsP, and_true] at hc); (try (exfalso; omega)))
        | ((fail_if_success (with_reducible first | refine And.intro ?_ ?_ | refine Or.inl ?_ | intro _)); (conv => whnf); (fail_if_success (fail_if_success (with_reducible first | apply kL | apply kC | apply kF | apply kM | refine Exists.intro ?_ ?_ | refine Both.mk ?_ ?_ | refine And.intro ?_ ?_ | refine Or.inl ?_ | intro _))))))
    all_goals (
      refine FinK.mk ⟨[0], _, _, ⟨rfl, rfl⟩, ?_⟩; (repeat' (first | (refine And.intro ?_ ?_) | exact trivial | rfl | exact Nat.le_refl _ | exact (fun _ _ => rfl) | exact all_one (by rfl) | (simp only [Int.toNat_natCast, Nat.zero_add, Nat.add_zero]; done)))
      all_goals (unfold checkP okN; repeat' split)
      all_goals omega)
  · refine CallK.mk3 (σ := []) (nl := []) (cnumber x.f) rfl rfl (List.append_nil _) (by (try simp only [↓List.length_cons, ↓List.length_nil, Nat.reduceAdd]); rfl) (by (try simp only [↓List.length_cons, ↓List.length_nil, Nat.reduceAdd]); rfl) (by (try simp (maxSteps := 1000000) only [givesF, setF, updF, Fam.zeroth, Fam.rk, Ck.rk, C.rk, E.rk, T.rk, key, List.map_cons, List.map_nil, List.cons_append, List.nil_append, List.length_cons, List.length_nil, Option.map_some, Option.bind_some, Nat.reduceAdd, Nat.zero_add, Nat.add_zero, Nat.add_sub_cancel_left, Int.toNat_natCast, reps, List.all_cons, List.all_nil, C.flat, List.append_eq, Bool.not_true, Bool.and_true, Bool.or_false, Bool.or_self, Bool.not_false, List.append_nil, Bool.and_self]); rfl) (by (repeat' (first | (refine And.intro ?_ ?_) | exact trivial | rfl | exact Nat.le_refl _ | exact (fun _ _ => rfl) | exact all_one (by rfl) | (simp only [Int.toNat_natCast, Nat.zero_add, Nat.add_zero]; done)))) ?_
    rintro v h' ⟨rfl, rfl⟩ hcaps
    refine ret_mk3 (by (try simp only [↓List.length_cons, ↓List.length_nil, Nat.reduceAdd]); rfl) (by (try simp (maxSteps := 1000000) only [givesF, setF, updF, Fam.zeroth, Fam.rk, Ck.rk, C.rk, E.rk, T.rk, key, List.map_cons, List.map_nil, List.cons_append, List.nil_append, List.length_cons, List.length_nil, Option.map_some, Option.bind_some, Nat.reduceAdd, Nat.zero_add, Nat.add_zero, Nat.add_sub_cancel_left, Int.toNat_natCast, reps, List.all_cons, List.all_nil, C.flat, List.append_eq, Bool.not_true, Bool.and_true, Bool.or_false, Bool.or_self, Bool.not_false, List.append_nil, Bool.and_self]); rfl) (by (try simp only [givesF, setF, updF, Fam.zeroth, Fam.rk, Ck.rk, C.rk, E.rk, T.rk, key, List.map_cons, List.map_nil, List.cons_append, List.nil_append, List.length_cons, List.length_nil, Option.map_some, Option.bind_some, Nat.reduceAdd, Nat.zero_add, Nat.add_zero, Nat.add_sub_cancel_left, Int.toNat_natCast, reps, List.all_cons, List.all_nil, C.flat, List.append_eq, Bool.not_true, Bool.and_true, Bool.or_false, Bool.or_self, Bool.not_false, List.append_nil, Bool.and_self]); rfl) ?_
    repeat' (first
      | ((fail_if_success (with_reducible first | apply kL | apply kC | apply kF | apply kM | refine Exists.intro ?_ ?_)); first
        | ((with_reducible refine And.intro (fun (hb : _ = true) => ?_) (fun (hb : _ = false) => ?_)) <;> (try simp only [n1, n2, n3, n4, n5, n6, n7, n8, n9, n10, n11, n12, n13, n14, n15, n16, reduceCtorEq, n17, n18, n19, n20, n21, n22] at hb) <;> (try (first | (exfalso; omega) | exact bff hb (by assumption) | exact bff (by assumption) hb)))
        | (with_reducible refine Both.mk ?_ ?_)
        | ((with_reducible refine And.intro ?_ ?_); (focus (first | rfl | omega | exact fun _ _ => rfl | assumption | (split <;> omega) | (and_intros <;> first | rfl | omega | (split <;> omega)) | (dsimp only [maxLen]; and_intros <;> omega) | (simp only [n21, n22, m9]; first | omega | (and_intros <;> omega)))))
        | ((with_reducible refine Or.inl ⟨?_, ?_, ?_⟩); (focus rfl); (focus (and_intros <;> first | rfl | omega)))
        | ((with_reducible refine Or.inr (Or.inl ⟨?_, ?_⟩)); focus (and_intros <;> first | rfl | omega))
        | ((with_reducible refine Or.inr (Or.inr (Or.inl ⟨?_, ?_⟩))); focus (and_intros <;> first | rfl | omega))
        | ((with_reducible refine Or.inr (Or.inr (Or.inr ⟨?_, ?_⟩))); focus (and_intros <;> first | rfl | omega))
        | (with_reducible intro hc; (try simp only [capsP, and_true] at hc); (try (exfalso; omega)))
        | ((fail_if_success (with_reducible first | refine And.intro ?_ ?_ | refine Or.inl ?_ | intro _)); (conv => whnf); (fail_if_success (fail_if_success (with_reducible first | apply kL | apply kC | apply kF | apply kM | refine Exists.intro ?_ ?_ | refine Both.mk ?_ ?_ | refine And.intro ?_ ?_ | refine Or.inl ?_ | intro _))))))
    all_goals (
      refine FinK.mk ⟨[0], _, _, ⟨rfl, rfl⟩, ?_⟩; (repeat' (first | (refine And.intro ?_ ?_) | exact trivial | rfl | exact Nat.le_refl _ | exact (fun _ _ => rfl) | exact all_one (by rfl) | (simp only [Int.toNat_natCast, Nat.zero_add, Nat.add_zero]; done)))
      all_goals (unfold checkP okN; repeat' split)
      all_goals omega)
  · refine CallK.mk3 (σ := []) (nl := []) (cnumber x.f) rfl rfl (List.append_nil _) (by (try simp only [↓List.length_cons, ↓List.length_nil, Nat.reduceAdd]); rfl) (by (try simp only [↓List.length_cons, ↓List.length_nil, Nat.reduceAdd]); rfl) (by (try simp (maxSteps := 1000000) only [givesF, setF, updF, Fam.zeroth, Fam.rk, Ck.rk, C.rk, E.rk, T.rk, key, List.map_cons, List.map_nil, List.cons_append, List.nil_append, List.length_cons, List.length_nil, Option.map_some, Option.bind_some, Nat.reduceAdd, Nat.zero_add, Nat.add_zero, Nat.add_sub_cancel_left, Int.toNat_natCast, reps, List.all_cons, List.all_nil, C.flat, List.append_eq, Bool.not_true, Bool.and_true, Bool.or_false, Bool.or_self, Bool.not_false, List.append_nil, Bool.and_self]); rfl) (by (repeat' (first | (refine And.intro ?_ ?_) | exact trivial | rfl | exact Nat.le_refl _ | exact (fun _ _ => rfl) | exact all_one (by rfl) | (simp only [Int.toNat_natCast, Nat.zero_add, Nat.add_zero]; done)))) ?_
    rintro v h' ⟨rfl, rfl⟩ hcaps
    refine ret_mk3 (by (try simp only [↓List.length_cons, ↓List.length_nil, Nat.reduceAdd]); rfl) (by (try simp (maxSteps := 1000000) only [givesF, setF, updF, Fam.zeroth, Fam.rk, Ck.rk, C.rk, E.rk, T.rk, key, List.map_cons, List.map_nil, List.cons_append, List.nil_append, List.length_cons, List.length_nil, Option.map_some, Option.bind_some, Nat.reduceAdd, Nat.zero_add, Nat.add_zero, Nat.add_sub_cancel_left, Int.toNat_natCast, reps, List.all_cons, List.all_nil, C.flat, List.append_eq, Bool.not_true, Bool.and_true, Bool.or_false, Bool.or_self, Bool.not_false, List.append_nil, Bool.and_self]); rfl) (by (try simp only [givesF, setF, updF, Fam.zeroth, Fam.rk, Ck.rk, C.rk, E.rk, T.rk, key, List.map_cons, List.map_nil, List.cons_append, List.nil_append, List.length_cons, List.length_nil, Option.map_some, Option.bind_some, Nat.reduceAdd, Nat.zero_add, Nat.add_zero, Nat.add_sub_cancel_left, Int.toNat_natCast, reps, List.all_cons, List.all_nil, C.flat, List.append_eq, Bool.not_true, Bool.and_true, Bool.or_false, Bool.or_self, Bool.not_false, List.append_nil, Bool.and_self]); rfl) ?_
    repeat' (first
      | ((fail_if_success (with_reducible first | apply kL | apply kC | apply kF | apply kM | refine Exists.intro ?_ ?_)); first
        | ((with_reducible refine And.intro (fun (hb : _ = true) => ?_) (fun (hb : _ = false) => ?_)) <;> (try simp only [n1, n2, n3, n4, n5, n6, n7, n8, n9, n10, n11, n12, n13, n14, n15, n16, reduceCtorEq, n17, n18, n19, n20, n21, n22] at hb) <;> (try (first | (exfalso; omega) | exact bff hb (by assumption) | exact bff (by assumption) hb)))
        | (with_reducible refine Both.mk ?_ ?_)
        | ((with_reducible refine And.intro ?_ ?_); (focus (first | rfl | omega | exact fun _ _ => rfl | assumption | (split <;> omega) | (and_intros <;> first | rfl | omega | (split <;> omega)) | (dsimp only [maxLen]; and_intros <;> omega) | (simp only [n21, n22, m9]; first | omega | (and_intros <;> omega)))))
        | ((with_reducible refine Or.inl ⟨?_, ?_, ?_⟩); (focus rfl); (focus (and_intros <;> first | rfl | omega)))
        | ((with_reducible refine Or.inr (Or.inl ⟨?_, ?_⟩)); focus (and_intros <;> first | rfl | omega))
        | ((with_reducible refine Or.inr (Or.inr (Or.inl ⟨?_, ?_⟩))); focus (and_intros <;> first | rfl | omega))
        | ((with_reducible refine Or.inr (Or.inr (Or.inr ⟨?_, ?_⟩))); focus (and_intros <;> first | rfl | omega))
        | (with_reducible intro hc; (try simp only [capsP, and_true] at hc); (try (exfalso; omega)))
        | ((fail_if_success (with_reducible first | refine And.intro ?_ ?_ | refine Or.inl ?_ | intro _)); (conv => whnf); (fail_if_success (fail_if_success (with_reducible first | apply kL | apply kC | apply kF | apply kM | refine Exists.intro ?_ ?_ | refine Both.mk ?_ ?_ | refine And.intro ?_ ?_ | refine Or.inl ?_ | intro _))))))
    all_goals (
      refine FinK.mk ⟨[0], _, _, ⟨rfl, rfl⟩, ?_⟩; (repeat' (first | (refine And.intro ?_ ?_) | exact trivial | rfl | exact Nat.le_refl _ | exact (fun _ _ => rfl) | exact all_one (by rfl) | (simp only [Int.toNat_natCast, Nat.zero_add, Nat.add_zero]; done)))
      all_goals (unfold checkP okN; repeat' split)
      all_goals omega)
  · refine FinK.mk ⟨[0], _, _, ⟨rfl, rfl⟩, ?_⟩; (repeat' (first | (refine And.intro ?_ ?_) | exact trivial | rfl | exact Nat.le_refl _ | exact (fun _ _ => rfl) | exact all_one (by rfl) | (simp only [Int.toNat_natCast, Nat.zero_add, Nat.add_zero]; done)))
    all_goals (unfold checkP okN; repeat' split)
    all_goals omega
  · refine CallK.mk3 (σ := []) (nl := []) (cnumber x.f) rfl rfl (List.append_nil _) (by (try simp only [↓List.length_cons, ↓List.length_nil, Nat.reduceAdd]); rfl) (by (try simp only [↓List.length_cons, ↓List.length_nil, Nat.reduceAdd]); rfl) (by (try simp (maxSteps := 1000000) only [givesF, setF, updF, Fam.zeroth, Fam.rk, Ck.rk, C.rk, E.rk, T.rk, key, List.map_cons, List.map_nil, List.cons_append, List.nil_append, List.length_cons, List.length_nil, Option.map_some, Option.bind_some, Nat.reduceAdd, Nat.zero_add, Nat.add_zero, Nat.add_sub_cancel_left, Int.toNat_natCast, reps, List.all_cons, List.all_nil, C.flat, List.append_eq, Bool.not_true, Bool.and_true, Bool.or_false, Bool.or_self, Bool.not_false, List.append_nil, Bool.and_self]); rfl) (by (repeat' (first | (refine And.intro ?_ ?_) | exact trivial | rfl | exact Nat.le_refl _ | exact (fun _ _ => rfl) | exact all_one (by rfl) | (simp only [Int.toNat_natCast, Nat.zero_add, Nat.add_zero]; done)))) ?_
    rintro v h' ⟨rfl, rfl⟩ hcaps
    refine ret_mk3 (by (try simp only [↓List.length_cons, ↓List.length_nil, Nat.reduceAdd]); rfl) (by (try simp (maxSteps := 1000000) only [givesF, setF, updF, Fam.zeroth, Fam.rk, Ck.rk, C.rk, E.rk, T.rk, key, List.map_cons, List.map_nil, List.cons_append, List.nil_append, List.length_cons, List.length_nil, Option.map_some, Option.bind_some, Nat.reduceAdd, Nat.zero_add, Nat.add_zero, Nat.add_sub_cancel_left, Int.toNat_natCast, reps, List.all_cons, List.all_nil, C.flat, List.append_eq, Bool.not_true, Bool.and_true, Bool.or_false, Bool.or_self, Bool.not_false, List.append_nil, Bool.and_self]); rfl) (by (try simp only [givesF, setF, updF, Fam.zeroth, Fam.rk, Ck.rk, C.rk, E.rk, T.rk, key, List.map_cons, List.map_nil, List.cons_append, List.nil_append, List.length_cons, List.length_nil, Option.map_some, Option.bind_some, Nat.reduceAdd, Nat.zero_add, Nat.add_zero, Nat.add_sub_cancel_left, Int.toNat_natCast, reps, List.all_cons, List.all_nil, C.flat, List.append_eq, Bool.not_true, Bool.and_true, Bool.or_false, Bool.or_self, Bool.not_false, List.append_nil, Bool.and_self]); rfl) ?_
    repeat' (first
      | ((fail_if_success (with_reducible first | apply kL | apply kC | apply kF | apply kM | refine Exists.intro ?_ ?_)); first
        | ((with_reducible refine And.intro (fun (hb : _ = true) => ?_) (fun (hb : _ = false) => ?_)) <;> (try simp only [n1, n2, n3, n4, n5, n6, n7, n8, n9, n10, n11, n12, n13, n14, n15, n16, reduceCtorEq, n17, n18, n19, n20, n21, n22] at hb) <;> (try (first | (exfalso; omega) | exact bff hb (by assumption) | exact bff (by assumption) hb)))
        | (with_reducible refine Both.mk ?_ ?_)
        | ((with_reducible refine And.intro ?_ ?_); (focus (first | rfl | omega | exact fun _ _ => rfl | assumption | (split <;> omega) | (and_intros <;> first | rfl | omega | (split <;> omega)) | (dsimp only [maxLen]; and_intros <;> omega) | (simp only [n21, n22, m9]; first | omega | (and_intros <;> omega)))))
        | ((with_reducible refine Or.inl ⟨?_, ?_, ?_⟩); (focus rfl); (focus (and_intros <;> first | rfl | omega)))
        | ((with_reducible refine Or.inr (Or.inl ⟨?_, ?_⟩)); focus (and_intros <;> first | rfl | omega))
        | ((with_reducible refine Or.inr (Or.inr (Or.inl ⟨?_, ?_⟩))); focus (and_intros <;> first | rfl | omega))
        | ((with_reducible refine Or.inr (Or.inr (Or.inr ⟨?_, ?_⟩))); focus (and_intros <;> first | rfl | omega))
        | (with_reducible intro hc; (try simp only [capsP, and_true] at hc); (try (exfalso; omega)))
        | ((fail_if_success (with_reducible first | refine And.intro ?_ ?_ | refine Or.inl ?_ | intro _)); (conv => whnf); (fail_if_success (fail_if_success (with_reducible first | apply kL | apply kC | apply kF | apply kM | refine Exists.intro ?_ ?_ | refine Both.mk ?_ ?_ | refine And.intro ?_ ?_ | refine Or.inl ?_ | intro _))))))
    all_goals (
      refine FinK.mk ⟨[0], _, _, ⟨rfl, rfl⟩, ?_⟩; (repeat' (first | (refine And.intro ?_ ?_) | exact trivial | rfl | exact Nat.le_refl _ | exact (fun _ _ => rfl) | exact all_one (by rfl) | (simp only [Int.toNat_natCast, Nat.zero_add, Nat.add_zero]; done)))
      all_goals (unfold checkP okN; repeat' split)
      all_goals omega)
  · refine FinK.mk ⟨[0], _, _, ⟨rfl, rfl⟩, ?_⟩; (repeat' (first | (refine And.intro ?_ ?_) | exact trivial | rfl | exact Nat.le_refl _ | exact (fun _ _ => rfl) | exact all_one (by rfl) | (simp only [Int.toNat_natCast, Nat.zero_add, Nat.add_zero]; done)))
    all_goals (unfold checkP okN; repeat' split)
    all_goals omega

def smpOf (x : Pkt) : Smp := ⟨x.w, x.q, x.at', x.p⟩
def openB (r : Rs) (n : Int) : Prop := r.ex ≤ n ∧ n - r.ex < 256 ∧ ∀ i, i < r.W.length → (r.W.getD i default).2.1 ≠ n
instance (r : Rs) (n : Int) : Decidable (openB r n) := by unfold openB; infer_instance
def putW (n : Int) (s : Slt) (r : Rs) : Rs := ⟨r.l, r.ls, r.ex, r.W ++ [(r.ck, n, s)], r.ck + 1⟩
theorem lap_len (w ex e : Int) : (lapL w ex e).length ≤ 256 := by
  unfold lapL
  simp only [List.length_map, List.length_range]
  omega
theorem encW_put (W : Win) (ck : Nat) (n : Int) (s : Slt) (i : Nat) : (if i = W.length then (ck, Key.i n, E.a (.i .i64 s.st :: encS s.x)) else encW W i) = encW (W ++ [(ck, n, s)]) i := by
  unfold encW
  by_cases h : i = W.length
  · subst h
    rw [if_pos rfl]
    simp [List.getD]
  · rw [if_neg h]
    rcases Nat.lt_or_gt_of_ne h with h | h
    · simp [List.getD, List.getElem?_append_left h]
    · have e1 : (W ++ [(ck, n, s)])[i]? = none := List.getElem?_eq_none (by simp; omega)
      have e2 : W[i]? = none := List.getElem?_eq_none (by omega)
      simp [List.getD, e1, e2]
theorem put_ok {r : Rs} {n : Int} {s : Slt} (hW : WOk r.W r.ex) (h : openB r n) (hn : n ≤ 1099511627776) : WOk (putW n s r).W (putW n s r).ex where
  nd := by
    simp only [putW, List.map_append, List.map_cons, List.map_nil]
    rw [List.nodup_append]
    refine ⟨hW.nd, by simp, ?_⟩
    intro a ha b hb
    simp at hb
    subst hb
    obtain ⟨e, he, rfl⟩ := List.mem_map.1 ha
    obtain ⟨i, hi, rfl⟩ := List.mem_iff_getElem.1 he
    have := h.2.2 i hi
    rwa [getD_at hi] at this
  rg := fun e he => by
    rcases List.mem_append.1 he with he | he
    · exact hW.rg e he
    · simp at he
      subst he
      show r.ex ≤ n ∧ n < r.ex + 256
      have h1 := h.1
      have h2 := h.2.1
      omega
  mx := fun e he => by
    rcases List.mem_append.1 he with he | he
    · exact hW.mx e he
    · simp at he
      subst he
      exact hn
def dataF (q : Qos) (w : Int) (rel : Bool) (x : Pkt) (r : Rs) : Rs :=
  if x.q < r.ex then r
  else if rel = false then ⟨newS q r.l (smpOf x), dlvL q r.l (r.ls ++ lapL w r.ex x.q) (smpOf x), x.q + 1, r.W, r.ck⟩
  else if openB r x.q then mv q w (r.W.length + 1) (putW x.q ⟨1, smpOf x⟩ r)
  else r

set_option maxRecDepth 10000 in
set_option maxHeartbeats 4000000 in
theorem cdata (id : Int) (q : Qos) (w nd : Int) (rel : Bool) (r : Rs) (c cl n cm : Nat) (x : Pkt) (hW : WOk r.W r.ex) (hex : 1 ≤ r.ex ∧ r.ex ≤ 1099511627777) (hl : r.l.length + r.W.length ≤ 800000) (hls : r.ls.length + 2 * r.W.length ≤ 700000) (hx : okN x.q) (xm : Nat := 0) :
    Ctr Try.prog 33 [.c (.p 0 0 0), .c (.p 5 0 0), .a (encP (.sl 7 xm 1 0 n cm) x)] [.one (rdr 1 2 3 id q r.ls.length cl), .one (hist 4 q r.l.length c), .one .no, .one (lss true r.ls cl), .one (smps true r.l c), .one (mtcf 6 w nd r.ex rel), .one (wnd r.W r.ck), .one .no]
      fun v h => v = .t [] ∧ ∃ c' cl', h = [.one (rdr 1 2 8 id q (dataF q w rel x r).ls.length cl'), .one (hist 9 q (dataF q w rel x r).l.length c'), .one .no, .one .no, .one .no, .one (mtcf 6 w nd (dataF q w rel x r).ex rel), .one (wnd (dataF q w rel x r).W (dataF q w rel x r).ck), .one .no,
        .one (lss true (dataF q w rel x r).ls cl'), .one (smps true (dataF q w rel x r).l c')] := by
  have hx := hx
  unfold okN at hx
  refine Ctr.mk' tbv mixed Try.func33 rfl rfl rfl (fun _ _ => by kernel_rfl) (by kernel_rfl) (by rfl) (by rfl) (by (repeat' (first | (refine And.intro ?_ ?_) | exact trivial | rfl | exact Nat.le_refl _ | exact (fun _ _ => rfl) | exact all_one (by rfl) | (simp only [Int.toNat_natCast, Nat.zero_add, Nat.add_zero]; done)))) ?_
  generalize hR : dataF q w rel x r = R
  unfold dataF at hR
  repeat' (first
    | ((fail_if_success (with_reducible first | apply kL | apply kC | apply kF | apply kM | refine Exists.intro ?_ ?_)); first
      | ((with_reducible refine And.intro (fun (hb : _ = true) => ?_) (fun (hb : _ = false) => ?_)) <;> (try simp only [n1, n2, n3, n4, n5, n6, n7, n8, n9, n10, n11, n12, n13, n14, n15, n16, reduceCtorEq, n17, n18, n19, n20, n21, n22] at hb) <;> (try (first | (exfalso; omega) | exact bff hb (by assumption) | exact bff (by assumption) hb)))
      | (with_reducible refine Both.mk ?_ ?_)
      | ((with_reducible refine And.intro ?_ ?_); (focus (first | rfl | omega | exact fun _ _ => rfl | assumption | (split <;> omega) | (and_intros <;> first | rfl | omega | (split <;> omega)) | (dsimp only [maxLen]; and_intros <;> omega) | (simp only [n21, n22, m9]; first | omega | (and_intros <;> omega)))))
      | ((with_reducible refine Or.inl ⟨?_, ?_, ?_⟩); (focus rfl); (focus (and_intros <;> first | rfl | omega)))
      | ((with_reducible refine Or.inr (Or.inl ⟨?_, ?_⟩)); focus (and_intros <;> first | rfl | omega))
      | ((with_reducible refine Or.inr (Or.inr (Or.inl ⟨?_, ?_⟩))); focus (and_intros <;> first | rfl | omega))
      | ((with_reducible refine Or.inr (Or.inr (Or.inr ⟨?_, ?_⟩))); focus (and_intros <;> first | rfl | omega))
      | (with_reducible intro hc; (try simp only [capsP, and_true] at hc); (try (exfalso; omega)))
      | ((fail_if_success (with_reducible first | refine And.intro ?_ ?_ | refine Or.inl ?_ | intro _)); (conv => whnf); (fail_if_success (fail_if_success (with_reducible first | apply kL | apply kC | apply kF | apply kM | refine Exists.intro ?_ ?_ | refine Both.mk ?_ ?_ | refine And.intro ?_ ?_ | refine Or.inl ?_ | intro _))))))
  refine CallK.mk3 (σ := [.whole 5, .name 6]) (nl := []) (cpast w nd r.ex rel x.q) rfl rfl (List.append_nil _) (by (try simp only [↓List.length_cons, ↓List.length_nil, Nat.reduceAdd]); rfl) (by (try simp only [↓List.length_cons, ↓List.length_nil, Nat.reduceAdd]); rfl) (by (try simp (maxSteps := 1000000) only [givesF, setF, updF, Fam.zeroth, Fam.rk, Ck.rk, C.rk, E.rk, T.rk, key, List.map_cons, List.map_nil, List.cons_append, List.nil_append, List.length_cons, List.length_nil, Option.map_some, Option.bind_some, Nat.reduceAdd, Nat.zero_add, Nat.add_zero, Nat.add_sub_cancel_left, Int.toNat_natCast, reps, List.all_cons, List.all_nil, C.flat, List.append_eq, Bool.not_true, Bool.and_true, Bool.or_false, Bool.or_self, Bool.not_false, List.append_nil, Bool.and_self]); rfl) (by (repeat' (first | (refine And.intro ?_ ?_) | exact trivial | rfl | exact Nat.le_refl _ | exact (fun _ _ => rfl) | exact all_one (by rfl) | (simp only [Int.toNat_natCast, Nat.zero_add, Nat.add_zero]; done)))) ?_
  rintro v h' ⟨rfl, rfl⟩ hcaps
  refine ret_mk3 (by (try simp only [↓List.length_cons, ↓List.length_nil, Nat.reduceAdd]); rfl) (by (try simp (maxSteps := 1000000) only [givesF, setF, updF, Fam.zeroth, Fam.rk, Ck.rk, C.rk, E.rk, T.rk, key, List.map_cons, List.map_nil, List.cons_append, List.nil_append, List.length_cons, List.length_nil, Option.map_some, Option.bind_some, Nat.reduceAdd, Nat.zero_add, Nat.add_zero, Nat.add_sub_cancel_left, Int.toNat_natCast, reps, List.all_cons, List.all_nil, C.flat, List.append_eq, Bool.not_true, Bool.and_true, Bool.or_false, Bool.or_self, Bool.not_false, List.append_nil, Bool.and_self, encP]); rfl) (by (try simp only [givesF, setF, updF, Fam.zeroth, Fam.rk, Ck.rk, C.rk, E.rk, T.rk, key, List.map_cons, List.map_nil, List.cons_append, List.nil_append, List.length_cons, List.length_nil, Option.map_some, Option.bind_some, Nat.reduceAdd, Nat.zero_add, Nat.add_zero, Nat.add_sub_cancel_left, Int.toNat_natCast, reps, List.all_cons, List.all_nil, C.flat, List.append_eq, Bool.not_true, Bool.and_true, Bool.or_false, Bool.or_self, Bool.not_false, List.append_nil, Bool.and_self, encP]); rfl) ?_
  have hll : (r.ls ++ lapL w r.ex x.q).length ≤ 900000 := by
    have := lap_len w r.ex x.q
    simp only [List.length_append]; omega
  repeat' (first
    | ((fail_if_success (with_reducible first | apply kL | apply kC | apply kF | apply kM | refine Exists.intro ?_ ?_)); first
      | ((with_reducible refine And.intro (fun (hb : _ = true) => ?_) (fun (hb : _ = false) => ?_)) <;> (try simp only [n1, n2, n3, n4, n5, n6, n7, n8, n9, n10, n11, n12, n13, n14, n15, n16, reduceCtorEq, n17, n18, n19, n20, n21, n22] at hb) <;> (try (first | (exfalso; omega) | exact bff hb (by assumption) | exact bff (by assumption) hb)))
      | (with_reducible refine Both.mk ?_ ?_)
      | ((with_reducible refine And.intro ?_ ?_); (focus (first | rfl | omega | exact fun _ _ => rfl | assumption | (split <;> omega) | (and_intros <;> first | rfl | omega | (split <;> omega)) | (dsimp only [maxLen]; and_intros <;> omega) | (simp only [n21, n22, m9]; first | omega | (and_intros <;> omega)))))
      | ((with_reducible refine Or.inl ⟨?_, ?_, ?_⟩); (focus rfl); (focus (and_intros <;> first | rfl | omega)))
      | ((with_reducible refine Or.inr (Or.inl ⟨?_, ?_⟩)); focus (and_intros <;> first | rfl | omega))
      | ((with_reducible refine Or.inr (Or.inr (Or.inl ⟨?_, ?_⟩))); focus (and_intros <;> first | rfl | omega))
      | ((with_reducible refine Or.inr (Or.inr (Or.inr ⟨?_, ?_⟩))); focus (and_intros <;> first | rfl | omega))
      | (with_reducible intro hc; (try simp only [capsP, and_true] at hc); (try (exfalso; omega)))
      | ((fail_if_success (with_reducible first | refine And.intro ?_ ?_ | refine Or.inl ?_ | intro _)); (conv => whnf); (fail_if_success (fail_if_success (with_reducible first | apply kL | apply kC | apply kF | apply kM | refine Exists.intro ?_ ?_ | refine Both.mk ?_ ?_ | refine And.intro ?_ ?_ | refine Or.inl ?_ | intro _))))))
  · rw [if_pos hb] at hR
    subst hR
    refine FinK.mk ⟨[0, 1, 2, 3, 4, 5, 6, 7, 3, 4], _, _, ⟨rfl, c, cl, rfl⟩, ?_⟩
    (repeat' (first | (refine And.intro ?_ ?_) | exact trivial | rfl | exact Nat.le_refl _ | exact (fun _ _ => rfl) | exact all_one (by rfl) | (simp only [Int.toNat_natCast, Nat.zero_add, Nat.add_zero]; done)))
  · rename_i hb0
    rw [if_neg (by omega), if_pos hb] at hR
    refine CallK.mk3 (σ := [.whole 0, .name 1, .name 2, .whole 3, .whole 5, .name 6]) (nl := []) (clapse id q w nd r.ex rel r.ls cl x.q hex (by omega) (by omega)) rfl rfl (List.append_nil _) (by (try simp only [↓List.length_cons, ↓List.length_nil, Nat.reduceAdd]); rfl) (by (try simp only [↓List.length_cons, ↓List.length_nil, Nat.reduceAdd]); rfl) (by (try simp (maxSteps := 1000000) only [givesF, setF, updF, Fam.zeroth, Fam.rk, Ck.rk, C.rk, E.rk, T.rk, key, List.map_cons, List.map_nil, List.cons_append, List.nil_append, List.length_cons, List.length_nil, Option.map_some, Option.bind_some, Nat.reduceAdd, Nat.zero_add, Nat.add_zero, Nat.add_sub_cancel_left, Int.toNat_natCast, reps, List.all_cons, List.all_nil, C.flat, List.append_eq, Bool.not_true, Bool.and_true, Bool.or_false, Bool.or_self, Bool.not_false, List.append_nil, Bool.and_self]); rfl) (by (repeat' (first | (refine And.intro ?_ ?_) | exact trivial | rfl | exact Nat.le_refl _ | exact (fun _ _ => rfl) | exact all_one (by rfl) | (simp only [Int.toNat_natCast, Nat.zero_add, Nat.add_zero]; done)))) ?_
    rintro v h' ⟨rfl, c2, rfl⟩ hcaps
    refine ret_mk3 (by (try simp only [↓List.length_cons, ↓List.length_nil, Nat.reduceAdd]); rfl) (by (try simp (maxSteps := 1000000) only [givesF, setF, updF, Fam.zeroth, Fam.rk, Ck.rk, C.rk, E.rk, T.rk, key, List.map_cons, List.map_nil, List.cons_append, List.nil_append, List.length_cons, List.length_nil, Option.map_some, Option.bind_some, Nat.reduceAdd, Nat.zero_add, Nat.add_zero, Nat.add_sub_cancel_left, Int.toNat_natCast, reps, List.all_cons, List.all_nil, C.flat, List.append_eq, Bool.not_true, Bool.and_true, Bool.or_false, Bool.or_self, Bool.not_false, List.append_nil, Bool.and_self, encP]); rfl) (by (try simp only [givesF, setF, updF, Fam.zeroth, Fam.rk, Ck.rk, C.rk, E.rk, T.rk, key, List.map_cons, List.map_nil, List.cons_append, List.nil_append, List.length_cons, List.length_nil, Option.map_some, Option.bind_some, Nat.reduceAdd, Nat.zero_add, Nat.add_zero, Nat.add_sub_cancel_left, Int.toNat_natCast, reps, List.all_cons, List.all_nil, C.flat, List.append_eq, Bool.not_true, Bool.and_true, Bool.or_false, Bool.or_self, Bool.not_false, List.append_nil, Bool.and_self, encP]); rfl) ?_
    repeat' (first
      | ((fail_if_success (with_reducible first | apply kL | apply kC | apply kF | apply kM | refine Exists.intro ?_ ?_)); first
        | ((with_reducible refine And.intro (fun (hb : _ = true) => ?_) (fun (hb : _ = false) => ?_)) <;> (try simp only [n1, n2, n3, n4, n5, n6, n7, n8, n9, n10, n11, n12, n13, n14, n15, n16, reduceCtorEq, n17, n18, n19, n20, n21, n22] at hb) <;> (try (first | (exfalso; omega) | exact bff hb (by assumption) | exact bff (by assumption) hb)))
        | (with_reducible refine Both.mk ?_ ?_)
        | ((with_reducible refine And.intro ?_ ?_); (focus (first | rfl | omega | exact fun _ _ => rfl | assumption | (split <;> omega) | (and_intros <;> first | rfl | omega | (split <;> omega)) | (dsimp only [maxLen]; and_intros <;> omega) | (simp only [n21, n22, m9]; first | omega | (and_intros <;> omega)))))
        | ((with_reducible refine Or.inl ⟨?_, ?_, ?_⟩); (focus rfl); (focus (and_intros <;> first | rfl | omega)))
        | ((with_reducible refine Or.inr (Or.inl ⟨?_, ?_⟩)); focus (and_intros <;> first | rfl | omega))
        | ((with_reducible refine Or.inr (Or.inr (Or.inl ⟨?_, ?_⟩))); focus (and_intros <;> first | rfl | omega))
        | ((with_reducible refine Or.inr (Or.inr (Or.inr ⟨?_, ?_⟩))); focus (and_intros <;> first | rfl | omega))
        | (with_reducible intro hc; (try simp only [capsP, and_true] at hc); (try (exfalso; omega)))
        | ((fail_if_success (with_reducible first | refine And.intro ?_ ?_ | refine Or.inl ?_ | intro _)); (conv => whnf); (fail_if_success (fail_if_success (with_reducible first | apply kL | apply kC | apply kF | apply kM | refine Exists.intro ?_ ?_ | refine Both.mk ?_ ?_ | refine And.intro ?_ ?_ | refine Or.inl ?_ | intro _))))))
    refine CallK.mk3 (σ := [.whole 0, .whole 1, .name 2, .whole 10, .whole 4]) (nl := []) (cdeliver id q r.l c (r.ls ++ lapL w r.ex x.q) c2 (smpOf x) (by omega) hll) rfl rfl (List.append_nil _) (by (try simp only [↓List.length_cons, ↓List.length_nil, Nat.reduceAdd]); rfl) (by (try simp only [↓List.length_cons, ↓List.length_nil, Nat.reduceAdd]); rfl) (by (try simp (maxSteps := 1000000) only [givesF, setF, updF, Fam.zeroth, Fam.rk, Ck.rk, C.rk, E.rk, T.rk, key, List.map_cons, List.map_nil, List.cons_append, List.nil_append, List.length_cons, List.length_nil, Option.map_some, Option.bind_some, Nat.reduceAdd, Nat.zero_add, Nat.add_zero, Nat.add_sub_cancel_left, Int.toNat_natCast, reps, List.all_cons, List.all_nil, C.flat, List.append_eq, Bool.not_true, Bool.and_true, Bool.or_false, Bool.or_self, Bool.not_false, List.append_nil, Bool.and_self]); rfl) (by (repeat' (first | (refine And.intro ?_ ?_) | exact trivial | rfl | exact Nat.le_refl _ | exact (fun _ _ => rfl) | exact all_one (by rfl) | (simp only [Int.toNat_natCast, Nat.zero_add, Nat.add_zero]; done)))) ?_
    rintro v h' ⟨rfl, c3, c4, rfl⟩ hcaps
    refine ret_mk3 (by (try simp only [↓List.length_cons, ↓List.length_nil, Nat.reduceAdd]); rfl) (by (try simp (maxSteps := 1000000) only [givesF, setF, updF, Fam.zeroth, Fam.rk, Ck.rk, C.rk, E.rk, T.rk, key, List.map_cons, List.map_nil, List.cons_append, List.nil_append, List.length_cons, List.length_nil, Option.map_some, Option.bind_some, Nat.reduceAdd, Nat.zero_add, Nat.add_zero, Nat.add_sub_cancel_left, Int.toNat_natCast, reps, List.all_cons, List.all_nil, C.flat, List.append_eq, Bool.not_true, Bool.and_true, Bool.or_false, Bool.or_self, Bool.not_false, List.append_nil, Bool.and_self, encP, encS, smpOf]); rfl) (by (try simp only [givesF, setF, updF, Fam.zeroth, Fam.rk, Ck.rk, C.rk, E.rk, T.rk, key, List.map_cons, List.map_nil, List.cons_append, List.nil_append, List.length_cons, List.length_nil, Option.map_some, Option.bind_some, Nat.reduceAdd, Nat.zero_add, Nat.add_zero, Nat.add_sub_cancel_left, Int.toNat_natCast, reps, List.all_cons, List.all_nil, C.flat, List.append_eq, Bool.not_true, Bool.and_true, Bool.or_false, Bool.or_self, Bool.not_false, List.append_nil, Bool.and_self, encP, encS, smpOf]); rfl) ?_
    repeat' (first
      | ((fail_if_success (with_reducible first | apply kL | apply kC | apply kF | apply kM | refine Exists.intro ?_ ?_)); first
        | ((with_reducible refine And.intro (fun (hb : _ = true) => ?_) (fun (hb : _ = false) => ?_)) <;> (try simp only [n1, n2, n3, n4, n5, n6, n7, n8, n9, n10, n11, n12, n13, n14, n15, n16, reduceCtorEq, n17, n18, n19, n20, n21, n22] at hb) <;> (try (first | (exfalso; omega) | exact bff hb (by assumption) | exact bff (by assumption) hb)))
        | (with_reducible refine Both.mk ?_ ?_)
        | ((with_reducible refine And.intro ?_ ?_); (focus (first | rfl | omega | exact fun _ _ => rfl | assumption | (split <;> omega) | (and_intros <;> first | rfl | omega | (split <;> omega)) | (dsimp only [maxLen]; and_intros <;> omega) | (simp only [n21, n22, m9]; first | omega | (and_intros <;> omega)))))
        | ((with_reducible refine Or.inl ⟨?_, ?_, ?_⟩); (focus rfl); (focus (and_intros <;> first | rfl | omega)))
        | ((with_reducible refine Or.inr (Or.inl ⟨?_, ?_⟩)); focus (and_intros <;> first | rfl | omega))
        | ((with_reducible refine Or.inr (Or.inr (Or.inl ⟨?_, ?_⟩))); focus (and_intros <;> first | rfl | omega))
        | ((with_reducible refine Or.inr (Or.inr (Or.inr ⟨?_, ?_⟩))); focus (and_intros <;> first | rfl | omega))
        | (with_reducible intro hc; (try simp only [capsP, and_true] at hc); (try (exfalso; omega)))
        | ((fail_if_success (with_reducible first | refine And.intro ?_ ?_ | refine Or.inl ?_ | intro _)); (conv => whnf); (fail_if_success (fail_if_success (with_reducible first | apply kL | apply kC | apply kF | apply kM | refine Exists.intro ?_ ?_ | refine Both.mk ?_ ?_ | refine And.intro ?_ ?_ | refine Or.inl ?_ | intro _))))))
    refine CallK.mk3 (σ := [.whole 5, .name 6]) (nl := []) (cpass w nd r.ex rel (x.q + 1)) rfl rfl (List.append_nil _) (by (try simp only [↓List.length_cons, ↓List.length_nil, Nat.reduceAdd]); rfl) (by (try simp only [↓List.length_cons, ↓List.length_nil, Nat.reduceAdd]); rfl) (by (try simp (maxSteps := 1000000) only [givesF, setF, updF, Fam.zeroth, Fam.rk, Ck.rk, C.rk, E.rk, T.rk, key, List.map_cons, List.map_nil, List.cons_append, List.nil_append, List.length_cons, List.length_nil, Option.map_some, Option.bind_some, Nat.reduceAdd, Nat.zero_add, Nat.add_zero, Nat.add_sub_cancel_left, Int.toNat_natCast, reps, List.all_cons, List.all_nil, C.flat, List.append_eq, Bool.not_true, Bool.and_true, Bool.or_false, Bool.or_self, Bool.not_false, List.append_nil, Bool.and_self]); rfl) (by (repeat' (first | (refine And.intro ?_ ?_) | exact trivial | rfl | exact Nat.le_refl _ | exact (fun _ _ => rfl) | exact all_one (by rfl) | (simp only [Int.toNat_natCast, Nat.zero_add, Nat.add_zero]; done)))) ?_
    rintro v h' ⟨rfl, rfl⟩ hcaps
    refine ret_mk3 (by (try simp only [↓List.length_cons, ↓List.length_nil, Nat.reduceAdd]); rfl) (by (try simp (maxSteps := 1000000) only [givesF, setF, updF, Fam.zeroth, Fam.rk, Ck.rk, C.rk, E.rk, T.rk, key, List.map_cons, List.map_nil, List.cons_append, List.nil_append, List.length_cons, List.length_nil, Option.map_some, Option.bind_some, Nat.reduceAdd, Nat.zero_add, Nat.add_zero, Nat.add_sub_cancel_left, Int.toNat_natCast, reps, List.all_cons, List.all_nil, C.flat, List.append_eq, Bool.not_true, Bool.and_true, Bool.or_false, Bool.or_self, Bool.not_false, List.append_nil, Bool.and_self, encP]); rfl) (by (try simp only [givesF, setF, updF, Fam.zeroth, Fam.rk, Ck.rk, C.rk, E.rk, T.rk, key, List.map_cons, List.map_nil, List.cons_append, List.nil_append, List.length_cons, List.length_nil, Option.map_some, Option.bind_some, Nat.reduceAdd, Nat.zero_add, Nat.add_zero, Nat.add_sub_cancel_left, Int.toNat_natCast, reps, List.all_cons, List.all_nil, C.flat, List.append_eq, Bool.not_true, Bool.and_true, Bool.or_false, Bool.or_self, Bool.not_false, List.append_nil, Bool.and_self, encP]); rfl) ?_
    repeat' (first
      | ((fail_if_success (with_reducible first | apply kL | apply kC | apply kF | apply kM | refine Exists.intro ?_ ?_)); first
        | ((with_reducible refine And.intro (fun (hb : _ = true) => ?_) (fun (hb : _ = false) => ?_)) <;> (try simp only [n1, n2, n3, n4, n5, n6, n7, n8, n9, n10, n11, n12, n13, n14, n15, n16, reduceCtorEq, n17, n18, n19, n20, n21, n22] at hb) <;> (try (first | (exfalso; omega) | exact bff hb (by assumption) | exact bff (by assumption) hb)))
        | (with_reducible refine Both.mk ?_ ?_)
        | ((with_reducible refine And.intro ?_ ?_); (focus (first | rfl | omega | exact fun _ _ => rfl | assumption | (split <;> omega) | (and_intros <;> first | rfl | omega | (split <;> omega)) | (dsimp only [maxLen]; and_intros <;> omega) | (simp only [n21, n22, m9]; first | omega | (and_intros <;> omega)))))
        | ((with_reducible refine Or.inl ⟨?_, ?_, ?_⟩); (focus rfl); (focus (and_intros <;> first | rfl | omega)))
        | ((with_reducible refine Or.inr (Or.inl ⟨?_, ?_⟩)); focus (and_intros <;> first | rfl | omega))
        | ((with_reducible refine Or.inr (Or.inr (Or.inl ⟨?_, ?_⟩))); focus (and_intros <;> first | rfl | omega))
        | ((with_reducible refine Or.inr (Or.inr (Or.inr ⟨?_, ?_⟩))); focus (and_intros <;> first | rfl | omega))
        | (with_reducible intro hc; (try simp only [capsP, and_true] at hc); (try (exfalso; omega)))
        | ((fail_if_success (with_reducible first | refine And.intro ?_ ?_ | refine Or.inl ?_ | intro _)); (conv => whnf); (fail_if_success (fail_if_success (with_reducible first | apply kL | apply kC | apply kF | apply kM | refine Exists.intro ?_ ?_ | refine Both.mk ?_ ?_ | refine And.intro ?_ ?_ | refine Or.inl ?_ | intro _))))))
    subst hR
    refine FinK.mk ⟨[0, 1, 2, 3, 4, 5, 6, 7, 11, 12], _, _, ⟨rfl, c3, c4, rfl⟩, ?_⟩
    (repeat' (first | (refine And.intro ?_ ?_) | exact trivial | rfl | exact Nat.le_refl _ | exact (fun _ _ => rfl) | exact all_one (by rfl) | (simp only [Int.toNat_natCast, Nat.zero_add, Nat.add_zero]; done)))
  · rename_i hb0
    rw [if_neg (by omega), if_neg (by rw [hb]; simp)] at hR
    refine CallK.mk3 (σ := [.whole 5, .whole 6]) (nl := []) (copen w nd r.ex rel r.W r.ck x.q hex hx) rfl rfl (List.append_nil _) (by (try simp only [↓List.length_cons, ↓List.length_nil, Nat.reduceAdd]); rfl) (by (try simp only [↓List.length_cons, ↓List.length_nil, Nat.reduceAdd]); rfl) (by (try simp (maxSteps := 1000000) only [givesF, setF, updF, Fam.zeroth, Fam.rk, Ck.rk, C.rk, E.rk, T.rk, key, List.map_cons, List.map_nil, List.cons_append, List.nil_append, List.length_cons, List.length_nil, Option.map_some, Option.bind_some, Nat.reduceAdd, Nat.zero_add, Nat.add_zero, Nat.add_sub_cancel_left, Int.toNat_natCast, reps, List.all_cons, List.all_nil, C.flat, List.append_eq, Bool.not_true, Bool.and_true, Bool.or_false, Bool.or_self, Bool.not_false, List.append_nil, Bool.and_self]); rfl) (by (repeat' (first | (refine And.intro ?_ ?_) | exact trivial | rfl | exact Nat.le_refl _ | exact (fun _ _ => rfl) | exact all_one (by rfl) | (simp only [Int.toNat_natCast, Nat.zero_add, Nat.add_zero]; done)))) ?_
    rintro v h' ⟨rfl, rfl⟩ hcaps
    refine ret_mk3 (by (try simp only [↓List.length_cons, ↓List.length_nil, Nat.reduceAdd]); rfl) (by (try simp (maxSteps := 1000000) only [givesF, setF, updF, Fam.zeroth, Fam.rk, Ck.rk, C.rk, E.rk, T.rk, key, List.map_cons, List.map_nil, List.cons_append, List.nil_append, List.length_cons, List.length_nil, Option.map_some, Option.bind_some, Nat.reduceAdd, Nat.zero_add, Nat.add_zero, Nat.add_sub_cancel_left, Int.toNat_natCast, reps, List.all_cons, List.all_nil, C.flat, List.append_eq, Bool.not_true, Bool.and_true, Bool.or_false, Bool.or_self, Bool.not_false, List.append_nil, Bool.and_self, encP]); rfl) (by (try simp only [givesF, setF, updF, Fam.zeroth, Fam.rk, Ck.rk, C.rk, E.rk, T.rk, key, List.map_cons, List.map_nil, List.cons_append, List.nil_append, List.length_cons, List.length_nil, Option.map_some, Option.bind_some, Nat.reduceAdd, Nat.zero_add, Nat.add_zero, Nat.add_sub_cancel_left, Int.toNat_natCast, reps, List.all_cons, List.all_nil, C.flat, List.append_eq, Bool.not_true, Bool.and_true, Bool.or_false, Bool.or_self, Bool.not_false, List.append_nil, Bool.and_self, encP]); rfl) ?_
    repeat' (first
      | ((fail_if_success (with_reducible first | apply kL | apply kC | apply kF | apply kM | refine Exists.intro ?_ ?_)); first
        | ((with_reducible refine And.intro (fun (hb : _ = true) => ?_) (fun (hb : _ = false) => ?_)) <;> (try simp only [n1, n2, n3, n4, n5, n6, n7, n8, n9, n10, n11, n12, n13, n14, n15, n16, reduceCtorEq, n17, n18, n19, n20, n21, n22] at hb) <;> (try (first | (exfalso; omega) | exact bff hb (by assumption) | exact bff (by assumption) hb)))
        | (with_reducible refine Both.mk ?_ ?_)
        | ((with_reducible refine And.intro ?_ ?_); (focus (first | rfl | omega | exact fun _ _ => rfl | assumption | (split <;> omega) | (and_intros <;> first | rfl | omega | (split <;> omega)) | (dsimp only [maxLen]; and_intros <;> omega) | (simp only [n21, n22, m9]; first | omega | (and_intros <;> omega)))))
        | ((with_reducible refine Or.inl ⟨?_, ?_, ?_⟩); (focus rfl); (focus (and_intros <;> first | rfl | omega)))
        | ((with_reducible refine Or.inr (Or.inl ⟨?_, ?_⟩)); focus (and_intros <;> first | rfl | omega))
        | ((with_reducible refine Or.inr (Or.inr (Or.inl ⟨?_, ?_⟩))); focus (and_intros <;> first | rfl | omega))
        | ((with_reducible refine Or.inr (Or.inr (Or.inr ⟨?_, ?_⟩))); focus (and_intros <;> first | rfl | omega))
        | (with_reducible intro hc; (try simp only [capsP, and_true] at hc); (try (exfalso; omega)))
        | ((fail_if_success (with_reducible first | refine And.intro ?_ ?_ | refine Or.inl ?_ | intro _)); (conv => whnf); (fail_if_success (fail_if_success (with_reducible first | apply kL | apply kC | apply kF | apply kM | refine Exists.intro ?_ ?_ | refine Both.mk ?_ ?_ | refine And.intro ?_ ?_ | refine Or.inl ?_ | intro _))))))
    · rename_i i hi
      exact (hb.2.2 i hi (Key.i.inj hc)).elim
    · have hop := hb
      rw [if_pos (show openB r x.q from hop)] at hR
      refine CallK.mk3 (σ := [.whole 0, .whole 1, .name 2, .whole 3, .whole 4, .whole 5, .whole 6]) (nl := []) (cmove id q w nd rel (putW x.q ⟨1, smpOf x⟩ r) c cl (put_ok hW hop hx.2) hex (by simp [putW]; omega) (by simp [putW]; omega)) rfl rfl (List.append_nil _) (by (try simp only [↓List.length_cons, ↓List.length_nil, Nat.reduceAdd]); rfl) (by (try simp only [↓List.length_cons, ↓List.length_nil, Nat.reduceAdd]); rfl) (by (try simp (maxSteps := 1000000) only [givesF, setF, updF, Fam.zeroth, Fam.rk, Ck.rk, C.rk, E.rk, T.rk, key, List.map_cons, List.map_nil, List.cons_append, List.nil_append, List.length_cons, List.length_nil, Option.map_some, Option.bind_some, Nat.reduceAdd, Nat.zero_add, Nat.add_zero, Nat.add_sub_cancel_left, Int.toNat_natCast, reps, List.all_cons, List.all_nil, C.flat, List.append_eq, Bool.not_true, Bool.and_true, Bool.or_false, Bool.or_self, Bool.not_false, List.append_nil, Bool.and_self]); rfl) (by (repeat' (first | (refine And.intro ?_ ?_) | exact trivial | rfl | exact Nat.le_refl _ | exact (fun _ _ => rfl) | exact all_one (by rfl) | (simp only [Int.toNat_natCast, Nat.zero_add, Nat.add_zero]; done))) <;> first | (simp [putW]; done) | exact fun i _ => encW_put r.W r.ck x.q ⟨1, smpOf x⟩ i) ?_
      rintro v h' ⟨rfl, c2, cl2, rfl⟩ hcaps
      refine ret_mk3 (by (try simp only [↓List.length_cons, ↓List.length_nil, Nat.reduceAdd]); rfl) (by (try simp (maxSteps := 1000000) only [givesF, setF, updF, Fam.zeroth, Fam.rk, Ck.rk, C.rk, E.rk, T.rk, key, List.map_cons, List.map_nil, List.cons_append, List.nil_append, List.length_cons, List.length_nil, Option.map_some, Option.bind_some, Nat.reduceAdd, Nat.zero_add, Nat.add_zero, Nat.add_sub_cancel_left, Int.toNat_natCast, reps, List.all_cons, List.all_nil, C.flat, List.append_eq, Bool.not_true, Bool.and_true, Bool.or_false, Bool.or_self, Bool.not_false, List.append_nil, Bool.and_self, encP]); rfl) (by (try simp only [givesF, setF, updF, Fam.zeroth, Fam.rk, Ck.rk, C.rk, E.rk, T.rk, key, List.map_cons, List.map_nil, List.cons_append, List.nil_append, List.length_cons, List.length_nil, Option.map_some, Option.bind_some, Nat.reduceAdd, Nat.zero_add, Nat.add_zero, Nat.add_sub_cancel_left, Int.toNat_natCast, reps, List.all_cons, List.all_nil, C.flat, List.append_eq, Bool.not_true, Bool.and_true, Bool.or_false, Bool.or_self, Bool.not_false, List.append_nil, Bool.and_self, encP]); rfl) ?_
      repeat' (first
        | ((fail_if_success (with_reducible first | apply kL | apply kC | apply kF | apply kM | refine Exists.intro ?_ ?_)); first
          | ((with_reducible refine And.intro (fun (hb : _ = true) => ?_) (fun (hb : _ = false) => ?_)) <;> (try simp only [n1, n2, n3, n4, n5, n6, n7, n8, n9, n10, n11, n12, n13, n14, n15, n16, reduceCtorEq, n17, n18, n19, n20, n21, n22] at hb) <;> (try (first | (exfalso; omega) | exact bff hb (by assumption) | exact bff (by assumption) hb)))
          | (with_reducible refine Both.mk ?_ ?_)
          | ((with_reducible refine And.intro ?_ ?_); (focus (first | rfl | omega | exact fun _ _ => rfl | assumption | (split <;> omega) | (and_intros <;> first | rfl | omega | (split <;> omega)) | (dsimp only [maxLen]; and_intros <;> omega) | (simp only [n21, n22, m9]; first | omega | (and_intros <;> omega)))))
          | ((with_reducible refine Or.inl ⟨?_, ?_, ?_⟩); (focus rfl); (focus (and_intros <;> first | rfl | omega)))
          | ((with_reducible refine Or.inr (Or.inl ⟨?_, ?_⟩)); focus (and_intros <;> first | rfl | omega))
          | ((with_reducible refine Or.inr (Or.inr (Or.inl ⟨?_, ?_⟩))); focus (and_intros <;> first | rfl | omega))
          | ((with_reducible refine Or.inr (Or.inr (Or.inr ⟨?_, ?_⟩))); focus (and_intros <;> first | rfl | omega))
          | (with_reducible intro hc; (try simp only [capsP, and_true] at hc); (try (exfalso; omega)))
          | ((fail_if_success (with_reducible first | refine And.intro ?_ ?_ | refine Or.inl ?_ | intro _)); (conv => whnf); (fail_if_success (fail_if_success (with_reducible first | apply kL | apply kC | apply kF | apply kM | refine Exists.intro ?_ ?_ | refine Both.mk ?_ ?_ | refine And.intro ?_ ?_ | refine Or.inl ?_ | intro _))))))
      have e1 : (putW x.q ⟨1, smpOf x⟩ r).W.length = r.W.length + 1 := by simp [putW]
      rw [e1, hR]
      refine FinK.mk ⟨[0, 1, 2, 3, 4, 5, 6, 7, 10, 11], _, _, ⟨rfl, c2, cl2, rfl⟩, ?_⟩
      (repeat' (first | (refine And.intro ?_ ?_) | exact trivial | rfl | exact Nat.le_refl _ | exact (fun _ _ => rfl) | exact all_one (by rfl) | (simp only [Int.toNat_natCast, Nat.zero_add, Nat.add_zero]; done)))
    · rw [if_neg (show ¬ openB r x.q from hb)] at hR
      subst hR
      refine FinK.mk ⟨[0, 1, 2, 3, 4, 5, 6, 7, 3, 4], _, _, ⟨rfl, c, cl, rfl⟩, ?_⟩
      (repeat' (first | (refine And.intro ?_ ?_) | exact trivial | rfl | exact Nat.le_refl _ | exact (fun _ _ => rfl) | exact all_one (by rfl) | (simp only [Int.toNat_natCast, Nat.zero_add, Nat.add_zero]; done)))
end Go.Proofs.Ytgcofipbdidhmaa

namespace Go.Proofs.Ytgcofipbdidhmaa
open Go.X
set_option linter.unusedSimpArgs false
set_option linter.unusedVariables false

def zS : Smp := ⟨0, 0, 0, ⟨#[]⟩⟩
def stepW (st : Int) (n : Int) (r : Rs) : Rs := if openB r n then putW n ⟨st, zS⟩ r else r
def fillW (st : Int) (k : Nat) (n : Int) (r : Rs) : Rs := (List.range k).foldl (fun r (i : Nat) => stepW st (n + (i : Int)) r) r
theorem fill_succ (st : Int) (k : Nat) (n : Int) (r : Rs) : fillW st (k + 1) n r = stepW st (n + k) (fillW st k n r) := by
  unfold fillW
  rw [List.range_succ, List.foldl_append]
  rfl
def jumpF (n : Int) (r : Rs) : Rs := ⟨r.l, r.ls, n, wge n r.W, r.ck⟩
def mvA (q : Qos) (w : Int) (r : Rs) : Rs := mv q w r.W.length r
def gapF (q : Qos) (w : Int) (rel : Bool) (x : Pkt) (r : Rs) : Rs :=
  if x.la < x.f ∨ x.la < r.ex then r
  else if rel = false then (if x.f ≤ r.ex then ⟨r.l, if x.q = 1 then r.ls ++ lapL w r.ex (x.la + 1) else r.ls, x.la + 1, r.W, r.ck⟩ else r)
  else if x.q = 0 ∧ x.f ≤ r.ex then mvA q w (jumpF (x.la + 1) r)
  else mvA q w (fillW (if x.q = 1 then 3 else 2) (min x.la (r.ex + 255) - max x.f r.ex + 1).toNat (max x.f r.ex) r)

theorem jump_ok {r : Rs} {n : Int} (hW : WOk r.W r.ex) (h : r.ex ≤ n) : WOk (jumpF n r).W (jumpF n r).ex where
  nd := ge_nd n hW.nd
  rg := fun e he => by
    obtain ⟨h1, h2⟩ := List.mem_filter.1 he
    have := hW.rg e h1
    have := of_decide_eq_true h2
    show n ≤ e.2.1 ∧ e.2.1 < n + 256
    omega
  mx := fun e he => hW.mx e (List.mem_filter.1 he).1
theorem jump_len (n : Int) (r : Rs) : (jumpF n r).W.length ≤ r.W.length := List.length_filter_le _ _

structure FillOk (r r' : Rs) (k : Nat) : Prop where
  l : r'.l = r.l
  ls : r'.ls = r.ls
  ex : r'.ex = r.ex
  ok : WOk r'.W r'.ex
  len : r'.W.length ≤ r.W.length + k

theorem fill_ok {r : Rs} (hW : WOk r.W r.ex) (st n : Int) : ∀ k : Nat, n + k ≤ 1099511627777 → FillOk r (fillW st k n r) k
  | 0, _ => ⟨rfl, rfl, rfl, hW, Nat.le_refl _⟩
  | k + 1, h => by
    have ih := fill_ok hW st n k (by omega)
    rw [fill_succ]
    unfold stepW
    split
    · rename_i ho
      have := put_ok ih.ok ho (s := ⟨st, zS⟩) (by omega)
      refine ⟨ih.l, ih.ls, ih.ex, this, ?_⟩
      have := ih.len
      simp only [putW, List.length_append, List.length_singleton]
      omega
    · exact ⟨ih.l, ih.ls, ih.ex, ih.ok, by have := ih.len; omega⟩

set_option maxRecDepth 10000 in
set_option maxHeartbeats 4000000 in
theorem cgap (id : Int) (q : Qos) (w nd : Int) (rel : Bool) (r : Rs) (c cl n cm : Nat) (x : Pkt) (hW : WOk r.W r.ex) (hex : 1 ≤ r.ex ∧ r.ex ≤ 1099511627777) (hl : r.l.length + r.W.length ≤ 800000) (hls : r.ls.length + 2 * r.W.length ≤ 700000) (hx : checkP x = 0) (hk : x.k = 4) (xm : Nat := 0) :
    Ctr Try.prog 34 [.c (.p 0 0 0), .c (.p 5 0 0), .a (encP (.sl 7 xm 1 0 n cm) x)] [.one (rdr 1 2 3 id q r.ls.length cl), .one (hist 4 q r.l.length c), .one .no, .one (lss true r.ls cl), .one (smps true r.l c), .one (mtcf 6 w nd r.ex rel), .one (wnd r.W r.ck), .one .no]
      fun v h => v = .t [] ∧ ∃ c' cl', h = [.one (rdr 1 2 8 id q (gapF q w rel x r).ls.length cl'), .one (hist 9 q (gapF q w rel x r).l.length c'), .one .no, .one .no, .one .no, .one (mtcf 6 w nd (gapF q w rel x r).ex rel), .one (wnd (gapF q w rel x r).W (gapF q w rel x r).ck), .one .no,
        .one (lss true (gapF q w rel x r).ls cl'), .one (smps true (gapF q w rel x r).l c')] := by
  have hx : (x.q = 0 ∨ x.q = 1) ∧ (1 ≤ x.f ∧ x.f ≤ 1099511627776) ∧ x.f - 1 ≤ x.la ∧ x.la ≤ 1099511627776 := by
    unfold checkP okN at hx
    rw [if_neg (by omega), if_pos hk] at hx
    split at hx
    · assumption
    · omega
  refine Ctr.mk' tbv mixed Try.func34 rfl rfl rfl (fun _ _ => by kernel_rfl) (by kernel_rfl) (by rfl) (by rfl) (by (repeat' (first | (refine And.intro ?_ ?_) | exact trivial | rfl | exact Nat.le_refl _ | exact (fun _ _ => rfl) | exact all_one (by rfl) | (simp only [Int.toNat_natCast, Nat.zero_add, Nat.add_zero]; done)))) ?_
  generalize hR : gapF q w rel x r = R
  unfold gapF at hR
  repeat' (first
    | ((fail_if_success (with_reducible first | apply kL | apply kC | apply kF | apply kM | refine Exists.intro ?_ ?_)); first
      | ((with_reducible refine And.intro (fun (hb : _ = true) => ?_) (fun (hb : _ = false) => ?_)) <;> (try simp only [n1, n2, n3, n4, n5, n6, n7, n8, n9, n10, n11, n12, n13, n14, n15, n16, reduceCtorEq, n17, n18, n19, n20, n21, n22] at hb) <;> (try (first | (exfalso; omega) | exact bff hb (by assumption) | exact bff (by assumption) hb)))
      | (with_reducible refine Both.mk ?_ ?_)
      | ((with_reducible refine And.intro ?_ ?_); (focus (first | rfl | omega | exact fun _ _ => rfl | assumption | (split <;> omega) | (and_intros <;> first | rfl | omega | (split <;> omega)) | (dsimp only [maxLen]; and_intros <;> omega) | (simp only [n21, n22, m9]; first | omega | (and_intros <;> omega)))))
      | ((with_reducible refine Or.inl ⟨?_, ?_, ?_⟩); (focus rfl); (focus (and_intros <;> first | rfl | omega)))
      | ((with_reducible refine Or.inr (Or.inl ⟨?_, ?_⟩)); focus (and_intros <;> first | rfl | omega))
      | ((with_reducible refine Or.inr (Or.inr (Or.inl ⟨?_, ?_⟩))); focus (and_intros <;> first | rfl | omega))
      | ((with_reducible refine Or.inr (Or.inr (Or.inr ⟨?_, ?_⟩))); focus (and_intros <;> first | rfl | omega))
      | (with_reducible intro hc; (try simp only [capsP, and_true] at hc); (try (exfalso; omega)))
      | ((fail_if_success (with_reducible first | refine And.intro ?_ ?_ | refine Or.inl ?_ | intro _)); (conv => whnf); (fail_if_success (fail_if_success (with_reducible first | apply kL | apply kC | apply kF | apply kM | refine Exists.intro ?_ ?_ | refine Both.mk ?_ ?_ | refine And.intro ?_ ?_ | refine Or.inl ?_ | intro _))))))
  · rw [if_pos (by omega)] at hR
    subst hR
    refine FinK.mk ⟨[0, 1, 2, 3, 4, 5, 6, 7, 3, 4], _, _, ⟨rfl, c, cl, rfl⟩, ?_⟩
    (repeat' (first | (refine And.intro ?_ ?_) | exact trivial | rfl | exact Nat.le_refl _ | exact (fun _ _ => rfl) | exact all_one (by rfl) | (simp only [Int.toNat_natCast, Nat.zero_add, Nat.add_zero]; done)))
  refine CallK.mk3 (σ := [.whole 5, .name 6]) (nl := []) (cpast w nd r.ex rel x.la) rfl rfl (List.append_nil _) (by (try simp only [↓List.length_cons, ↓List.length_nil, Nat.reduceAdd]); rfl) (by (try simp only [↓List.length_cons, ↓List.length_nil, Nat.reduceAdd]); rfl) (by (try simp (maxSteps := 1000000) only [givesF, setF, updF, Fam.zeroth, Fam.rk, Ck.rk, C.rk, E.rk, T.rk, key, List.map_cons, List.map_nil, List.cons_append, List.nil_append, List.length_cons, List.length_nil, Option.map_some, Option.bind_some, Nat.reduceAdd, Nat.zero_add, Nat.add_zero, Nat.add_sub_cancel_left, Int.toNat_natCast, reps, List.all_cons, List.all_nil, C.flat, List.append_eq, Bool.not_true, Bool.and_true, Bool.or_false, Bool.or_self, Bool.not_false, List.append_nil, Bool.and_self]); rfl) (by (repeat' (first | (refine And.intro ?_ ?_) | exact trivial | rfl | exact Nat.le_refl _ | exact (fun _ _ => rfl) | exact all_one (by rfl) | (simp only [Int.toNat_natCast, Nat.zero_add, Nat.add_zero]; done)))) ?_
  rintro v h' ⟨rfl, rfl⟩ hcaps
  refine ret_mk3 (by (try simp only [↓List.length_cons, ↓List.length_nil, Nat.reduceAdd]); rfl) (by (try simp (maxSteps := 1000000) only [givesF, setF, updF, Fam.zeroth, Fam.rk, Ck.rk, C.rk, E.rk, T.rk, key, List.map_cons, List.map_nil, List.cons_append, List.nil_append, List.length_cons, List.length_nil, Option.map_some, Option.bind_some, Nat.reduceAdd, Nat.zero_add, Nat.add_zero, Nat.add_sub_cancel_left, Int.toNat_natCast, reps, List.all_cons, List.all_nil, C.flat, List.append_eq, Bool.not_true, Bool.and_true, Bool.or_false, Bool.or_self, Bool.not_false, List.append_nil, Bool.and_self, encP]); rfl) (by (try simp only [givesF, setF, updF, Fam.zeroth, Fam.rk, Ck.rk, C.rk, E.rk, T.rk, key, List.map_cons, List.map_nil, List.cons_append, List.nil_append, List.length_cons, List.length_nil, Option.map_some, Option.bind_some, Nat.reduceAdd, Nat.zero_add, Nat.add_zero, Nat.add_sub_cancel_left, Int.toNat_natCast, reps, List.all_cons, List.all_nil, C.flat, List.append_eq, Bool.not_true, Bool.and_true, Bool.or_false, Bool.or_self, Bool.not_false, List.append_nil, Bool.and_self, encP]); rfl) ?_
  repeat' (first
    | ((fail_if_success (with_reducible first | apply kL | apply kC | apply kF | apply kM | refine Exists.intro ?_ ?_)); first
      | ((with_reducible refine And.intro (fun (hb : _ = true) => ?_) (fun (hb : _ = false) => ?_)) <;> (try simp only [n1, n2, n3, n4, n5, n6, n7, n8, n9, n10, n11, n12, n13, n14, n15, n16, reduceCtorEq, n17, n18, n19, n20, n21, n22] at hb) <;> (try (first | (exfalso; omega) | exact bff hb (by assumption) | exact bff (by assumption) hb)))
      | (with_reducible refine Both.mk ?_ ?_)
      | ((with_reducible refine And.intro ?_ ?_); (focus (first | rfl | omega | exact fun _ _ => rfl | assumption | (split <;> omega) | (and_intros <;> first | rfl | omega | (split <;> omega)) | (dsimp only [maxLen]; and_intros <;> omega) | (simp only [n21, n22, m9]; first | omega | (and_intros <;> omega)))))
      | ((with_reducible refine Or.inl ⟨?_, ?_, ?_⟩); (focus rfl); (focus (and_intros <;> first | rfl | omega)))
      | ((with_reducible refine Or.inr (Or.inl ⟨?_, ?_⟩)); focus (and_intros <;> first | rfl | omega))
      | ((with_reducible refine Or.inr (Or.inr (Or.inl ⟨?_, ?_⟩))); focus (and_intros <;> first | rfl | omega))
      | ((with_reducible refine Or.inr (Or.inr (Or.inr ⟨?_, ?_⟩))); focus (and_intros <;> first | rfl | omega))
      | (with_reducible intro hc; (try simp only [capsP, and_true] at hc); (try (exfalso; omega)))
      | ((fail_if_success (with_reducible first | refine And.intro ?_ ?_ | refine Or.inl ?_ | intro _)); (conv => whnf); (fail_if_success (fail_if_success (with_reducible first | apply kL | apply kC | apply kF | apply kM | refine Exists.intro ?_ ?_ | refine Both.mk ?_ ?_ | refine And.intro ?_ ?_ | refine Or.inl ?_ | intro _))))))
  · rw [if_pos (by omega)] at hR
    subst hR
    refine FinK.mk ⟨[0, 1, 2, 3, 4, 5, 6, 7, 3, 4], _, _, ⟨rfl, c, cl, rfl⟩, ?_⟩
    (repeat' (first | (refine And.intro ?_ ?_) | exact trivial | rfl | exact Nat.le_refl _ | exact (fun _ _ => rfl) | exact all_one (by rfl) | (simp only [Int.toNat_natCast, Nat.zero_add, Nat.add_zero]; done)))
  · rw [if_neg (by omega), if_pos hb] at hR
    refine CallK.mk3 (σ := [.whole 5, .name 6]) (nl := []) (cpast w nd r.ex rel x.f) rfl rfl (List.append_nil _) (by (try simp only [↓List.length_cons, ↓List.length_nil, Nat.reduceAdd]); rfl) (by (try simp only [↓List.length_cons, ↓List.length_nil, Nat.reduceAdd]); rfl) (by (try simp (maxSteps := 1000000) only [givesF, setF, updF, Fam.zeroth, Fam.rk, Ck.rk, C.rk, E.rk, T.rk, key, List.map_cons, List.map_nil, List.cons_append, List.nil_append, List.length_cons, List.length_nil, Option.map_some, Option.bind_some, Nat.reduceAdd, Nat.zero_add, Nat.add_zero, Nat.add_sub_cancel_left, Int.toNat_natCast, reps, List.all_cons, List.all_nil, C.flat, List.append_eq, Bool.not_true, Bool.and_true, Bool.or_false, Bool.or_self, Bool.not_false, List.append_nil, Bool.and_self]); rfl) (by (repeat' (first | (refine And.intro ?_ ?_) | exact trivial | rfl | exact Nat.le_refl _ | exact (fun _ _ => rfl) | exact all_one (by rfl) | (simp only [Int.toNat_natCast, Nat.zero_add, Nat.add_zero]; done)))) ?_
    rintro v h' ⟨rfl, rfl⟩ hcaps
    refine ret_mk3 (by (try simp only [↓List.length_cons, ↓List.length_nil, Nat.reduceAdd]); rfl) (by (try simp (maxSteps := 1000000) only [givesF, setF, updF, Fam.zeroth, Fam.rk, Ck.rk, C.rk, E.rk, T.rk, key, List.map_cons, List.map_nil, List.cons_append, List.nil_append, List.length_cons, List.length_nil, Option.map_some, Option.bind_some, Nat.reduceAdd, Nat.zero_add, Nat.add_zero, Nat.add_sub_cancel_left, Int.toNat_natCast, reps, List.all_cons, List.all_nil, C.flat, List.append_eq, Bool.not_true, Bool.and_true, Bool.or_false, Bool.or_self, Bool.not_false, List.append_nil, Bool.and_self, encP]); rfl) (by (try simp only [givesF, setF, updF, Fam.zeroth, Fam.rk, Ck.rk, C.rk, E.rk, T.rk, key, List.map_cons, List.map_nil, List.cons_append, List.nil_append, List.length_cons, List.length_nil, Option.map_some, Option.bind_some, Nat.reduceAdd, Nat.zero_add, Nat.add_zero, Nat.add_sub_cancel_left, Int.toNat_natCast, reps, List.all_cons, List.all_nil, C.flat, List.append_eq, Bool.not_true, Bool.and_true, Bool.or_false, Bool.or_self, Bool.not_false, List.append_nil, Bool.and_self, encP]); rfl) ?_
    repeat' (first
      | ((fail_if_success (with_reducible first | apply kL | apply kC | apply kF | apply kM | refine Exists.intro ?_ ?_)); first
        | ((with_reducible refine And.intro (fun (hb : _ = true) => ?_) (fun (hb : _ = false) => ?_)) <;> (try simp only [n1, n2, n3, n4, n5, n6, n7, n8, n9, n10, n11, n12, n13, n14, n15, n16, reduceCtorEq, n17, n18, n19, n20, n21, n22] at hb) <;> (try (first | (exfalso; omega) | exact bff hb (by assumption) | exact bff (by assumption) hb)))
        | (with_reducible refine Both.mk ?_ ?_)
        | ((with_reducible refine And.intro ?_ ?_); (focus (first | rfl | omega | exact fun _ _ => rfl | assumption | (split <;> omega) | (and_intros <;> first | rfl | omega | (split <;> omega)) | (dsimp only [maxLen]; and_intros <;> omega) | (simp only [n21, n22, m9]; first | omega | (and_intros <;> omega)))))
        | ((with_reducible refine Or.inl ⟨?_, ?_, ?_⟩); (focus rfl); (focus (and_intros <;> first | rfl | omega)))
        | ((with_reducible refine Or.inr (Or.inl ⟨?_, ?_⟩)); focus (and_intros <;> first | rfl | omega))
        | ((with_reducible refine Or.inr (Or.inr (Or.inl ⟨?_, ?_⟩))); focus (and_intros <;> first | rfl | omega))
        | ((with_reducible refine Or.inr (Or.inr (Or.inr ⟨?_, ?_⟩))); focus (and_intros <;> first | rfl | omega))
        | (with_reducible intro hc; (try simp only [capsP, and_true] at hc); (try (exfalso; omega)))
        | ((fail_if_success (with_reducible first | refine And.intro ?_ ?_ | refine Or.inl ?_ | intro _)); (conv => whnf); (fail_if_success (fail_if_success (with_reducible first | apply kL | apply kC | apply kF | apply kM | refine Exists.intro ?_ ?_ | refine Both.mk ?_ ?_ | refine And.intro ?_ ?_ | refine Or.inl ?_ | intro _))))))
    · rw [if_pos (by omega), if_pos hb] at hR
      refine CallK.mk3 (σ := [.whole 0, .name 1, .name 2, .whole 3, .whole 5, .name 6]) (nl := []) (clapse id q w nd r.ex rel r.ls cl (x.la + 1) hex (by omega) (by omega)) rfl rfl (List.append_nil _) (by (try simp only [↓List.length_cons, ↓List.length_nil, Nat.reduceAdd]); rfl) (by (try simp only [↓List.length_cons, ↓List.length_nil, Nat.reduceAdd]); rfl) (by (try simp (maxSteps := 1000000) only [givesF, setF, updF, Fam.zeroth, Fam.rk, Ck.rk, C.rk, E.rk, T.rk, key, List.map_cons, List.map_nil, List.cons_append, List.nil_append, List.length_cons, List.length_nil, Option.map_some, Option.bind_some, Nat.reduceAdd, Nat.zero_add, Nat.add_zero, Nat.add_sub_cancel_left, Int.toNat_natCast, reps, List.all_cons, List.all_nil, C.flat, List.append_eq, Bool.not_true, Bool.and_true, Bool.or_false, Bool.or_self, Bool.not_false, List.append_nil, Bool.and_self]); rfl) (by (repeat' (first | (refine And.intro ?_ ?_) | exact trivial | rfl | exact Nat.le_refl _ | exact (fun _ _ => rfl) | exact all_one (by rfl) | (simp only [Int.toNat_natCast, Nat.zero_add, Nat.add_zero]; done)))) ?_
      rintro v h' ⟨rfl, c2, rfl⟩ hcaps
      refine ret_mk3 (by (try simp only [↓List.length_cons, ↓List.length_nil, Nat.reduceAdd]); rfl) (by (try simp (maxSteps := 1000000) only [givesF, setF, updF, Fam.zeroth, Fam.rk, Ck.rk, C.rk, E.rk, T.rk, key, List.map_cons, List.map_nil, List.cons_append, List.nil_append, List.length_cons, List.length_nil, Option.map_some, Option.bind_some, Nat.reduceAdd, Nat.zero_add, Nat.add_zero, Nat.add_sub_cancel_left, Int.toNat_natCast, reps, List.all_cons, List.all_nil, C.flat, List.append_eq, Bool.not_true, Bool.and_true, Bool.or_false, Bool.or_self, Bool.not_false, List.append_nil, Bool.and_self, encP]); rfl) (by (try simp only [givesF, setF, updF, Fam.zeroth, Fam.rk, Ck.rk, C.rk, E.rk, T.rk, key, List.map_cons, List.map_nil, List.cons_append, List.nil_append, List.length_cons, List.length_nil, Option.map_some, Option.bind_some, Nat.reduceAdd, Nat.zero_add, Nat.add_zero, Nat.add_sub_cancel_left, Int.toNat_natCast, reps, List.all_cons, List.all_nil, C.flat, List.append_eq, Bool.not_true, Bool.and_true, Bool.or_false, Bool.or_self, Bool.not_false, List.append_nil, Bool.and_self, encP]); rfl) ?_
      repeat' (first
        | ((fail_if_success (with_reducible first | apply kL | apply kC | apply kF | apply kM | refine Exists.intro ?_ ?_)); first
          | ((with_reducible refine And.intro (fun (hb : _ = true) => ?_) (fun (hb : _ = false) => ?_)) <;> (try simp only [n1, n2, n3, n4, n5, n6, n7, n8, n9, n10, n11, n12, n13, n14, n15, n16, reduceCtorEq, n17, n18, n19, n20, n21, n22] at hb) <;> (try (first | (exfalso; omega) | exact bff hb (by assumption) | exact bff (by assumption) hb)))
          | (with_reducible refine Both.mk ?_ ?_)
          | ((with_reducible refine And.intro ?_ ?_); (focus (first | rfl | omega | exact fun _ _ => rfl | assumption | (split <;> omega) | (and_intros <;> first | rfl | omega | (split <;> omega)) | (dsimp only [maxLen]; and_intros <;> omega) | (simp only [n21, n22, m9]; first | omega | (and_intros <;> omega)))))
          | ((with_reducible refine Or.inl ⟨?_, ?_, ?_⟩); (focus rfl); (focus (and_intros <;> first | rfl | omega)))
          | ((with_reducible refine Or.inr (Or.inl ⟨?_, ?_⟩)); focus (and_intros <;> first | rfl | omega))
          | ((with_reducible refine Or.inr (Or.inr (Or.inl ⟨?_, ?_⟩))); focus (and_intros <;> first | rfl | omega))
          | ((with_reducible refine Or.inr (Or.inr (Or.inr ⟨?_, ?_⟩))); focus (and_intros <;> first | rfl | omega))
          | (with_reducible intro hc; (try simp only [capsP, and_true] at hc); (try (exfalso; omega)))
          | ((fail_if_success (with_reducible first | refine And.intro ?_ ?_ | refine Or.inl ?_ | intro _)); (conv => whnf); (fail_if_success (fail_if_success (with_reducible first | apply kL | apply kC | apply kF | apply kM | refine Exists.intro ?_ ?_ | refine Both.mk ?_ ?_ | refine And.intro ?_ ?_ | refine Or.inl ?_ | intro _))))))
      refine CallK.mk3 (σ := [.whole 5, .name 6]) (nl := []) (cpass w nd r.ex rel (x.la + 1)) rfl rfl (List.append_nil _) (by (try simp only [↓List.length_cons, ↓List.length_nil, Nat.reduceAdd]); rfl) (by (try simp only [↓List.length_cons, ↓List.length_nil, Nat.reduceAdd]); rfl) (by (try simp (maxSteps := 1000000) only [givesF, setF, updF, Fam.zeroth, Fam.rk, Ck.rk, C.rk, E.rk, T.rk, key, List.map_cons, List.map_nil, List.cons_append, List.nil_append, List.length_cons, List.length_nil, Option.map_some, Option.bind_some, Nat.reduceAdd, Nat.zero_add, Nat.add_zero, Nat.add_sub_cancel_left, Int.toNat_natCast, reps, List.all_cons, List.all_nil, C.flat, List.append_eq, Bool.not_true, Bool.and_true, Bool.or_false, Bool.or_self, Bool.not_false, List.append_nil, Bool.and_self]); rfl) (by (repeat' (first | (refine And.intro ?_ ?_) | exact trivial | rfl | exact Nat.le_refl _ | exact (fun _ _ => rfl) | exact all_one (by rfl) | (simp only [Int.toNat_natCast, Nat.zero_add, Nat.add_zero]; done)))) ?_
      rintro v h' ⟨rfl, rfl⟩ hcaps
      refine ret_mk3 (by (try simp only [↓List.length_cons, ↓List.length_nil, Nat.reduceAdd]); rfl) (by (try simp (maxSteps := 1000000) only [givesF, setF, updF, Fam.zeroth, Fam.rk, Ck.rk, C.rk, E.rk, T.rk, key, List.map_cons, List.map_nil, List.cons_append, List.nil_append, List.length_cons, List.length_nil, Option.map_some, Option.bind_some, Nat.reduceAdd, Nat.zero_add, Nat.add_zero, Nat.add_sub_cancel_left, Int.toNat_natCast, reps, List.all_cons, List.all_nil, C.flat, List.append_eq, Bool.not_true, Bool.and_true, Bool.or_false, Bool.or_self, Bool.not_false, List.append_nil, Bool.and_self, encP]); rfl) (by (try simp only [givesF, setF, updF, Fam.zeroth, Fam.rk, Ck.rk, C.rk, E.rk, T.rk, key, List.map_cons, List.map_nil, List.cons_append, List.nil_append, List.length_cons, List.length_nil, Option.map_some, Option.bind_some, Nat.reduceAdd, Nat.zero_add, Nat.add_zero, Nat.add_sub_cancel_left, Int.toNat_natCast, reps, List.all_cons, List.all_nil, C.flat, List.append_eq, Bool.not_true, Bool.and_true, Bool.or_false, Bool.or_self, Bool.not_false, List.append_nil, Bool.and_self, encP]); rfl) ?_
      repeat' (first
        | ((fail_if_success (with_reducible first | apply kL | apply kC | apply kF | apply kM | refine Exists.intro ?_ ?_)); first
          | ((with_reducible refine And.intro (fun (hb : _ = true) => ?_) (fun (hb : _ = false) => ?_)) <;> (try simp only [n1, n2, n3, n4, n5, n6, n7, n8, n9, n10, n11, n12, n13, n14, n15, n16, reduceCtorEq, n17, n18, n19, n20, n21, n22] at hb) <;> (try (first | (exfalso; omega) | exact bff hb (by assumption) | exact bff (by assumption) hb)))
          | (with_reducible refine Both.mk ?_ ?_)
          | ((with_reducible refine And.intro ?_ ?_); (focus (first | rfl | omega | exact fun _ _ => rfl | assumption | (split <;> omega) | (and_intros <;> first | rfl | omega | (split <;> omega)) | (dsimp only [maxLen]; and_intros <;> omega) | (simp only [n21, n22, m9]; first | omega | (and_intros <;> omega)))))
          | ((with_reducible refine Or.inl ⟨?_, ?_, ?_⟩); (focus rfl); (focus (and_intros <;> first | rfl | omega)))
          | ((with_reducible refine Or.inr (Or.inl ⟨?_, ?_⟩)); focus (and_intros <;> first | rfl | omega))
          | ((with_reducible refine Or.inr (Or.inr (Or.inl ⟨?_, ?_⟩))); focus (and_intros <;> first | rfl | omega))
          | ((with_reducible refine Or.inr (Or.inr (Or.inr ⟨?_, ?_⟩))); focus (and_intros <;> first | rfl | omega))
          | (with_reducible intro hc; (try simp only [capsP, and_true] at hc); (try (exfalso; omega)))
          | ((fail_if_success (with_reducible first | refine And.intro ?_ ?_ | refine Or.inl ?_ | intro _)); (conv => whnf); (fail_if_success (fail_if_success (with_reducible first | apply kL | apply kC | apply kF | apply kM | refine Exists.intro ?_ ?_ | refine Both.mk ?_ ?_ | refine And.intro ?_ ?_ | refine Or.inl ?_ | intro _))))))
      subst hR
      refine FinK.mk ⟨[0, 1, 2, 3, 4, 5, 6, 7, 9, 4], _, _, ⟨rfl, c, c2, rfl⟩, ?_⟩
      (repeat' (first | (refine And.intro ?_ ?_) | exact trivial | rfl | exact Nat.le_refl _ | exact (fun _ _ => rfl) | exact all_one (by rfl) | (simp only [Int.toNat_natCast, Nat.zero_add, Nat.add_zero]; done)))
    · rw [if_pos (by omega), if_neg hb] at hR
      refine CallK.mk3 (σ := [.whole 5, .name 6]) (nl := []) (cpass w nd r.ex rel (x.la + 1)) rfl rfl (List.append_nil _) (by (try simp only [↓List.length_cons, ↓List.length_nil, Nat.reduceAdd]); rfl) (by (try simp only [↓List.length_cons, ↓List.length_nil, Nat.reduceAdd]); rfl) (by (try simp (maxSteps := 1000000) only [givesF, setF, updF, Fam.zeroth, Fam.rk, Ck.rk, C.rk, E.rk, T.rk, key, List.map_cons, List.map_nil, List.cons_append, List.nil_append, List.length_cons, List.length_nil, Option.map_some, Option.bind_some, Nat.reduceAdd, Nat.zero_add, Nat.add_zero, Nat.add_sub_cancel_left, Int.toNat_natCast, reps, List.all_cons, List.all_nil, C.flat, List.append_eq, Bool.not_true, Bool.and_true, Bool.or_false, Bool.or_self, Bool.not_false, List.append_nil, Bool.and_self]); rfl) (by (repeat' (first | (refine And.intro ?_ ?_) | exact trivial | rfl | exact Nat.le_refl _ | exact (fun _ _ => rfl) | exact all_one (by rfl) | (simp only [Int.toNat_natCast, Nat.zero_add, Nat.add_zero]; done)))) ?_
      rintro v h' ⟨rfl, rfl⟩ hcaps
      refine ret_mk3 (by (try simp only [↓List.length_cons, ↓List.length_nil, Nat.reduceAdd]); rfl) (by (try simp (maxSteps := 1000000) only [givesF, setF, updF, Fam.zeroth, Fam.rk, Ck.rk, C.rk, E.rk, T.rk, key, List.map_cons, List.map_nil, List.cons_append, List.nil_append, List.length_cons, List.length_nil, Option.map_some, Option.bind_some, Nat.reduceAdd, Nat.zero_add, Nat.add_zero, Nat.add_sub_cancel_left, Int.toNat_natCast, reps, List.all_cons, List.all_nil, C.flat, List.append_eq, Bool.not_true, Bool.and_true, Bool.or_false, Bool.or_self, Bool.not_false, List.append_nil, Bool.and_self, encP]); rfl) (by (try simp only [givesF, setF, updF, Fam.zeroth, Fam.rk, Ck.rk, C.rk, E.rk, T.rk, key, List.map_cons, List.map_nil, List.cons_append, List.nil_append, List.length_cons, List.length_nil, Option.map_some, Option.bind_some, Nat.reduceAdd, Nat.zero_add, Nat.add_zero, Nat.add_sub_cancel_left, Int.toNat_natCast, reps, List.all_cons, List.all_nil, C.flat, List.append_eq, Bool.not_true, Bool.and_true, Bool.or_false, Bool.or_self, Bool.not_false, List.append_nil, Bool.and_self, encP]); rfl) ?_
      repeat' (first
        | ((fail_if_success (with_reducible first | apply kL | apply kC | apply kF | apply kM | refine Exists.intro ?_ ?_)); first
          | ((with_reducible refine And.intro (fun (hb : _ = true) => ?_) (fun (hb : _ = false) => ?_)) <;> (try simp only [n1, n2, n3, n4, n5, n6, n7, n8, n9, n10, n11, n12, n13, n14, n15, n16, reduceCtorEq, n17, n18, n19, n20, n21, n22] at hb) <;> (try (first | (exfalso; omega) | exact bff hb (by assumption) | exact bff (by assumption) hb)))
          | (with_reducible refine Both.mk ?_ ?_)
          | ((with_reducible refine And.intro ?_ ?_); (focus (first | rfl | omega | exact fun _ _ => rfl | assumption | (split <;> omega) | (and_intros <;> first | rfl | omega | (split <;> omega)) | (dsimp only [maxLen]; and_intros <;> omega) | (simp only [n21, n22, m9]; first | omega | (and_intros <;> omega)))))
          | ((with_reducible refine Or.inl ⟨?_, ?_, ?_⟩); (focus rfl); (focus (and_intros <;> first | rfl | omega)))
          | ((with_reducible refine Or.inr (Or.inl ⟨?_, ?_⟩)); focus (and_intros <;> first | rfl | omega))
          | ((with_reducible refine Or.inr (Or.inr (Or.inl ⟨?_, ?_⟩))); focus (and_intros <;> first | rfl | omega))
          | ((with_reducible refine Or.inr (Or.inr (Or.inr ⟨?_, ?_⟩))); focus (and_intros <;> first | rfl | omega))
          | (with_reducible intro hc; (try simp only [capsP, and_true] at hc); (try (exfalso; omega)))
          | ((fail_if_success (with_reducible first | refine And.intro ?_ ?_ | refine Or.inl ?_ | intro _)); (conv => whnf); (fail_if_success (fail_if_success (with_reducible first | apply kL | apply kC | apply kF | apply kM | refine Exists.intro ?_ ?_ | refine Both.mk ?_ ?_ | refine And.intro ?_ ?_ | refine Or.inl ?_ | intro _))))))
      subst hR
      refine FinK.mk ⟨[0, 1, 2, 3, 4, 5, 6, 7, 3, 4], _, _, ⟨rfl, c, cl, rfl⟩, ?_⟩
      (repeat' (first | (refine And.intro ?_ ?_) | exact trivial | rfl | exact Nat.le_refl _ | exact (fun _ _ => rfl) | exact all_one (by rfl) | (simp only [Int.toNat_natCast, Nat.zero_add, Nat.add_zero]; done)))
    · rw [if_pos (by omega), if_pos hb] at hR
      refine CallK.mk3 (σ := [.whole 0, .name 1, .name 2, .whole 3, .whole 5, .name 6]) (nl := []) (clapse id q w nd r.ex rel r.ls cl (x.la + 1) hex (by omega) (by omega)) rfl rfl (List.append_nil _) (by (try simp only [↓List.length_cons, ↓List.length_nil, Nat.reduceAdd]); rfl) (by (try simp only [↓List.length_cons, ↓List.length_nil, Nat.reduceAdd]); rfl) (by (try simp (maxSteps := 1000000) only [givesF, setF, updF, Fam.zeroth, Fam.rk, Ck.rk, C.rk, E.rk, T.rk, key, List.map_cons, List.map_nil, List.cons_append, List.nil_append, List.length_cons, List.length_nil, Option.map_some, Option.bind_some, Nat.reduceAdd, Nat.zero_add, Nat.add_zero, Nat.add_sub_cancel_left, Int.toNat_natCast, reps, List.all_cons, List.all_nil, C.flat, List.append_eq, Bool.not_true, Bool.and_true, Bool.or_false, Bool.or_self, Bool.not_false, List.append_nil, Bool.and_self]); rfl) (by (repeat' (first | (refine And.intro ?_ ?_) | exact trivial | rfl | exact Nat.le_refl _ | exact (fun _ _ => rfl) | exact all_one (by rfl) | (simp only [Int.toNat_natCast, Nat.zero_add, Nat.add_zero]; done)))) ?_
      rintro v h' ⟨rfl, c2, rfl⟩ hcaps
      refine ret_mk3 (by (try simp only [↓List.length_cons, ↓List.length_nil, Nat.reduceAdd]); rfl) (by (try simp (maxSteps := 1000000) only [givesF, setF, updF, Fam.zeroth, Fam.rk, Ck.rk, C.rk, E.rk, T.rk, key, List.map_cons, List.map_nil, List.cons_append, List.nil_append, List.length_cons, List.length_nil, Option.map_some, Option.bind_some, Nat.reduceAdd, Nat.zero_add, Nat.add_zero, Nat.add_sub_cancel_left, Int.toNat_natCast, reps, List.all_cons, List.all_nil, C.flat, List.append_eq, Bool.not_true, Bool.and_true, Bool.or_false, Bool.or_self, Bool.not_false, List.append_nil, Bool.and_self, encP]); rfl) (by (try simp only [givesF, setF, updF, Fam.zeroth, Fam.rk, Ck.rk, C.rk, E.rk, T.rk, key, List.map_cons, List.map_nil, List.cons_append, List.nil_append, List.length_cons, List.length_nil, Option.map_some, Option.bind_some, Nat.reduceAdd, Nat.zero_add, Nat.add_zero, Nat.add_sub_cancel_left, Int.toNat_natCast, reps, List.all_cons, List.all_nil, C.flat, List.append_eq, Bool.not_true, Bool.and_true, Bool.or_false, Bool.or_self, Bool.not_false, List.append_nil, Bool.and_self, encP]); rfl) ?_
      repeat' (first
        | ((fail_if_success (with_reducible first | apply kL | apply kC | apply kF | apply kM | refine Exists.intro ?_ ?_)); first
          | ((with_reducible refine And.intro (fun (hb : _ = true) => ?_) (fun (hb : _ = false) => ?_)) <;> (try simp only [n1, n2, n3, n4, n5, n6, n7, n8, n9, n10, n11, n12, n13, n14, n15, n16, reduceCtorEq, n17, n18, n19, n20, n21, n22] at hb) <;> (try (first | (exfalso; omega) | exact bff hb (by assumption) | exact bff (by assumption) hb)))
          | (with_reducible refine Both.mk ?_ ?_)
          | ((with_reducible refine And.intro ?_ ?_); (focus (first | rfl | omega | exact fun _ _ => rfl | assumption | (split <;> omega) | (and_intros <;> first | rfl | omega | (split <;> omega)) | (dsimp only [maxLen]; and_intros <;> omega) | (simp only [n21, n22, m9]; first | omega | (and_intros <;> omega)))))
          | ((with_reducible refine Or.inl ⟨?_, ?_, ?_⟩); (focus rfl); (focus (and_intros <;> first | rfl | omega)))
          | ((with_reducible refine Or.inr (Or.inl ⟨?_, ?_⟩)); focus (and_intros <;> first | rfl | omega))
          | ((with_reducible refine Or.inr (Or.inr (Or.inl ⟨?_, ?_⟩))); focus (and_intros <;> first | rfl | omega))
          | ((with_reducible refine Or.inr (Or.inr (Or.inr ⟨?_, ?_⟩))); focus (and_intros <;> first | rfl | omega))
          | (with_reducible intro hc; (try simp only [capsP, and_true] at hc); (try (exfalso; omega)))
          | ((fail_if_success (with_reducible first | refine And.intro ?_ ?_ | refine Or.inl ?_ | intro _)); (conv => whnf); (fail_if_success (fail_if_success (with_reducible first | apply kL | apply kC | apply kF | apply kM | refine Exists.intro ?_ ?_ | refine Both.mk ?_ ?_ | refine And.intro ?_ ?_ | refine Or.inl ?_ | intro _))))))
      refine CallK.mk3 (σ := [.whole 5, .name 6]) (nl := []) (cpass w nd r.ex rel (x.la + 1)) rfl rfl (List.append_nil _) (by (try simp only [↓List.length_cons, ↓List.length_nil, Nat.reduceAdd]); rfl) (by (try simp only [↓List.length_cons, ↓List.length_nil, Nat.reduceAdd]); rfl) (by (try simp (maxSteps := 1000000) only [givesF, setF, updF, Fam.zeroth, Fam.rk, Ck.rk, C.rk, E.rk, T.rk, key, List.map_cons, List.map_nil, List.cons_append, List.nil_append, List.length_cons, List.length_nil, Option.map_some, Option.bind_some, Nat.reduceAdd, Nat.zero_add, Nat.add_zero, Nat.add_sub_cancel_left, Int.toNat_natCast, reps, List.all_cons, List.all_nil, C.flat, List.append_eq, Bool.not_true, Bool.and_true, Bool.or_false, Bool.or_self, Bool.not_false, List.append_nil, Bool.and_self]); rfl) (by (repeat' (first | (refine And.intro ?_ ?_) | exact trivial | rfl | exact Nat.le_refl _ | exact (fun _ _ => rfl) | exact all_one (by rfl) | (simp only [Int.toNat_natCast, Nat.zero_add, Nat.add_zero]; done)))) ?_
      rintro v h' ⟨rfl, rfl⟩ hcaps
      refine ret_mk3 (by (try simp only [↓List.length_cons, ↓List.length_nil, Nat.reduceAdd]); rfl) (by (try simp (maxSteps := 1000000) only [givesF, setF, updF, Fam.zeroth, Fam.rk, Ck.rk, C.rk, E.rk, T.rk, key, List.map_cons, List.map_nil, List.cons_append, List.nil_append, List.length_cons, List.length_nil, Option.map_some, Option.bind_some, Nat.reduceAdd, Nat.zero_add, Nat.add_zero, Nat.add_sub_cancel_left, Int.toNat_natCast, reps, List.all_cons, List.all_nil, C.flat, List.append_eq, Bool.not_true, Bool.and_true, Bool.or_false, Bool.or_self, Bool.not_false, List.append_nil, Bool.and_self, encP]); rfl) (by (try simp only [givesF, setF, updF, Fam.zeroth, Fam.rk, Ck.rk, C.rk, E.rk, T.rk, key, List.map_cons, List.map_nil, List.cons_append, List.nil_append, List.length_cons, List.length_nil, Option.map_some, Option.bind_some, Nat.reduceAdd, Nat.zero_add, Nat.add_zero, Nat.add_sub_cancel_left, Int.toNat_natCast, reps, List.all_cons, List.all_nil, C.flat, List.append_eq, Bool.not_true, Bool.and_true, Bool.or_false, Bool.or_self, Bool.not_false, List.append_nil, Bool.and_self, encP]); rfl) ?_
      repeat' (first
        | ((fail_if_success (with_reducible first | apply kL | apply kC | apply kF | apply kM | refine Exists.intro ?_ ?_)); first
          | ((with_reducible refine And.intro (fun (hb : _ = true) => ?_) (fun (hb : _ = false) => ?_)) <;> (try simp only [n1, n2, n3, n4, n5, n6, n7, n8, n9, n10, n11, n12, n13, n14, n15, n16, reduceCtorEq, n17, n18, n19, n20, n21, n22] at hb) <;> (try (first | (exfalso; omega) | exact bff hb (by assumption) | exact bff (by assumption) hb)))
          | (with_reducible refine Both.mk ?_ ?_)
          | ((with_reducible refine And.intro ?_ ?_); (focus (first | rfl | omega | exact fun _ _ => rfl | assumption | (split <;> omega) | (and_intros <;> first | rfl | omega | (split <;> omega)) | (dsimp only [maxLen]; and_intros <;> omega) | (simp only [n21, n22, m9]; first | omega | (and_intros <;> omega)))))
          | ((with_reducible refine Or.inl ⟨?_, ?_, ?_⟩); (focus rfl); (focus (and_intros <;> first | rfl | omega)))
          | ((with_reducible refine Or.inr (Or.inl ⟨?_, ?_⟩)); focus (and_intros <;> first | rfl | omega))
          | ((with_reducible refine Or.inr (Or.inr (Or.inl ⟨?_, ?_⟩))); focus (and_intros <;> first | rfl | omega))
          | ((with_reducible refine Or.inr (Or.inr (Or.inr ⟨?_, ?_⟩))); focus (and_intros <;> first | rfl | omega))
          | (with_reducible intro hc; (try simp only [capsP, and_true] at hc); (try (exfalso; omega)))
          | ((fail_if_success (with_reducible first | refine And.intro ?_ ?_ | refine Or.inl ?_ | intro _)); (conv => whnf); (fail_if_success (fail_if_success (with_reducible first | apply kL | apply kC | apply kF | apply kM | refine Exists.intro ?_ ?_ | refine Both.mk ?_ ?_ | refine And.intro ?_ ?_ | refine Or.inl ?_ | intro _))))))
      subst hR
      refine FinK.mk ⟨[0, 1, 2, 3, 4, 5, 6, 7, 9, 4], _, _, ⟨rfl, c, c2, rfl⟩, ?_⟩
      (repeat' (first | (refine And.intro ?_ ?_) | exact trivial | rfl | exact Nat.le_refl _ | exact (fun _ _ => rfl) | exact all_one (by rfl) | (simp only [Int.toNat_natCast, Nat.zero_add, Nat.add_zero]; done)))
    · rw [if_pos (by omega), if_neg hb] at hR
      refine CallK.mk3 (σ := [.whole 5, .name 6]) (nl := []) (cpass w nd r.ex rel (x.la + 1)) rfl rfl (List.append_nil _) (by (try simp only [↓List.length_cons, ↓List.length_nil, Nat.reduceAdd]); rfl) (by (try simp only [↓List.length_cons, ↓List.length_nil, Nat.reduceAdd]); rfl) (by (try simp (maxSteps := 1000000) only [givesF, setF, updF, Fam.zeroth, Fam.rk, Ck.rk, C.rk, E.rk, T.rk, key, List.map_cons, List.map_nil, List.cons_append, List.nil_append, List.length_cons, List.length_nil, Option.map_some, Option.bind_some, Nat.reduceAdd, Nat.zero_add, Nat.add_zero, Nat.add_sub_cancel_left, Int.toNat_natCast, reps, List.all_cons, List.all_nil, C.flat, List.append_eq, Bool.not_true, Bool.and_true, Bool.or_false, Bool.or_self, Bool.not_false, List.append_nil, Bool.and_self]); rfl) (by (repeat' (first | (refine And.intro ?_ ?_) | exact trivial | rfl | exact Nat.le_refl _ | exact (fun _ _ => rfl) | exact all_one (by rfl) | (simp only [Int.toNat_natCast, Nat.zero_add, Nat.add_zero]; done)))) ?_
      rintro v h' ⟨rfl, rfl⟩ hcaps
      refine ret_mk3 (by (try simp only [↓List.length_cons, ↓List.length_nil, Nat.reduceAdd]); rfl) (by (try simp (maxSteps := 1000000) only [givesF, setF, updF, Fam.zeroth, Fam.rk, Ck.rk, C.rk, E.rk, T.rk, key, List.map_cons, List.map_nil, List.cons_append, List.nil_append, List.length_cons, List.length_nil, Option.map_some, Option.bind_some, Nat.reduceAdd, Nat.zero_add, Nat.add_zero, Nat.add_sub_cancel_left, Int.toNat_natCast, reps, List.all_cons, List.all_nil, C.flat, List.append_eq, Bool.not_true, Bool.and_true, Bool.or_false, Bool.or_self, Bool.not_false, List.append_nil, Bool.and_self, encP]); rfl) (by (try simp only [givesF, setF, updF, Fam.zeroth, Fam.rk, Ck.rk, C.rk, E.rk, T.rk, key, List.map_cons, List.map_nil, List.cons_append, List.nil_append, List.length_cons, List.length_nil, Option.map_some, Option.bind_some, Nat.reduceAdd, Nat.zero_add, Nat.add_zero, Nat.add_sub_cancel_left, Int.toNat_natCast, reps, List.all_cons, List.all_nil, C.flat, List.append_eq, Bool.not_true, Bool.and_true, Bool.or_false, Bool.or_self, Bool.not_false, List.append_nil, Bool.and_self, encP]); rfl) ?_
      repeat' (first
        | ((fail_if_success (with_reducible first | apply kL | apply kC | apply kF | apply kM | refine Exists.intro ?_ ?_)); first
          | ((with_reducible refine And.intro (fun (hb : _ = true) => ?_) (fun (hb : _ = false) => ?_)) <;> (try simp only [n1, n2, n3, n4, n5, n6, n7, n8, n9, n10, n11, n12, n13, n14, n15, n16, reduceCtorEq, n17, n18, n19, n20, n21, n22] at hb) <;> (try (first | (exfalso; omega) | exact bff hb (by assumption) | exact bff (by assumption) hb)))
          | (with_reducible refine Both.mk ?_ ?_)
          | ((with_reducible refine And.intro ?_ ?_); (focus (first | rfl | omega | exact fun _ _ => rfl | assumption | (split <;> omega) | (and_intros <;> first | rfl | omega | (split <;> omega)) | (dsimp only [maxLen]; and_intros <;> omega) | (simp only [n21, n22, m9]; first | omega | (and_intros <;> omega)))))
          | ((with_reducible refine Or.inl ⟨?_, ?_, ?_⟩); (focus rfl); (focus (and_intros <;> first | rfl | omega)))
          | ((with_reducible refine Or.inr (Or.inl ⟨?_, ?_⟩)); focus (and_intros <;> first | rfl | omega))
          | ((with_reducible refine Or.inr (Or.inr (Or.inl ⟨?_, ?_⟩))); focus (and_intros <;> first | rfl | omega))
          | ((with_reducible refine Or.inr (Or.inr (Or.inr ⟨?_, ?_⟩))); focus (and_intros <;> first | rfl | omega))
          | (with_reducible intro hc; (try simp only [capsP, and_true] at hc); (try (exfalso; omega)))
          | ((fail_if_success (with_reducible first | refine And.intro ?_ ?_ | refine Or.inl ?_ | intro _)); (conv => whnf); (fail_if_success (fail_if_success (with_reducible first | apply kL | apply kC | apply kF | apply kM | refine Exists.intro ?_ ?_ | refine Both.mk ?_ ?_ | refine And.intro ?_ ?_ | refine Or.inl ?_ | intro _))))))
      subst hR
      refine FinK.mk ⟨[0, 1, 2, 3, 4, 5, 6, 7, 3, 4], _, _, ⟨rfl, c, cl, rfl⟩, ?_⟩
      (repeat' (first | (refine And.intro ?_ ?_) | exact trivial | rfl | exact Nat.le_refl _ | exact (fun _ _ => rfl) | exact all_one (by rfl) | (simp only [Int.toNat_natCast, Nat.zero_add, Nat.add_zero]; done)))
    · rw [if_neg (by omega)] at hR
      subst hR
      refine FinK.mk ⟨[0, 1, 2, 3, 4, 5, 6, 7, 3, 4], _, _, ⟨rfl, c, cl, rfl⟩, ?_⟩
      (repeat' (first | (refine And.intro ?_ ?_) | exact trivial | rfl | exact Nat.le_refl _ | exact (fun _ _ => rfl) | exact all_one (by rfl) | (simp only [Int.toNat_natCast, Nat.zero_add, Nat.add_zero]; done)))
  · rename_i hb1 hb2
    rw [if_neg (by omega), if_neg (by rw [hb1]; simp), if_pos ⟨hb2, hb⟩] at hR
    have hj := jump_ok hW (show r.ex ≤ x.la + 1 by omega)
    have hjl := jump_len (x.la + 1) r
    refine CallK.mk3 (σ := [.whole 5, .whole 6]) (nl := []) (cjump w nd r.ex rel r.W r.ck (x.la + 1) hW (by omega)) rfl rfl (List.append_nil _) (by (try simp only [↓List.length_cons, ↓List.length_nil, Nat.reduceAdd]); rfl) (by (try simp only [↓List.length_cons, ↓List.length_nil, Nat.reduceAdd]); rfl) (by (try simp (maxSteps := 1000000) only [givesF, setF, updF, Fam.zeroth, Fam.rk, Ck.rk, C.rk, E.rk, T.rk, key, List.map_cons, List.map_nil, List.cons_append, List.nil_append, List.length_cons, List.length_nil, Option.map_some, Option.bind_some, Nat.reduceAdd, Nat.zero_add, Nat.add_zero, Nat.add_sub_cancel_left, Int.toNat_natCast, reps, List.all_cons, List.all_nil, C.flat, List.append_eq, Bool.not_true, Bool.and_true, Bool.or_false, Bool.or_self, Bool.not_false, List.append_nil, Bool.and_self]); rfl) (by (repeat' (first | (refine And.intro ?_ ?_) | exact trivial | rfl | exact Nat.le_refl _ | exact (fun _ _ => rfl) | exact all_one (by rfl) | (simp only [Int.toNat_natCast, Nat.zero_add, Nat.add_zero]; done)))) ?_
    rintro v h' ⟨rfl, rfl⟩ hcaps
    refine ret_mk3 (by (try simp only [↓List.length_cons, ↓List.length_nil, Nat.reduceAdd]); rfl) (by (try simp (maxSteps := 1000000) only [givesF, setF, updF, Fam.zeroth, Fam.rk, Ck.rk, C.rk, E.rk, T.rk, key, List.map_cons, List.map_nil, List.cons_append, List.nil_append, List.length_cons, List.length_nil, Option.map_some, Option.bind_some, Nat.reduceAdd, Nat.zero_add, Nat.add_zero, Nat.add_sub_cancel_left, Int.toNat_natCast, reps, List.all_cons, List.all_nil, C.flat, List.append_eq, Bool.not_true, Bool.and_true, Bool.or_false, Bool.or_self, Bool.not_false, List.append_nil, Bool.and_self, encP]); rfl) (by (try simp only [givesF, setF, updF, Fam.zeroth, Fam.rk, Ck.rk, C.rk, E.rk, T.rk, key, List.map_cons, List.map_nil, List.cons_append, List.nil_append, List.length_cons, List.length_nil, Option.map_some, Option.bind_some, Nat.reduceAdd, Nat.zero_add, Nat.add_zero, Nat.add_sub_cancel_left, Int.toNat_natCast, reps, List.all_cons, List.all_nil, C.flat, List.append_eq, Bool.not_true, Bool.and_true, Bool.or_false, Bool.or_self, Bool.not_false, List.append_nil, Bool.and_self, encP]); rfl) ?_
    repeat' (first
      | ((fail_if_success (with_reducible first | apply kL | apply kC | apply kF | apply kM | refine Exists.intro ?_ ?_)); first
        | ((with_reducible refine And.intro (fun (hb : _ = true) => ?_) (fun (hb : _ = false) => ?_)) <;> (try simp only [n1, n2, n3, n4, n5, n6, n7, n8, n9, n10, n11, n12, n13, n14, n15, n16, reduceCtorEq, n17, n18, n19, n20, n21, n22] at hb) <;> (try (first | (exfalso; omega) | exact bff hb (by assumption) | exact bff (by assumption) hb)))
        | (with_reducible refine Both.mk ?_ ?_)
        | ((with_reducible refine And.intro ?_ ?_); (focus (first | rfl | omega | exact fun _ _ => rfl | assumption | (split <;> omega) | (and_intros <;> first | rfl | omega | (split <;> omega)) | (dsimp only [maxLen]; and_intros <;> omega) | (simp only [n21, n22, m9]; first | omega | (and_intros <;> omega)))))
        | ((with_reducible refine Or.inl ⟨?_, ?_, ?_⟩); (focus rfl); (focus (and_intros <;> first | rfl | omega)))
        | ((with_reducible refine Or.inr (Or.inl ⟨?_, ?_⟩)); focus (and_intros <;> first | rfl | omega))
        | ((with_reducible refine Or.inr (Or.inr (Or.inl ⟨?_, ?_⟩))); focus (and_intros <;> first | rfl | omega))
        | ((with_reducible refine Or.inr (Or.inr (Or.inr ⟨?_, ?_⟩))); focus (and_intros <;> first | rfl | omega))
        | (with_reducible intro hc; (try simp only [capsP, and_true] at hc); (try (exfalso; omega)))
        | ((fail_if_success (with_reducible first | refine And.intro ?_ ?_ | refine Or.inl ?_ | intro _)); (conv => whnf); (fail_if_success (fail_if_success (with_reducible first | apply kL | apply kC | apply kF | apply kM | refine Exists.intro ?_ ?_ | refine Both.mk ?_ ?_ | refine And.intro ?_ ?_ | refine Or.inl ?_ | intro _))))))
    refine CallK.mk3 (σ := [.whole 0, .whole 1, .name 2, .whole 3, .whole 4, .whole 5, .whole 6]) (nl := []) (cmove id q w nd rel (jumpF (x.la + 1) r) c cl hj (by simp only [jumpF]; omega) (by simp only [jumpF] at *; omega) (by simp only [jumpF] at *; omega)) rfl rfl (List.append_nil _) (by (try simp only [↓List.length_cons, ↓List.length_nil, Nat.reduceAdd]); rfl) (by (try simp only [↓List.length_cons, ↓List.length_nil, Nat.reduceAdd]); rfl) (by (try simp (maxSteps := 1000000) only [givesF, setF, updF, Fam.zeroth, Fam.rk, Ck.rk, C.rk, E.rk, T.rk, key, List.map_cons, List.map_nil, List.cons_append, List.nil_append, List.length_cons, List.length_nil, Option.map_some, Option.bind_some, Nat.reduceAdd, Nat.zero_add, Nat.add_zero, Nat.add_sub_cancel_left, Int.toNat_natCast, reps, List.all_cons, List.all_nil, C.flat, List.append_eq, Bool.not_true, Bool.and_true, Bool.or_false, Bool.or_self, Bool.not_false, List.append_nil, Bool.and_self]); rfl) (by (repeat' (first | (refine And.intro ?_ ?_) | exact trivial | rfl | exact Nat.le_refl _ | exact (fun _ _ => rfl) | exact all_one (by rfl) | (simp only [Int.toNat_natCast, Nat.zero_add, Nat.add_zero]; done)))) ?_
    rintro v h' ⟨rfl, c2, cl2, rfl⟩ hcaps
    refine ret_mk3 (by (try simp only [↓List.length_cons, ↓List.length_nil, Nat.reduceAdd]); rfl) (by (try simp (maxSteps := 1000000) only [givesF, setF, updF, Fam.zeroth, Fam.rk, Ck.rk, C.rk, E.rk, T.rk, key, List.map_cons, List.map_nil, List.cons_append, List.nil_append, List.length_cons, List.length_nil, Option.map_some, Option.bind_some, Nat.reduceAdd, Nat.zero_add, Nat.add_zero, Nat.add_sub_cancel_left, Int.toNat_natCast, reps, List.all_cons, List.all_nil, C.flat, List.append_eq, Bool.not_true, Bool.and_true, Bool.or_false, Bool.or_self, Bool.not_false, List.append_nil, Bool.and_self, encP]); rfl) (by (try simp only [givesF, setF, updF, Fam.zeroth, Fam.rk, Ck.rk, C.rk, E.rk, T.rk, key, List.map_cons, List.map_nil, List.cons_append, List.nil_append, List.length_cons, List.length_nil, Option.map_some, Option.bind_some, Nat.reduceAdd, Nat.zero_add, Nat.add_zero, Nat.add_sub_cancel_left, Int.toNat_natCast, reps, List.all_cons, List.all_nil, C.flat, List.append_eq, Bool.not_true, Bool.and_true, Bool.or_false, Bool.or_self, Bool.not_false, List.append_nil, Bool.and_self, encP]); rfl) ?_
    repeat' (first
      | ((fail_if_success (with_reducible first | apply kL | apply kC | apply kF | apply kM | refine Exists.intro ?_ ?_)); first
        | ((with_reducible refine And.intro (fun (hb : _ = true) => ?_) (fun (hb : _ = false) => ?_)) <;> (try simp only [n1, n2, n3, n4, n5, n6, n7, n8, n9, n10, n11, n12, n13, n14, n15, n16, reduceCtorEq, n17, n18, n19, n20, n21, n22] at hb) <;> (try (first | (exfalso; omega) | exact bff hb (by assumption) | exact bff (by assumption) hb)))
        | (with_reducible refine Both.mk ?_ ?_)
        | ((with_reducible refine And.intro ?_ ?_); (focus (first | rfl | omega | exact fun _ _ => rfl | assumption | (split <;> omega) | (and_intros <;> first | rfl | omega | (split <;> omega)) | (dsimp only [maxLen]; and_intros <;> omega) | (simp only [n21, n22, m9]; first | omega | (and_intros <;> omega)))))
        | ((with_reducible refine Or.inl ⟨?_, ?_, ?_⟩); (focus rfl); (focus (and_intros <;> first | rfl | omega)))
        | ((with_reducible refine Or.inr (Or.inl ⟨?_, ?_⟩)); focus (and_intros <;> first | rfl | omega))
        | ((with_reducible refine Or.inr (Or.inr (Or.inl ⟨?_, ?_⟩))); focus (and_intros <;> first | rfl | omega))
        | ((with_reducible refine Or.inr (Or.inr (Or.inr ⟨?_, ?_⟩))); focus (and_intros <;> first | rfl | omega))
        | (with_reducible intro hc; (try simp only [capsP, and_true] at hc); (try (exfalso; omega)))
        | ((fail_if_success (with_reducible first | refine And.intro ?_ ?_ | refine Or.inl ?_ | intro _)); (conv => whnf); (fail_if_success (fail_if_success (with_reducible first | apply kL | apply kC | apply kF | apply kM | refine Exists.intro ?_ ?_ | refine Both.mk ?_ ?_ | refine And.intro ?_ ?_ | refine Or.inl ?_ | intro _))))))
    subst hR
    refine FinK.mk ⟨[0, 1, 2, 3, 4, 5, 6, 7, 9, 10], _, _, ⟨rfl, c2, cl2, rfl⟩, ?_⟩
    (repeat' (first | (refine And.intro ?_ ?_) | exact trivial | rfl | exact Nat.le_refl _ | exact (fun _ _ => rfl) | exact all_one (by rfl) | (simp only [Int.toNat_natCast, Nat.zero_add, Nat.add_zero]; done)))
  all_goals (
    have hrel : ¬ rel = false := by simp [*]
    rw [if_neg (by omega), if_neg hrel, if_neg (by omega)] at hR
    generalize hst : (if x.q = 1 then (3 : Int) else 2) = st at hR
    generalize hK : (min x.la (r.ex + 255) - max x.f r.ex + 1).toNat = K at hR
    have hfill := fun k (hk : k ≤ K) => fill_ok hW st (max x.f r.ex) k (by omega)
    refine LoopK.mk' {k : Nat // k ≤ K}
      (fun ⟨k, _⟩ => ⟨[(0, .c (.p 0 0 0)), (1, .c (.p 5 0 0)), (5, .c (.p 8 0 0)), (6, .c (.i .i64 st)), (8, .c (.i .i64 (max x.f r.ex + k)))],
        [.one (rdr 1 2 3 id q r.ls.length cl), .one (hist 4 q r.l.length c), .one .no, .one (lss true r.ls cl), .one (smps true r.l c), .one (mtcf 6 w nd r.ex rel), .one (wnd (fillW st k (max x.f r.ex) r).W (fillW st k (max x.f r.ex) r).ck), .one .no, .one (.cells true (encP (.sl 7 xm 1 0 n cm) x))]⟩)
      (fun k => K - k.1)
      ⟨⟨0, Nat.zero_le _⟩, [0, 1, 2, 3, 4, 5, 6, 7, 8], ?_⟩ ?_
    · (repeat' (first | (refine And.intro ?_ ?_) | exact trivial | rfl | exact Nat.le_refl _ | exact (fun _ _ => rfl) | exact all_one (by rfl) | (simp only [Int.toNat_natCast, Nat.zero_add, Nat.add_zero]; done)))
      all_goals first | (rw [← hst, if_pos (by assumption)]) | (rw [← hst, if_neg (by assumption)]) | (simp; done)
    rintro ⟨k, hk⟩
    have hF := hfill k hk
    repeat' (first
      | ((fail_if_success (with_reducible first | apply kL | apply kC | apply kF | apply kM | refine Exists.intro ?_ ?_)); first
        | ((with_reducible refine And.intro (fun (hb : _ = true) => ?_) (fun (hb : _ = false) => ?_)) <;> (try simp only [n1, n2, n3, n4, n5, n6, n7, n8, n9, n10, n11, n12, n13, n14, n15, n16, reduceCtorEq, n17, n18, n19, n20, n21, n22] at hb) <;> (try (first | (exfalso; omega) | exact bff hb (by assumption) | exact bff (by assumption) hb)))
        | (with_reducible refine Both.mk ?_ ?_)
        | ((with_reducible refine And.intro ?_ ?_); (focus (first | rfl | omega | exact fun _ _ => rfl | assumption | (split <;> omega) | (and_intros <;> first | rfl | omega | (split <;> omega)) | (dsimp only [maxLen]; and_intros <;> omega) | (simp only [n21, n22, m9]; first | omega | (and_intros <;> omega)))))
        | ((with_reducible refine Or.inl ⟨?_, ?_, ?_⟩); (focus rfl); (focus (and_intros <;> first | rfl | omega)))
        | ((with_reducible refine Or.inr (Or.inl ⟨?_, ?_⟩)); focus (and_intros <;> first | rfl | omega))
        | ((with_reducible refine Or.inr (Or.inr (Or.inl ⟨?_, ?_⟩))); focus (and_intros <;> first | rfl | omega))
        | ((with_reducible refine Or.inr (Or.inr (Or.inr ⟨?_, ?_⟩))); focus (and_intros <;> first | rfl | omega))
        | (with_reducible intro hc; (try simp only [capsP, and_true] at hc); (try (exfalso; omega)))
        | ((fail_if_success (with_reducible first | refine And.intro ?_ ?_ | refine Or.inl ?_ | intro _)); (conv => whnf); (fail_if_success (fail_if_success (with_reducible first | apply kL | apply kC | apply kF | apply kM | refine Exists.intro ?_ ?_ | refine Both.mk ?_ ?_ | refine And.intro ?_ ?_ | refine Or.inl ?_ | intro _))))))
    · have hn : 1 ≤ max x.f r.ex + (k : Int) ∧ max x.f r.ex + (k : Int) ≤ 1099511627776 := by omega
      have eS := fill_succ st k (max x.f r.ex) r
      obtain ⟨f1, f2, f3, f4, f5⟩ := hF
      generalize fillW st k (max x.f r.ex) r = r' at *
      refine CallK.mk3 (σ := [.whole 5, .whole 6]) (nl := []) (copen w nd r.ex rel r'.W r'.ck (max x.f r.ex + k) hex hn) rfl rfl (List.append_nil _) (by (try simp only [↓List.length_cons, ↓List.length_nil, Nat.reduceAdd]); rfl) (by (try simp only [↓List.length_cons, ↓List.length_nil, Nat.reduceAdd]); rfl) (by (try simp (maxSteps := 1000000) only [givesF, setF, updF, Fam.zeroth, Fam.rk, Ck.rk, C.rk, E.rk, T.rk, key, List.map_cons, List.map_nil, List.cons_append, List.nil_append, List.length_cons, List.length_nil, Option.map_some, Option.bind_some, Nat.reduceAdd, Nat.zero_add, Nat.add_zero, Nat.add_sub_cancel_left, Int.toNat_natCast, reps, List.all_cons, List.all_nil, C.flat, List.append_eq, Bool.not_true, Bool.and_true, Bool.or_false, Bool.or_self, Bool.not_false, List.append_nil, Bool.and_self]); rfl) (by (repeat' (first | (refine And.intro ?_ ?_) | exact trivial | rfl | exact Nat.le_refl _ | exact (fun _ _ => rfl) | exact all_one (by rfl) | (simp only [Int.toNat_natCast, Nat.zero_add, Nat.add_zero]; done)))) ?_
      rintro v h' ⟨rfl, rfl⟩ hcaps
      refine ret_mk3 (by (try simp only [↓List.length_cons, ↓List.length_nil, Nat.reduceAdd]); rfl) (by (try simp (maxSteps := 1000000) only [givesF, setF, updF, Fam.zeroth, Fam.rk, Ck.rk, C.rk, E.rk, T.rk, key, List.map_cons, List.map_nil, List.cons_append, List.nil_append, List.length_cons, List.length_nil, Option.map_some, Option.bind_some, Nat.reduceAdd, Nat.zero_add, Nat.add_zero, Nat.add_sub_cancel_left, Int.toNat_natCast, reps, List.all_cons, List.all_nil, C.flat, List.append_eq, Bool.not_true, Bool.and_true, Bool.or_false, Bool.or_self, Bool.not_false, List.append_nil, Bool.and_self, encP]); rfl) (by (try simp only [givesF, setF, updF, Fam.zeroth, Fam.rk, Ck.rk, C.rk, E.rk, T.rk, key, List.map_cons, List.map_nil, List.cons_append, List.nil_append, List.length_cons, List.length_nil, Option.map_some, Option.bind_some, Nat.reduceAdd, Nat.zero_add, Nat.add_zero, Nat.add_sub_cancel_left, Int.toNat_natCast, reps, List.all_cons, List.all_nil, C.flat, List.append_eq, Bool.not_true, Bool.and_true, Bool.or_false, Bool.or_self, Bool.not_false, List.append_nil, Bool.and_self, encP]); rfl) ?_
      repeat' (first
        | ((fail_if_success (with_reducible first | apply kL | apply kC | apply kF | apply kM | refine Exists.intro ?_ ?_)); first
          | ((with_reducible refine And.intro (fun (hb : _ = true) => ?_) (fun (hb : _ = false) => ?_)) <;> (try simp only [n1, n2, n3, n4, n5, n6, n7, n8, n9, n10, n11, n12, n13, n14, n15, n16, reduceCtorEq, n17, n18, n19, n20, n21, n22] at hb) <;> (try (first | (exfalso; omega) | exact bff hb (by assumption) | exact bff (by assumption) hb)))
          | (with_reducible refine Both.mk ?_ ?_)
          | ((with_reducible refine And.intro ?_ ?_); (focus (first | rfl | omega | exact fun _ _ => rfl | assumption | (split <;> omega) | (and_intros <;> first | rfl | omega | (split <;> omega)) | (dsimp only [maxLen]; and_intros <;> omega) | (simp only [n21, n22, m9]; first | omega | (and_intros <;> omega)))))
          | ((with_reducible refine Or.inl ⟨?_, ?_, ?_⟩); (focus rfl); (focus (and_intros <;> first | rfl | omega)))
          | ((with_reducible refine Or.inr (Or.inl ⟨?_, ?_⟩)); focus (and_intros <;> first | rfl | omega))
          | ((with_reducible refine Or.inr (Or.inr (Or.inl ⟨?_, ?_⟩))); focus (and_intros <;> first | rfl | omega))
          | ((with_reducible refine Or.inr (Or.inr (Or.inr ⟨?_, ?_⟩))); focus (and_intros <;> first | rfl | omega))
          | (with_reducible intro hc; (try simp only [capsP, and_true] at hc); (try (exfalso; omega)))
          | ((fail_if_success (with_reducible first | refine And.intro ?_ ?_ | refine Or.inl ?_ | intro _)); (conv => whnf); (fail_if_success (fail_if_success (with_reducible first | apply kL | apply kC | apply kF | apply kM | refine Exists.intro ?_ ?_ | refine Both.mk ?_ ?_ | refine And.intro ?_ ?_ | refine Or.inl ?_ | intro _))))))
      · rename_i i hi
        exact (hb.2.2 i hi (Key.i.inj hc)).elim
      · have e1 : fillW st (k + 1) (max x.f r.ex) r = putW (max x.f r.ex + k) ⟨st, zS⟩ r' := by
          rw [eS]
          exact if_pos (by unfold openB; rw [f3]; exact hb)
        refine ⟨⟨k + 1, by omega⟩, [0, 1, 2, 3, 4, 5, 6, 7, 8], by simp only; omega, ?_⟩
        simp only [e1]
        (repeat' (first | (refine And.intro ?_ ?_) | exact trivial | rfl | exact Nat.le_refl _ | exact (fun _ _ => rfl) | exact all_one (by rfl) | (simp only [Int.toNat_natCast, Nat.zero_add, Nat.add_zero]; done)))
        all_goals first
          | (simp [putW]; done)
          | exact fun i _ => encW_put r'.W r'.ck (max x.f r.ex + k) ⟨st, zS⟩ i
          | omega
      · have e1 : fillW st (k + 1) (max x.f r.ex) r = r' := by
          rw [eS]
          exact if_neg (by unfold openB; rw [f3]; exact hb)
        refine ⟨⟨k + 1, by omega⟩, [0, 1, 2, 3, 4, 5, 6, 7, 8], by simp only; omega, ?_⟩
        simp only [e1]
        (repeat' (first | (refine And.intro ?_ ?_) | exact trivial | rfl | exact Nat.le_refl _ | exact (fun _ _ => rfl) | exact all_one (by rfl) | (simp only [Int.toNat_natCast, Nat.zero_add, Nat.add_zero]; done)))
        all_goals omega
    · have ek : k = K := by omega
      subst ek
      obtain ⟨f1, f2, f3, f4, f5⟩ := hF
      generalize fillW st k (max x.f r.ex) r = r' at *
      obtain ⟨l', ls', ex', W', ck'⟩ := r'
      simp only at f1 f2 f3 f4 f5
      subst f1 f2 f3
      refine CallK.mk3 (σ := [.whole 0, .whole 1, .name 2, .whole 3, .whole 4, .whole 5, .whole 6]) (nl := []) (cmove id q w nd rel ⟨r.l, r.ls, r.ex, W', ck'⟩ c cl f4 hex (by simp only; omega) (by simp only; omega)) rfl rfl (List.append_nil _) (by (try simp only [↓List.length_cons, ↓List.length_nil, Nat.reduceAdd]); rfl) (by (try simp only [↓List.length_cons, ↓List.length_nil, Nat.reduceAdd]); rfl) (by (try simp (maxSteps := 1000000) only [givesF, setF, updF, Fam.zeroth, Fam.rk, Ck.rk, C.rk, E.rk, T.rk, key, List.map_cons, List.map_nil, List.cons_append, List.nil_append, List.length_cons, List.length_nil, Option.map_some, Option.bind_some, Nat.reduceAdd, Nat.zero_add, Nat.add_zero, Nat.add_sub_cancel_left, Int.toNat_natCast, reps, List.all_cons, List.all_nil, C.flat, List.append_eq, Bool.not_true, Bool.and_true, Bool.or_false, Bool.or_self, Bool.not_false, List.append_nil, Bool.and_self]); rfl) (by (repeat' (first | (refine And.intro ?_ ?_) | exact trivial | rfl | exact Nat.le_refl _ | exact (fun _ _ => rfl) | exact all_one (by rfl) | (simp only [Int.toNat_natCast, Nat.zero_add, Nat.add_zero]; done)))) ?_
      rintro v h' ⟨rfl, c2, cl2, rfl⟩ hcaps
      refine ret_mk3 (by (try simp only [↓List.length_cons, ↓List.length_nil, Nat.reduceAdd]); rfl) (by (try simp (maxSteps := 1000000) only [givesF, setF, updF, Fam.zeroth, Fam.rk, Ck.rk, C.rk, E.rk, T.rk, key, List.map_cons, List.map_nil, List.cons_append, List.nil_append, List.length_cons, List.length_nil, Option.map_some, Option.bind_some, Nat.reduceAdd, Nat.zero_add, Nat.add_zero, Nat.add_sub_cancel_left, Int.toNat_natCast, reps, List.all_cons, List.all_nil, C.flat, List.append_eq, Bool.not_true, Bool.and_true, Bool.or_false, Bool.or_self, Bool.not_false, List.append_nil, Bool.and_self, encP]); rfl) (by (try simp only [givesF, setF, updF, Fam.zeroth, Fam.rk, Ck.rk, C.rk, E.rk, T.rk, key, List.map_cons, List.map_nil, List.cons_append, List.nil_append, List.length_cons, List.length_nil, Option.map_some, Option.bind_some, Nat.reduceAdd, Nat.zero_add, Nat.add_zero, Nat.add_sub_cancel_left, Int.toNat_natCast, reps, List.all_cons, List.all_nil, C.flat, List.append_eq, Bool.not_true, Bool.and_true, Bool.or_false, Bool.or_self, Bool.not_false, List.append_nil, Bool.and_self, encP]); rfl) ?_
      repeat' (first
        | ((fail_if_success (with_reducible first | apply kL | apply kC | apply kF | apply kM | refine Exists.intro ?_ ?_)); first
          | ((with_reducible refine And.intro (fun (hb : _ = true) => ?_) (fun (hb : _ = false) => ?_)) <;> (try simp only [n1, n2, n3, n4, n5, n6, n7, n8, n9, n10, n11, n12, n13, n14, n15, n16, reduceCtorEq, n17, n18, n19, n20, n21, n22] at hb) <;> (try (first | (exfalso; omega) | exact bff hb (by assumption) | exact bff (by assumption) hb)))
          | (with_reducible refine Both.mk ?_ ?_)
          | ((with_reducible refine And.intro ?_ ?_); (focus (first | rfl | omega | exact fun _ _ => rfl | assumption | (split <;> omega) | (and_intros <;> first | rfl | omega | (split <;> omega)) | (dsimp only [maxLen]; and_intros <;> omega) | (simp only [n21, n22, m9]; first | omega | (and_intros <;> omega)))))
          | ((with_reducible refine Or.inl ⟨?_, ?_, ?_⟩); (focus rfl); (focus (and_intros <;> first | rfl | omega)))
          | ((with_reducible refine Or.inr (Or.inl ⟨?_, ?_⟩)); focus (and_intros <;> first | rfl | omega))
          | ((with_reducible refine Or.inr (Or.inr (Or.inl ⟨?_, ?_⟩))); focus (and_intros <;> first | rfl | omega))
          | ((with_reducible refine Or.inr (Or.inr (Or.inr ⟨?_, ?_⟩))); focus (and_intros <;> first | rfl | omega))
          | (with_reducible intro hc; (try simp only [capsP, and_true] at hc); (try (exfalso; omega)))
          | ((fail_if_success (with_reducible first | refine And.intro ?_ ?_ | refine Or.inl ?_ | intro _)); (conv => whnf); (fail_if_success (fail_if_success (with_reducible first | apply kL | apply kC | apply kF | apply kM | refine Exists.intro ?_ ?_ | refine Both.mk ?_ ?_ | refine And.intro ?_ ?_ | refine Or.inl ?_ | intro _))))))
      subst hR
      refine FinK.mk ⟨[0, 1, 2, 3, 4, 5, 6, 7, 9, 10], _, _, ⟨rfl, c2, cl2, rfl⟩, ?_⟩
      (repeat' (first | (refine And.intro ?_ ?_) | exact trivial | rfl | exact Nat.le_refl _ | exact (fun _ _ => rfl) | exact all_one (by rfl) | (simp only [Int.toNat_natCast, Nat.zero_add, Nat.add_zero]; done)))
    · have ek : k = K := by omega
      subst ek
      obtain ⟨f1, f2, f3, f4, f5⟩ := hF
      generalize fillW st k (max x.f r.ex) r = r' at *
      obtain ⟨l', ls', ex', W', ck'⟩ := r'
      simp only at f1 f2 f3 f4 f5
      subst f1 f2 f3
      refine CallK.mk3 (σ := [.whole 0, .whole 1, .name 2, .whole 3, .whole 4, .whole 5, .whole 6]) (nl := []) (cmove id q w nd rel ⟨r.l, r.ls, r.ex, W', ck'⟩ c cl f4 hex (by simp only; omega) (by simp only; omega)) rfl rfl (List.append_nil _) (by (try simp only [↓List.length_cons, ↓List.length_nil, Nat.reduceAdd]); rfl) (by (try simp only [↓List.length_cons, ↓List.length_nil, Nat.reduceAdd]); rfl) (by (try simp (maxSteps := 1000000) only [givesF, setF, updF, Fam.zeroth, Fam.rk, Ck.rk, C.rk, E.rk, T.rk, key, List.map_cons, List.map_nil, List.cons_append, List.nil_append, List.length_cons, List.length_nil, Option.map_some, Option.bind_some, Nat.reduceAdd, Nat.zero_add, Nat.add_zero, Nat.add_sub_cancel_left, Int.toNat_natCast, reps, List.all_cons, List.all_nil, C.flat, List.append_eq, Bool.not_true, Bool.and_true, Bool.or_false, Bool.or_self, Bool.not_false, List.append_nil, Bool.and_self]); rfl) (by (repeat' (first | (refine And.intro ?_ ?_) | exact trivial | rfl | exact Nat.le_refl _ | exact (fun _ _ => rfl) | exact all_one (by rfl) | (simp only [Int.toNat_natCast, Nat.zero_add, Nat.add_zero]; done)))) ?_
      rintro v h' ⟨rfl, c2, cl2, rfl⟩ hcaps
      refine ret_mk3 (by (try simp only [↓List.length_cons, ↓List.length_nil, Nat.reduceAdd]); rfl) (by (try simp (maxSteps := 1000000) only [givesF, setF, updF, Fam.zeroth, Fam.rk, Ck.rk, C.rk, E.rk, T.rk, key, List.map_cons, List.map_nil, List.cons_append, List.nil_append, List.length_cons, List.length_nil, Option.map_some, Option.bind_some, Nat.reduceAdd, Nat.zero_add, Nat.add_zero, Nat.add_sub_cancel_left, Int.toNat_natCast, reps, List.all_cons, List.all_nil, C.flat, List.append_eq, Bool.not_true, Bool.and_true, Bool.or_false, Bool.or_self, Bool.not_false, List.append_nil, Bool.and_self, encP]); rfl) (by (try simp only [givesF, setF, updF, Fam.zeroth, Fam.rk, Ck.rk, C.rk, E.rk, T.rk, key, List.map_cons, List.map_nil, List.cons_append, List.nil_append, List.length_cons, List.length_nil, Option.map_some, Option.bind_some, Nat.reduceAdd, Nat.zero_add, Nat.add_zero, Nat.add_sub_cancel_left, Int.toNat_natCast, reps, List.all_cons, List.all_nil, C.flat, List.append_eq, Bool.not_true, Bool.and_true, Bool.or_false, Bool.or_self, Bool.not_false, List.append_nil, Bool.and_self, encP]); rfl) ?_
      repeat' (first
        | ((fail_if_success (with_reducible first | apply kL | apply kC | apply kF | apply kM | refine Exists.intro ?_ ?_)); first
          | ((with_reducible refine And.intro (fun (hb : _ = true) => ?_) (fun (hb : _ = false) => ?_)) <;> (try simp only [n1, n2, n3, n4, n5, n6, n7, n8, n9, n10, n11, n12, n13, n14, n15, n16, reduceCtorEq, n17, n18, n19, n20, n21, n22] at hb) <;> (try (first | (exfalso; omega) | exact bff hb (by assumption) | exact bff (by assumption) hb)))
          | (with_reducible refine Both.mk ?_ ?_)
          | ((with_reducible refine And.intro ?_ ?_); (focus (first | rfl | omega | exact fun _ _ => rfl | assumption | (split <;> omega) | (and_intros <;> first | rfl | omega | (split <;> omega)) | (dsimp only [maxLen]; and_intros <;> omega) | (simp only [n21, n22, m9]; first | omega | (and_intros <;> omega)))))
          | ((with_reducible refine Or.inl ⟨?_, ?_, ?_⟩); (focus rfl); (focus (and_intros <;> first | rfl | omega)))
          | ((with_reducible refine Or.inr (Or.inl ⟨?_, ?_⟩)); focus (and_intros <;> first | rfl | omega))
          | ((with_reducible refine Or.inr (Or.inr (Or.inl ⟨?_, ?_⟩))); focus (and_intros <;> first | rfl | omega))
          | ((with_reducible refine Or.inr (Or.inr (Or.inr ⟨?_, ?_⟩))); focus (and_intros <;> first | rfl | omega))
          | (with_reducible intro hc; (try simp only [capsP, and_true] at hc); (try (exfalso; omega)))
          | ((fail_if_success (with_reducible first | refine And.intro ?_ ?_ | refine Or.inl ?_ | intro _)); (conv => whnf); (fail_if_success (fail_if_success (with_reducible first | apply kL | apply kC | apply kF | apply kM | refine Exists.intro ?_ ?_ | refine Both.mk ?_ ?_ | refine And.intro ?_ ?_ | refine Or.inl ?_ | intro _))))))
      subst hR
      refine FinK.mk ⟨[0, 1, 2, 3, 4, 5, 6, 7, 9, 10], _, _, ⟨rfl, c2, cl2, rfl⟩, ?_⟩
      (repeat' (first | (refine And.intro ?_ ?_) | exact trivial | rfl | exact Nat.le_refl _ | exact (fun _ _ => rfl) | exact all_one (by rfl) | (simp only [Int.toNat_natCast, Nat.zero_add, Nat.add_zero]; done)))
    )
end Go.Proofs.Ytgcofipbdidhmaa

namespace Go.Proofs.Ytgcofipbdidhmaa
open Go.X
set_option linter.unusedSimpArgs false
set_option linter.unusedVariables false

theorem get_find {W : Win} {n : Int} {s : Slt} (h : wget W n = some s) : ∃ i, i < W.length ∧ (W.getD i default).2.1 = n ∧ (W.getD i default).2.2 = s := by
  unfold wget at h
  obtain ⟨e, he, rfl⟩ := Option.map_eq_some_iff.1 h
  have h1 := List.mem_of_find?_eq_some he
  have h2 := List.find?_some he
  obtain ⟨i, hi, rfl⟩ := List.mem_iff_getElem.1 h1
  exact ⟨i, hi, by rw [getD_at hi]; exact of_decide_eq_true h2, by rw [getD_at hi]⟩

/-- What holds of a writer's state at all times. A: samples and numbers, B: losses and twice the numbers. -/
structure Inv (r : Rs) (A B : Nat) : Prop where
  ok : WOk r.W r.ex
  lo : 1 ≤ r.ex
  hi : r.ex ≤ 1099511627777
  l : r.l.length + r.W.length ≤ A
  ls : r.ls.length + 2 * r.W.length ≤ B

theorem mv_inv (q : Qos) (w : Int) {A B : Nat} : ∀ (n : Nat) (r : Rs), Inv r A B → Inv (mv q w n r) A B ∧ r.ex ≤ (mv q w n r).ex
  | 0, r, h => ⟨h, Int.le_refl _⟩
  | n + 1, r, h => by
    unfold mv
    cases hg : wget r.W r.ex with
    | none => exact ⟨h, Int.le_refl _⟩
    | some s =>
      obtain ⟨i, hi, hk, rfl⟩ := get_find hg
      have e1 := erase_ne h.ok.nd hi hk
      have hlen : (wne r.ex r.W).length = r.W.length - 1 := by rw [← e1, List.length_eraseIdx_of_lt hi]
      have hmx : r.ex ≤ 1099511627776 := by
        rw [← hk, getD_at hi]
        exact h.ok.mx _ (List.getElem_mem hi)
      have hn := new_le q r.l (r.W.getD i default).2.2.x
      have hd := dlv_le q r.l r.ls (r.W.getD i default).2.2.x
      have h1 := h.lo
      have h2 := h.l
      have h3 := h.ls
      have hs : Inv (mvStep q w (r.W.getD i default).2.2 r) A B := by
        refine ⟨ne_ok h.ok, by simp only [mvStep]; omega, by simp only [mvStep]; omega, ?_, ?_⟩
        · simp only [mvStep]
          split <;> omega
        · simp only [mvStep]
          split
          · omega
          · split
            · simp; omega
            · omega
      obtain ⟨i1, i2⟩ := mv_inv q w n _ hs
      refine ⟨i1, ?_⟩
      have : (mvStep q w (r.W.getD i default).2.2 r).ex = r.ex + 1 := rfl
      show r.ex ≤ (mv q w n (mvStep q w (r.W.getD i default).2.2 r)).ex
      omega
theorem mvA_inv {q : Qos} {w : Int} {A B : Nat} {r : Rs} (h : Inv r A B) : Inv (mvA q w r) A B := (mv_inv q w _ r h).1
theorem mvA_ex {q : Qos} {w : Int} {A B : Nat} {r : Rs} (h : Inv r A B) : r.ex ≤ (mvA q w r).ex := (mv_inv q w _ r h).2
theorem jump_inv {A B : Nat} {r : Rs} {n : Int} (h : Inv r A B) (h1 : r.ex ≤ n) (h2 : n ≤ 1099511627777) : Inv (jumpF n r) A B := by
  have := h.lo
  have := h.l
  have := h.ls
  have := jump_len n r
  exact ⟨jump_ok h.ok h1, by simp only [jumpF]; omega, h2, by simp only [jumpF] at *; omega, by simp only [jumpF] at *; omega⟩

/-! ### A heartbeat -/
def encI (n : Int) : List C := [.i .i64 n]
abbrev ints (w : Bool) (l : List Int) (c : Nat) : Ck := .row w false 3 1 l.length c (rowOf encI l)
def unk (W : Win) (n : Int) : Bool := decide (∀ i, i < W.length → (W.getD i default).2.1 ≠ n)
def missK (W : Win) (ex : Int) (k : Nat) : List Int := ((List.range k).map fun (i : Nat) => ex + (i : Int)).filter (unk W)
theorem miss_succ (W : Win) (ex : Int) (k : Nat) : missK W ex (k + 1) = missK W ex k ++ if unk W (ex + k) then [ex + (k : Int)] else [] := by
  unfold missK
  rw [List.range_succ, List.map_append, List.filter_append]
  congr 1
  simp only [List.map_cons, List.map_nil, List.filter_cons, List.filter_nil]
theorem miss_pre (W : Win) (ex : Int) (k m : Nat) : ∃ t, missK W ex (k + m) = missK W ex k ++ t := by
  induction m with
  | zero => exact ⟨[], by simp⟩
  | succ m ih =>
    obtain ⟨t, ht⟩ := ih
    exact ⟨_, by rw [← Nat.add_assoc, miss_succ, ht, List.append_assoc]⟩
def missF (r : Rs) (la : Int) : List Int := (missK r.W r.ex (la - r.ex + 1).toNat).take 32
theorem miss_end {r : Rs} {la : Int} {k : Nat} (hk : k ≤ (la - r.ex + 1).toNat) (h1 : (missK r.W r.ex k).length ≤ 32) (h2 : k = (la - r.ex + 1).toNat ∨ 32 ≤ (missK r.W r.ex k).length) : missF r la = missK r.W r.ex k := by
  unfold missF
  rcases h2 with rfl | h2
  · exact List.take_of_length_le h1
  · obtain ⟨m, hm⟩ : ∃ m, (la - r.ex + 1).toNat = k + m := ⟨_, (Nat.add_sub_cancel' hk).symm⟩
    obtain ⟨t, ht⟩ := miss_pre r.W r.ex k m
    rw [hm, ht]
    exact List.take_left' (by omega)

def hbF (q : Qos) (w : Int) (rel : Bool) (x : Pkt) (r : Rs) : Rs := if rel = false then r else if r.ex < x.f then mvA q w (jumpF x.f r) else r
def ackP (id w nd at' : Int) (x : Pkt) (r : Rs) : Pkt := ⟨3, 0, nd, w, id, 0, r.ex, x.la, at', ⟨#[]⟩⟩
abbrev pkts (w : Bool) (f n c nm cm : Nat) (x : Pkt) : Ck := .row w true 32 11 n c (fun _ => encP (msl f nm cm) x)

set_option maxRecDepth 10000 in
set_option maxHeartbeats 8000000 in
theorem cheart (id : Int) (q : Qos) (w nd : Int) (rel : Bool) (r : Rs) (c cl n cm : Nat) (x : Pkt) (at' : Int) (hI : Inv r 800000 700000) (hx : checkP x = 0) (hk : x.k = 2) (xm : Nat := 0) :
    Ctr Try.prog 35 [.c (.p 0 0 0), .c (.p 5 0 0), .a (encP (.sl 7 xm 1 0 n cm) x), .c (.i .i64 at')] [.one (rdr 1 2 3 id q r.ls.length cl), .one (hist 4 q r.l.length c), .one .no, .one (lss true r.ls cl), .one (smps true r.l c), .one (mtcf 6 w nd r.ex rel), .one (wnd r.W r.ck), .one .no]
      fun v h => ∃ c' cl' cm' cp' nm np, v = .c (.sl 11 0 11 0 np cp') ∧ (rel = false → np = 0 ∧ nm = 0) ∧ (rel = true → np = 1 ∧ nm = (missF (hbF q w rel x r) x.la).length) ∧
        h = [.one (rdr 1 2 8 id q (hbF q w rel x r).ls.length cl'), .one (hist 9 q (hbF q w rel x r).l.length c'), .one .no, .one .no, .one .no, .one (mtcf 6 w nd (hbF q w rel x r).ex rel), .one (wnd (hbF q w rel x r).W (hbF q w rel x r).ck), .one .no,
        .one (lss true (hbF q w rel x r).ls cl'), .one (smps true (hbF q w rel x r).l c'), .one (.row true false 3 1 nm cm' (rowOf encI (missF (hbF q w rel x r) x.la))), .one (pkts true 10 np cp' nm cm' (ackP id w nd at' x (hbF q w rel x r)))] := by
  have hx : (1 ≤ x.f ∧ x.f ≤ 1099511627776) ∧ x.f - 1 ≤ x.la ∧ x.la ≤ 1099511627776 := by
    unfold checkP okN at hx
    rw [if_neg (by omega), if_neg (by omega), if_pos hk] at hx
    split at hx
    · assumption
    · omega
  refine Ctr.mk' tbv mixed Try.func35 rfl rfl rfl (fun _ _ => by kernel_rfl) (by kernel_rfl) (by rfl) (by rfl) (by (repeat' (first | (refine And.intro ?_ ?_) | exact trivial | rfl | exact Nat.le_refl _ | exact (fun _ _ => rfl) | exact all_one (by rfl) | (simp only [Int.toNat_natCast, Nat.zero_add, Nat.add_zero]; done)))) ?_
  generalize hR : hbF q w rel x r = R
  unfold hbF at hR
  repeat' (first
    | ((fail_if_success (with_reducible first | apply kL | apply kC | apply kF | apply kM | refine Exists.intro ?_ ?_)); first
      | ((with_reducible refine And.intro (fun (hb : _ = true) => ?_) (fun (hb : _ = false) => ?_)) <;> (try simp only [n1, n2, n3, n4, n5, n6, n7, n8, n9, n10, n11, n12, n13, n14, n15, n16, reduceCtorEq, n17, n18, n19, n20, n21, n22] at hb) <;> (try (first | (exfalso; omega) | exact bff hb (by assumption) | exact bff (by assumption) hb)))
      | (with_reducible refine Both.mk ?_ ?_)
      | ((with_reducible refine And.intro ?_ ?_); (focus (first | rfl | omega | exact fun _ _ => rfl | assumption | (split <;> omega) | (and_intros <;> first | rfl | omega | (split <;> omega)) | (dsimp only [maxLen]; and_intros <;> omega) | (simp only [n21, n22, m9]; first | omega | (and_intros <;> omega)))))
      | ((with_reducible refine Or.inl ⟨?_, ?_, ?_⟩); (focus rfl); (focus (and_intros <;> first | rfl | omega)))
      | ((with_reducible refine Or.inr (Or.inl ⟨?_, ?_⟩)); focus (and_intros <;> first | rfl | omega))
      | ((with_reducible refine Or.inr (Or.inr (Or.inl ⟨?_, ?_⟩))); focus (and_intros <;> first | rfl | omega))
      | ((with_reducible refine Or.inr (Or.inr (Or.inr ⟨?_, ?_⟩))); focus (and_intros <;> first | rfl | omega))
      | (with_reducible intro hc; (try simp only [capsP, and_true] at hc); (try (exfalso; omega)))
      | ((fail_if_success (with_reducible first | refine And.intro ?_ ?_ | refine Or.inl ?_ | intro _)); (conv => whnf); (fail_if_success (fail_if_success (with_reducible first | apply kL | apply kC | apply kF | apply kM | refine Exists.intro ?_ ?_ | refine Both.mk ?_ ?_ | refine And.intro ?_ ?_ | refine Or.inl ?_ | intro _))))))
  · subst hR
    rw [if_pos hb]
    refine FinK.mk ⟨[0, 1, 2, 3, 4, 5, 6, 7, 3, 4, 98, 99], _, _, ⟨c, cl, 0, 0, 0, 0, rfl, (fun _ => ⟨rfl, rfl⟩), (fun h => by rw [hb] at h; cases h), rfl⟩, ?_⟩
    (repeat' (first | (refine And.intro ?_ ?_) | exact trivial | rfl | exact Nat.le_refl _ | exact (fun _ _ => rfl) | exact all_one (by rfl) | (simp only [Int.toNat_natCast, Nat.zero_add, Nat.add_zero]; done)))
  · rename_i hb0
    rw [if_neg (by rw [hb0]; simp), if_pos hb] at hR
    have hJ := jump_inv hI (show r.ex ≤ x.f by omega) (by omega)
    refine CallK.mk3 (σ := [.whole 5, .whole 6]) (nl := []) (cjump w nd r.ex rel r.W r.ck x.f hI.ok ⟨hI.lo, by omega, by omega⟩) rfl rfl (List.append_nil _) (by (try simp only [↓List.length_cons, ↓List.length_nil, Nat.reduceAdd]); rfl) (by (try simp only [↓List.length_cons, ↓List.length_nil, Nat.reduceAdd]); rfl) (by (try simp (maxSteps := 1000000) only [givesF, setF, updF, Fam.zeroth, Fam.rk, Ck.rk, C.rk, E.rk, T.rk, key, List.map_cons, List.map_nil, List.cons_append, List.nil_append, List.length_cons, List.length_nil, Option.map_some, Option.bind_some, Nat.reduceAdd, Nat.zero_add, Nat.add_zero, Nat.add_sub_cancel_left, Int.toNat_natCast, reps, List.all_cons, List.all_nil, C.flat, List.append_eq, Bool.not_true, Bool.and_true, Bool.or_false, Bool.or_self, Bool.not_false, List.append_nil, Bool.and_self]); rfl) (by (repeat' (first | (refine And.intro ?_ ?_) | exact trivial | rfl | exact Nat.le_refl _ | exact (fun _ _ => rfl) | exact all_one (by rfl) | (simp only [Int.toNat_natCast, Nat.zero_add, Nat.add_zero]; done)))) ?_
    rintro v h' ⟨rfl, rfl⟩ hcaps
    refine ret_mk3 (by (try simp only [↓List.length_cons, ↓List.length_nil, Nat.reduceAdd]); rfl) (by (try simp (maxSteps := 1000000) only [givesF, setF, updF, Fam.zeroth, Fam.rk, Ck.rk, C.rk, E.rk, T.rk, key, List.map_cons, List.map_nil, List.cons_append, List.nil_append, List.length_cons, List.length_nil, Option.map_some, Option.bind_some, Nat.reduceAdd, Nat.zero_add, Nat.add_zero, Nat.add_sub_cancel_left, Int.toNat_natCast, reps, List.all_cons, List.all_nil, C.flat, List.append_eq, Bool.not_true, Bool.and_true, Bool.or_false, Bool.or_self, Bool.not_false, List.append_nil, Bool.and_self, encP]); rfl) (by (try simp only [givesF, setF, updF, Fam.zeroth, Fam.rk, Ck.rk, C.rk, E.rk, T.rk, key, List.map_cons, List.map_nil, List.cons_append, List.nil_append, List.length_cons, List.length_nil, Option.map_some, Option.bind_some, Nat.reduceAdd, Nat.zero_add, Nat.add_zero, Nat.add_sub_cancel_left, Int.toNat_natCast, reps, List.all_cons, List.all_nil, C.flat, List.append_eq, Bool.not_true, Bool.and_true, Bool.or_false, Bool.or_self, Bool.not_false, List.append_nil, Bool.and_self, encP]); rfl) ?_
    repeat' (first
      | ((fail_if_success (with_reducible first | apply kL | apply kC | apply kF | apply kM | refine Exists.intro ?_ ?_)); first
        | ((with_reducible refine And.intro (fun (hb : _ = true) => ?_) (fun (hb : _ = false) => ?_)) <;> (try simp only [n1, n2, n3, n4, n5, n6, n7, n8, n9, n10, n11, n12, n13, n14, n15, n16, reduceCtorEq, n17, n18, n19, n20, n21, n22] at hb) <;> (try (first | (exfalso; omega) | exact bff hb (by assumption) | exact bff (by assumption) hb)))
        | (with_reducible refine Both.mk ?_ ?_)
        | ((with_reducible refine And.intro ?_ ?_); (focus (first | rfl | omega | exact fun _ _ => rfl | assumption | (split <;> omega) | (and_intros <;> first | rfl | omega | (split <;> omega)) | (dsimp only [maxLen]; and_intros <;> omega) | (simp only [n21, n22, m9]; first | omega | (and_intros <;> omega)))))
        | ((with_reducible refine Or.inl ⟨?_, ?_, ?_⟩); (focus rfl); (focus (and_intros <;> first | rfl | omega)))
        | ((with_reducible refine Or.inr (Or.inl ⟨?_, ?_⟩)); focus (and_intros <;> first | rfl | omega))
        | ((with_reducible refine Or.inr (Or.inr (Or.inl ⟨?_, ?_⟩))); focus (and_intros <;> first | rfl | omega))
        | ((with_reducible refine Or.inr (Or.inr (Or.inr ⟨?_, ?_⟩))); focus (and_intros <;> first | rfl | omega))
        | (with_reducible intro hc; (try simp only [capsP, and_true] at hc); (try (exfalso; omega)))
        | ((fail_if_success (with_reducible first | refine And.intro ?_ ?_ | refine Or.inl ?_ | intro _)); (conv => whnf); (fail_if_success (fail_if_success (with_reducible first | apply kL | apply kC | apply kF | apply kM | refine Exists.intro ?_ ?_ | refine Both.mk ?_ ?_ | refine And.intro ?_ ?_ | refine Or.inl ?_ | intro _))))))
    refine CallK.mk3 (σ := [.whole 0, .whole 1, .name 2, .whole 3, .whole 4, .whole 5, .whole 6]) (nl := []) (cmove id q w nd rel (jumpF x.f r) c cl hJ.ok ⟨hJ.lo, hJ.hi⟩ (by have := hJ.l; omega) (by have := hJ.ls; omega)) rfl rfl (List.append_nil _) (by (try simp only [↓List.length_cons, ↓List.length_nil, Nat.reduceAdd]); rfl) (by (try simp only [↓List.length_cons, ↓List.length_nil, Nat.reduceAdd]); rfl) (by (try simp (maxSteps := 1000000) only [givesF, setF, updF, Fam.zeroth, Fam.rk, Ck.rk, C.rk, E.rk, T.rk, key, List.map_cons, List.map_nil, List.cons_append, List.nil_append, List.length_cons, List.length_nil, Option.map_some, Option.bind_some, Nat.reduceAdd, Nat.zero_add, Nat.add_zero, Nat.add_sub_cancel_left, Int.toNat_natCast, reps, List.all_cons, List.all_nil, C.flat, List.append_eq, Bool.not_true, Bool.and_true, Bool.or_false, Bool.or_self, Bool.not_false, List.append_nil, Bool.and_self]); rfl) (by (repeat' (first | (refine And.intro ?_ ?_) | exact trivial | rfl | exact Nat.le_refl _ | exact (fun _ _ => rfl) | exact all_one (by rfl) | (simp only [Int.toNat_natCast, Nat.zero_add, Nat.add_zero]; done)))) ?_
    rintro v h' ⟨rfl, c2, cl2, rfl⟩ hcaps
    refine ret_mk3 (by (try simp only [↓List.length_cons, ↓List.length_nil, Nat.reduceAdd]); rfl) (by (try simp (maxSteps := 1000000) only [givesF, setF, updF, Fam.zeroth, Fam.rk, Ck.rk, C.rk, E.rk, T.rk, key, List.map_cons, List.map_nil, List.cons_append, List.nil_append, List.length_cons, List.length_nil, Option.map_some, Option.bind_some, Nat.reduceAdd, Nat.zero_add, Nat.add_zero, Nat.add_sub_cancel_left, Int.toNat_natCast, reps, List.all_cons, List.all_nil, C.flat, List.append_eq, Bool.not_true, Bool.and_true, Bool.or_false, Bool.or_self, Bool.not_false, List.append_nil, Bool.and_self, encP]); rfl) (by (try simp only [givesF, setF, updF, Fam.zeroth, Fam.rk, Ck.rk, C.rk, E.rk, T.rk, key, List.map_cons, List.map_nil, List.cons_append, List.nil_append, List.length_cons, List.length_nil, Option.map_some, Option.bind_some, Nat.reduceAdd, Nat.zero_add, Nat.add_zero, Nat.add_sub_cancel_left, Int.toNat_natCast, reps, List.all_cons, List.all_nil, C.flat, List.append_eq, Bool.not_true, Bool.and_true, Bool.or_false, Bool.or_self, Bool.not_false, List.append_nil, Bool.and_self, encP]); rfl) ?_
    repeat' (first
      | ((fail_if_success (with_reducible first | apply kL | apply kC | apply kF | apply kM | refine Exists.intro ?_ ?_)); first
        | ((with_reducible refine And.intro (fun (hb : _ = true) => ?_) (fun (hb : _ = false) => ?_)) <;> (try simp only [n1, n2, n3, n4, n5, n6, n7, n8, n9, n10, n11, n12, n13, n14, n15, n16, reduceCtorEq, n17, n18, n19, n20, n21, n22] at hb) <;> (try (first | (exfalso; omega) | exact bff hb (by assumption) | exact bff (by assumption) hb)))
        | (with_reducible refine Both.mk ?_ ?_)
        | ((with_reducible refine And.intro ?_ ?_); (focus (first | rfl | omega | exact fun _ _ => rfl | assumption | (split <;> omega) | (and_intros <;> first | rfl | omega | (split <;> omega)) | (dsimp only [maxLen]; and_intros <;> omega) | (simp only [n21, n22, m9]; first | omega | (and_intros <;> omega)))))
        | ((with_reducible refine Or.inl ⟨?_, ?_, ?_⟩); (focus rfl); (focus (and_intros <;> first | rfl | omega)))
        | ((with_reducible refine Or.inr (Or.inl ⟨?_, ?_⟩)); focus (and_intros <;> first | rfl | omega))
        | ((with_reducible refine Or.inr (Or.inr (Or.inl ⟨?_, ?_⟩))); focus (and_intros <;> first | rfl | omega))
        | ((with_reducible refine Or.inr (Or.inr (Or.inr ⟨?_, ?_⟩))); focus (and_intros <;> first | rfl | omega))
        | (with_reducible intro hc; (try simp only [capsP, and_true] at hc); (try (exfalso; omega)))
        | ((fail_if_success (with_reducible first | refine And.intro ?_ ?_ | refine Or.inl ?_ | intro _)); (conv => whnf); (fail_if_success (fail_if_success (with_reducible first | apply kL | apply kC | apply kF | apply kM | refine Exists.intro ?_ ?_ | refine Both.mk ?_ ?_ | refine And.intro ?_ ?_ | refine Or.inl ?_ | intro _))))))
    all_goals have hRI : Inv R 800000 700000 := by rw [← hR]; exact mvA_inv hJ
    all_goals subst hR
    all_goals (
      have h1 := hRI.lo
      have h2 := hRI.hi
      refine LoopK.mk' ({k : Nat // k ≤ (x.la - (mvA q w (jumpF x.f r)).ex + 1).toNat ∧ (missK (mvA q w (jumpF x.f r)).W (mvA q w (jumpF x.f r)).ex k).length ≤ 32} × Nat)
        (fun ⟨⟨k, _⟩, cc⟩ => ⟨[(1, .c (.p 5 0 0)), (6, .c (.p 12 0 0)), (9, .c (.p 11 0 0)), (10, .c (.i .i64 ((mvA q w (jumpF x.f r)).ex + k)))],
          [.one (rdr 1 2 8 id q (mvA q w (jumpF x.f r)).ls.length cl2), .one (hist 9 q (mvA q w (jumpF x.f r)).l.length c2), .one .no, .one .no, .one .no, .one (mtcf 6 w nd (mvA q w (jumpF x.f r)).ex rel), .one (wnd (mvA q w (jumpF x.f r)).W (mvA q w (jumpF x.f r)).ck), .one .no,
            .one (lss true (mvA q w (jumpF x.f r)).ls cl2), .one (smps true (mvA q w (jumpF x.f r)).l c2), .one (ints true (missK (mvA q w (jumpF x.f r)).W (mvA q w (jumpF x.f r)).ex k) cc), .one (.cells true (encP (msl 10 (missK (mvA q w (jumpF x.f r)).W (mvA q w (jumpF x.f r)).ex k).length cc) (ackP id w nd at' x (mvA q w (jumpF x.f r))))), .one (.cells true (encP (.sl 7 xm 1 0 n cm) x))]⟩)
        (fun k => (x.la - (mvA q w (jumpF x.f r)).ex + 1).toNat - k.1.1)
        ⟨⟨⟨0, Nat.zero_le _, by simp [missK]⟩, 0⟩, [0, 1, 2, 3, 4, 5, 6, 7, 9, 10, 99, 11, 8], ?_⟩ ?_
      · (repeat' (first | (refine And.intro ?_ ?_) | exact trivial | rfl | exact Nat.le_refl _ | exact (fun _ _ => rfl) | exact all_one (by rfl) | (simp only [Int.toNat_natCast, Nat.zero_add, Nat.add_zero]; done)))
        all_goals first | rfl | (simp [missK]; done) | (simp; done) | (simp; rfl)
      rintro ⟨⟨k, hk, hm⟩, cc⟩
      repeat' (first
        | ((fail_if_success (with_reducible first | apply kL | apply kC | apply kF | apply kM | refine Exists.intro ?_ ?_)); first
          | ((with_reducible refine And.intro (fun (hb : _ = true) => ?_) (fun (hb : _ = false) => ?_)) <;> (try simp only [n1, n2, n3, n4, n5, n6, n7, n8, n9, n10, n11, n12, n13, n14, n15, n16, reduceCtorEq, n17, n18, n19, n20, n21, n22] at hb) <;> (try (first | (exfalso; omega) | exact bff hb (by assumption) | exact bff (by assumption) hb)))
          | (with_reducible refine Both.mk ?_ ?_)
          | ((with_reducible refine And.intro ?_ ?_); (focus (first | rfl | omega | exact fun _ _ => rfl | assumption | (split <;> omega) | (and_intros <;> first | rfl | omega | (split <;> omega)) | (dsimp only [maxLen]; and_intros <;> omega) | (simp only [n21, n22, m9]; first | omega | (and_intros <;> omega)))))
          | ((with_reducible refine Or.inl ⟨?_, ?_, ?_⟩); (focus rfl); (focus (and_intros <;> first | rfl | omega)))
          | ((with_reducible refine Or.inr (Or.inl ⟨?_, ?_⟩)); focus (and_intros <;> first | rfl | omega))
          | ((with_reducible refine Or.inr (Or.inr (Or.inl ⟨?_, ?_⟩))); focus (and_intros <;> first | rfl | omega))
          | ((with_reducible refine Or.inr (Or.inr (Or.inr ⟨?_, ?_⟩))); focus (and_intros <;> first | rfl | omega))
          | (with_reducible intro hc; (try simp only [capsP, and_true] at hc); (try (exfalso; omega)))
          | ((fail_if_success (with_reducible first | refine And.intro ?_ ?_ | refine Or.inl ?_ | intro _)); (conv => whnf); (fail_if_success (fail_if_success (with_reducible first | apply kL | apply kC | apply kF | apply kM | refine Exists.intro ?_ ?_ | refine Both.mk ?_ ?_ | refine And.intro ?_ ?_ | refine Or.inl ?_ | intro _))))))
      · rename_i i hi
        have e1 : missK (mvA q w (jumpF x.f r)).W (mvA q w (jumpF x.f r)).ex (k + 1) = missK (mvA q w (jumpF x.f r)).W (mvA q w (jumpF x.f r)).ex k := by
          rw [miss_succ, if_neg (by unfold unk; exact fun h => of_decide_eq_true h i hi (Key.i.inj hc)), List.append_nil]
        refine ⟨⟨⟨k + 1, by omega, by rw [e1]; omega⟩, cc⟩, [0, 1, 2, 3, 4, 5, 6, 7, 8, 9, 10, 11, 12], by simp only; omega, ?_⟩
        simp only [e1]
        (repeat' (first | (refine And.intro ?_ ?_) | exact trivial | rfl | exact Nat.le_refl _ | exact (fun _ _ => rfl) | exact all_one (by rfl) | (simp only [Int.toNat_natCast, Nat.zero_add, Nat.add_zero]; done)))
        all_goals omega
      · rename Nat => c3
        have e1 : missK (mvA q w (jumpF x.f r)).W (mvA q w (jumpF x.f r)).ex (k + 1) = missK (mvA q w (jumpF x.f r)).W (mvA q w (jumpF x.f r)).ex k ++ [(mvA q w (jumpF x.f r)).ex + (k : Int)] := by
          rw [miss_succ, if_pos (by unfold unk; exact decide_eq_true fun i hi h => (by assumption : ∀ (i : Nat), i < (mvA q w (jumpF x.f r)).W.length → (encW (mvA q w (jumpF x.f r)).W i).2.1 ≠ Key.i ((mvA q w (jumpF x.f r)).ex + (k : Int))) i hi (by show Key.i _ = Key.i _; rw [h]))]
        refine ⟨⟨⟨k + 1, by omega, by rw [e1, List.length_append, List.length_singleton]; omega⟩, c3⟩, [0, 1, 2, 3, 4, 5, 6, 7, 8, 9, 15, 11, 12], by simp only; omega, ?_⟩
        simp only [e1]
        (repeat' (first | (refine And.intro ?_ ?_) | exact trivial | rfl | exact Nat.le_refl _ | exact (fun _ _ => rfl) | exact all_one (by rfl) | (simp only [Int.toNat_natCast, Nat.zero_add, Nat.add_zero]; done)))
        all_goals first | omega | (simp; done) | (intro i hi; exact app_rowG encI _ _ _ rfl i hi)
      all_goals (
        have e2 : missF (mvA q w (jumpF x.f r)) x.la = missK (mvA q w (jumpF x.f r)).W (mvA q w (jumpF x.f r)).ex k := miss_end hk hm (by omega)
        rw [e2]
        refine FinK.mk ⟨[0, 1, 2, 3, 4, 5, 6, 7, 8, 9, 10, 13], _, _, ⟨c2, cl2, cc, 1, _, 1, rfl, (fun h => by simp_all), (fun _ => ⟨rfl, rfl⟩), rfl⟩, ?_⟩
        (repeat' (first | (refine And.intro ?_ ?_) | exact trivial | rfl | exact Nat.le_refl _ | exact (fun _ _ => rfl) | exact all_one (by rfl) | (simp only [Int.toNat_natCast, Nat.zero_add, Nat.add_zero]; done)))
        all_goals (
          intro i hi
          obtain rfl : i = 0 := by omega
          rfl))
      )
  all_goals (
    rename_i hb0
    rw [if_neg (by rw [hb0]; simp), if_neg (by omega)] at hR
    subst hR)
  all_goals (
    have h1 := hI.lo
    have h2 := hI.hi
    refine LoopK.mk' ({k : Nat // k ≤ (x.la - (r).ex + 1).toNat ∧ (missK (r).W (r).ex k).length ≤ 32} × Nat)
      (fun ⟨⟨k, _⟩, cc⟩ => ⟨[(1, .c (.p 5 0 0)), (6, .c (.p 12 0 0)), (9, .c (.p 11 0 0)), (10, .c (.i .i64 ((r).ex + k)))],
        [.one (rdr 1 2 8 id q (r).ls.length cl), .one (hist 9 q (r).l.length c), .one .no, .one .no, .one .no, .one (mtcf 6 w nd (r).ex rel), .one (wnd (r).W (r).ck), .one .no,
          .one (lss true (r).ls cl), .one (smps true (r).l c), .one (ints true (missK (r).W (r).ex k) cc), .one (.cells true (encP (msl 10 (missK (r).W (r).ex k).length cc) (ackP id w nd at' x (r)))), .one (.cells true (encP (.sl 7 xm 1 0 n cm) x))]⟩)
      (fun k => (x.la - (r).ex + 1).toNat - k.1.1)
      ⟨⟨⟨0, Nat.zero_le _, by simp [missK]⟩, 0⟩, [0, 1, 2, 3, 4, 5, 6, 7, 3, 4, 99, 9, 8], ?_⟩ ?_
    · (repeat' (first | (refine And.intro ?_ ?_) | exact trivial | rfl | exact Nat.le_refl _ | exact (fun _ _ => rfl) | exact all_one (by rfl) | (simp only [Int.toNat_natCast, Nat.zero_add, Nat.add_zero]; done)))
      all_goals first | rfl | (simp [missK]; done) | (simp; done) | (simp; rfl)
    rintro ⟨⟨k, hk, hm⟩, cc⟩
    repeat' (first
      | ((fail_if_success (with_reducible first | apply kL | apply kC | apply kF | apply kM | refine Exists.intro ?_ ?_)); first
        | ((with_reducible refine And.intro (fun (hb : _ = true) => ?_) (fun (hb : _ = false) => ?_)) <;> (try simp only [n1, n2, n3, n4, n5, n6, n7, n8, n9, n10, n11, n12, n13, n14, n15, n16, reduceCtorEq, n17, n18, n19, n20, n21, n22] at hb) <;> (try (first | (exfalso; omega) | exact bff hb (by assumption) | exact bff (by assumption) hb)))
        | (with_reducible refine Both.mk ?_ ?_)
        | ((with_reducible refine And.intro ?_ ?_); (focus (first | rfl | omega | exact fun _ _ => rfl | assumption | (split <;> omega) | (and_intros <;> first | rfl | omega | (split <;> omega)) | (dsimp only [maxLen]; and_intros <;> omega) | (simp only [n21, n22, m9]; first | omega | (and_intros <;> omega)))))
        | ((with_reducible refine Or.inl ⟨?_, ?_, ?_⟩); (focus rfl); (focus (and_intros <;> first | rfl | omega)))
        | ((with_reducible refine Or.inr (Or.inl ⟨?_, ?_⟩)); focus (and_intros <;> first | rfl | omega))
        | ((with_reducible refine Or.inr (Or.inr (Or.inl ⟨?_, ?_⟩))); focus (and_intros <;> first | rfl | omega))
        | ((with_reducible refine Or.inr (Or.inr (Or.inr ⟨?_, ?_⟩))); focus (and_intros <;> first | rfl | omega))
        | (with_reducible intro hc; (try simp only [capsP, and_true] at hc); (try (exfalso; omega)))
        | ((fail_if_success (with_reducible first | refine And.intro ?_ ?_ | refine Or.inl ?_ | intro _)); (conv => whnf); (fail_if_success (fail_if_success (with_reducible first | apply kL | apply kC | apply kF | apply kM | refine Exists.intro ?_ ?_ | refine Both.mk ?_ ?_ | refine And.intro ?_ ?_ | refine Or.inl ?_ | intro _))))))
    · rename_i i hi
      have e1 : missK (r).W (r).ex (k + 1) = missK (r).W (r).ex k := by
        rw [miss_succ, if_neg (by unfold unk; exact fun h => of_decide_eq_true h i hi (Key.i.inj hc)), List.append_nil]
      refine ⟨⟨⟨k + 1, by omega, by rw [e1]; omega⟩, cc⟩, [0, 1, 2, 3, 4, 5, 6, 7, 8, 9, 10, 11, 12], by simp only; omega, ?_⟩
      simp only [e1]
      (repeat' (first | (refine And.intro ?_ ?_) | exact trivial | rfl | exact Nat.le_refl _ | exact (fun _ _ => rfl) | exact all_one (by rfl) | (simp only [Int.toNat_natCast, Nat.zero_add, Nat.add_zero]; done)))
      all_goals omega
    · rename Nat => c3
      have e1 : missK (r).W (r).ex (k + 1) = missK (r).W (r).ex k ++ [(r).ex + (k : Int)] := by
        rw [miss_succ, if_pos (by unfold unk; exact decide_eq_true fun i hi h => (by assumption : ∀ (i : Nat), i < (r).W.length → (encW (r).W i).2.1 ≠ Key.i ((r).ex + (k : Int))) i hi (by show Key.i _ = Key.i _; rw [h]))]
      refine ⟨⟨⟨k + 1, by omega, by rw [e1, List.length_append, List.length_singleton]; omega⟩, c3⟩, [0, 1, 2, 3, 4, 5, 6, 7, 8, 9, 15, 11, 12], by simp only; omega, ?_⟩
      simp only [e1]
      (repeat' (first | (refine And.intro ?_ ?_) | exact trivial | rfl | exact Nat.le_refl _ | exact (fun _ _ => rfl) | exact all_one (by rfl) | (simp only [Int.toNat_natCast, Nat.zero_add, Nat.add_zero]; done)))
      all_goals first | omega | (simp; done) | (intro i hi; exact app_rowG encI _ _ _ rfl i hi)
    all_goals (
      have e2 : missF (r) x.la = missK (r).W (r).ex k := miss_end hk hm (by omega)
      rw [e2]
      refine FinK.mk ⟨[0, 1, 2, 3, 4, 5, 6, 7, 8, 9, 10, 13], _, _, ⟨c, cl, cc, 1, _, 1, rfl, (fun h => by simp_all), (fun _ => ⟨rfl, rfl⟩), rfl⟩, ?_⟩
      (repeat' (first | (refine And.intro ?_ ?_) | exact trivial | rfl | exact Nat.le_refl _ | exact (fun _ _ => rfl) | exact all_one (by rfl) | (simp only [Int.toNat_natCast, Nat.zero_add, Nat.add_zero]; done)))
      all_goals (
        intro i hi
        obtain rfl : i = 0 := by omega
        rfl))
    )
end Go.Proofs.Ytgcofipbdidhmaa

namespace Go.Proofs.Ytgcofipbdidhmaa
open Go.X
set_option linter.unusedSimpArgs false
set_option linter.unusedVariables false

/-! ### A reader, whole -/
structure Mx where
  (nd ex : Int) (rel : Bool) (W : Win) (ck : Nat)
structure Rd where
  (l : List Smp) (ls : List (Int × Int)) (M : List (Nat × Int)) (ck : Nat) (D : Nat → Option Mx)
def mtG (fw y x : Nat) (o : Option Mx) : Ck :=
  match o with
  | none => .no
  | some m => .cells true [.i .i64 x, .i .i64 m.nd, .i .i64 m.ex, .b m.rel, .mp fw y]
abbrev mtO (fw x : Nat) (o : Option Mx) : Ck := mtG fw x x o
def winO (o : Option Mx) : Ck :=
  match o with
  | none => .no
  | some m => wnd m.W m.ck
abbrev mapM (fm : Nat) (M : List (Nat × Int)) (ck : Nat) : Ck := .map true true ck M.length fun i => ((M.getD i default).1, .i (M.getD i default).2, .c (.p fm (M.getD i default).2.toNat 0))
abbrev mts (fw : Nat) (D : Nat → Option Mx) : Fam := .many fun x => mtO fw x (D x)
abbrev wins (D : Nat → Option Mx) : Fam := .many fun x => winO (D x)
def Rd.get (R : Rd) (w : Int) : Option Mx := if 1 ≤ w then R.D w.toNat else none
def Rd.exp (R : Rd) (w : Int) : Int := match R.get w with | some m => m.ex | none => 0
structure RdOk (R : Rd) : Prop where
  a : ∀ i, i < R.M.length → 1 ≤ (R.M.getD i default).2 ∧ ∃ m, R.D (R.M.getD i default).2.toNat = some m
  b : ∀ x m, R.D x = some m → ∃ i, i < R.M.length ∧ (R.M.getD i default).2 = x ∧ 1 ≤ x

theorem get_yes {R : Rd} (h : RdOk R) {i : Nat} (hi : i < R.M.length) {w : Int} (hk : (R.M.getD i default).2 = w) : ∃ m, R.get w = some m ∧ R.D w.toNat = some m ∧ 1 ≤ w := by
  obtain ⟨h1, m, hm⟩ := h.a i hi
  rw [hk] at h1 hm
  exact ⟨m, by unfold Rd.get; rw [if_pos h1, hm], hm, h1⟩
theorem get_no {R : Rd} (h : RdOk R) {w : Int} (hno : ∀ i, i < R.M.length → (R.M.getD i default).2 ≠ w) : R.get w = none := by
  unfold Rd.get
  split
  · rename_i h1
    cases hD : R.D w.toNat with
    | none => rfl
    | some m =>
      obtain ⟨i, hi, hk, _⟩ := h.b _ _ hD
      exact absurd (hk.trans (Int.toNat_of_nonneg (by omega))) (hno i hi)
  · rfl

theorem mtO_bel {n fw x : Nat} {o : Option Mx} (h : Nat.blt fw n = true) : (mtO fw x o).belK n True := by
  cases o with
  | none => trivial
  | some m => show ifB _ True; simp [C.belB, h, ifB]
theorem winO_bel {n : Nat} {o : Option Mx} : (winO o).belK n True := by
  cases o with
  | none => trivial
  | some m => exact ⟨fun i hi => rfl, trivial⟩

theorem mtG_rk (σ : List Sg) (N fw y x : Nat) (o : Option Mx) : (mtG fw y x o).rk σ N = mtG (key σ N fw y).1 (key σ N fw y).2 x o := by
  cases o with
  | none => rfl
  | some m => simp [mtG, Ck.rk, C.rk]
theorem mtO_rk {σ : List Sg} {N fw fw' x : Nat} {o : Option Mx} (h : key σ N fw x = (fw', x)) : (mtO fw x o).rk σ N = mtO fw' x o := by
  cases o with
  | none => rfl
  | some m => simp [mtO, mtG, Ck.rk, C.rk, h]
theorem winO_rk (σ : List Sg) (N : Nat) (o : Option Mx) : (winO o).rk σ N = winO o := by
  cases o <;> rfl
theorem mtR_bel {σ : List Sg} {n N fw fw' x : Nat} {o : Option Mx} (hk : key σ N fw x = (fw', x)) (h : Nat.blt fw' n = true) : ((mtO fw x o).rk σ N).belK n True := by
  rw [mtO_rk hk]; exact mtO_bel h
theorem winR_bel {σ : List Sg} {n N : Nat} {o : Option Mx} : ((winO o).rk σ N).belK n True := by
  rw [winO_rk]; exact winO_bel
theorem mtO_le {σ : List Sg} {N N' fw fw' x : Nat} {o : Option Mx} (h : key σ N' fw x = (fw', x)) : (mtO fw' x o).leK N ((mtO fw x o).rk σ N') True := by
  rw [mtO_rk h]
  cases o with
  | none => trivial
  | some m => simp [mtO, mtG, Ck.leK, sameB, eqL, C.eqK, sameK, ifB, kNat]
theorem winO_le {σ : List Sg} {N N' : Nat} {o : Option Mx} : (winO o).leK N ((winO o).rk σ N') True := by
  rw [winO_rk]
  cases o with
  | none => trivial
  | some m => exact ⟨rfl, rfl, rfl, rfl, fun _ _ => rfl, trivial⟩

set_option maxRecDepth 10000 in
set_option maxHeartbeats 4000000 in
theorem cexp (id : Int) (q : Qos) (R : Rd) (w : Int) (c cl : Nat) (hR : RdOk R) :
    Ctr Try.prog 17 [.c (.p 0 0 0), .c (.i .i64 w)] [.one (rdr 1 2 3 id q R.ls.length cl), .one .no, .one (mapM 4 R.M R.ck), .one .no, mts 5 R.D, .one .no]
      fun v h => v = .c (.i .i64 (R.exp w)) ∧ h = [.one (rdr 1 2 3 id q R.ls.length cl), .one .no, .one (mapM 4 R.M R.ck), .one .no, mts 5 R.D, .one .no] := by
  refine Ctr.mk' tbv mixed Try.func17 rfl rfl rfl (fun _ _ => by kernel_rfl) (by kernel_rfl) (by rfl) (by rfl) (by (repeat' (first | (refine And.intro ?_ ?_) | exact trivial | rfl | exact Nat.le_refl _ | exact (fun _ _ => rfl) | exact all_one (by rfl) | (simp only [Int.toNat_natCast, Nat.zero_add, Nat.add_zero]; done))) <;> exact fun x => mtO_bel rfl) ?_
  repeat' (first
    | ((fail_if_success (with_reducible first | apply kL | apply kC | apply kF | apply kM | refine Exists.intro ?_ ?_)); first
      | ((with_reducible refine And.intro (fun (hb : _ = true) => ?_) (fun (hb : _ = false) => ?_)) <;> (try simp only [n1, n2, n3, n4, n5, n6, n7, n8, n9, n10, n11, n12, n13, n14, n15, n16, reduceCtorEq, n17, n18, n19, n20, n21, n22] at hb) <;> (try (first | (exfalso; omega) | exact bff hb (by assumption) | exact bff (by assumption) hb)))
      | (with_reducible refine Both.mk ?_ ?_)
      | ((with_reducible refine And.intro ?_ ?_); (focus (first | rfl | omega | exact fun _ _ => rfl | assumption | (split <;> omega) | (and_intros <;> first | rfl | omega | (split <;> omega)) | (dsimp only [maxLen]; and_intros <;> omega) | (simp only [n21, n22, m9]; first | omega | (and_intros <;> omega)))))
      | ((with_reducible refine Or.inl ⟨?_, ?_, ?_⟩); (focus rfl); (focus (and_intros <;> first | rfl | omega)))
      | ((with_reducible refine Or.inr (Or.inl ⟨?_, ?_⟩)); focus (and_intros <;> first | rfl | omega))
      | ((with_reducible refine Or.inr (Or.inr (Or.inl ⟨?_, ?_⟩))); focus (and_intros <;> first | rfl | omega))
      | ((with_reducible refine Or.inr (Or.inr (Or.inr ⟨?_, ?_⟩))); focus (and_intros <;> first | rfl | omega))
      | (with_reducible intro hc; (try simp only [capsP, and_true] at hc); (try (exfalso; omega)))
      | ((fail_if_success (with_reducible first | refine And.intro ?_ ?_ | refine Or.inl ?_ | intro _)); (conv => whnf); (fail_if_success (fail_if_success (with_reducible first | apply kL | apply kC | apply kF | apply kM | refine Exists.intro ?_ ?_ | refine Both.mk ?_ ?_ | refine And.intro ?_ ?_ | refine Or.inl ?_ | intro _))))))
  · rename_i i hi hk j hj
    obtain ⟨m, hm, hD, h1⟩ := get_yes hR hj (Key.i.inj hc)
    have e1 : (R.M.getD j default).2 = w := Key.i.inj hc
    refine ManyK.mk ⟨mtO 5 w.toNat (some m), by simp only [e1, hD], ?_⟩
    repeat' (first
      | ((fail_if_success (with_reducible first | apply kL | apply kC | apply kF | apply kM | refine Exists.intro ?_ ?_)); first
        | ((with_reducible refine And.intro (fun (hb : _ = true) => ?_) (fun (hb : _ = false) => ?_)) <;> (try simp only [n1, n2, n3, n4, n5, n6, n7, n8, n9, n10, n11, n12, n13, n14, n15, n16, reduceCtorEq, n17, n18, n19, n20, n21, n22] at hb) <;> (try (first | (exfalso; omega) | exact bff hb (by assumption) | exact bff (by assumption) hb)))
        | (with_reducible refine Both.mk ?_ ?_)
        | ((with_reducible refine And.intro ?_ ?_); (focus (first | rfl | omega | exact fun _ _ => rfl | assumption | (split <;> omega) | (and_intros <;> first | rfl | omega | (split <;> omega)) | (dsimp only [maxLen]; and_intros <;> omega) | (simp only [n21, n22, m9]; first | omega | (and_intros <;> omega)))))
        | ((with_reducible refine Or.inl ⟨?_, ?_, ?_⟩); (focus rfl); (focus (and_intros <;> first | rfl | omega)))
        | ((with_reducible refine Or.inr (Or.inl ⟨?_, ?_⟩)); focus (and_intros <;> first | rfl | omega))
        | ((with_reducible refine Or.inr (Or.inr (Or.inl ⟨?_, ?_⟩))); focus (and_intros <;> first | rfl | omega))
        | ((with_reducible refine Or.inr (Or.inr (Or.inr ⟨?_, ?_⟩))); focus (and_intros <;> first | rfl | omega))
        | (with_reducible intro hc; (try simp only [capsP, and_true] at hc); (try (exfalso; omega)))
        | ((fail_if_success (with_reducible first | refine And.intro ?_ ?_ | refine Or.inl ?_ | intro _)); (conv => whnf); (fail_if_success (fail_if_success (with_reducible first | apply kL | apply kC | apply kF | apply kM | refine Exists.intro ?_ ?_ | refine Both.mk ?_ ?_ | refine And.intro ?_ ?_ | refine Or.inl ?_ | intro _))))))
    have e2 : R.exp w = m.ex := by unfold Rd.exp; rw [hm]
    rw [e2]
    refine FinK.mk ⟨[0, 1, 2, 3, 4, 5], _, _, ⟨rfl, rfl⟩, ?_⟩; (repeat' (first | (refine And.intro ?_ ?_) | exact trivial | rfl | exact Nat.le_refl _ | exact (fun _ _ => rfl) | exact all_one (by rfl) | (simp only [Int.toNat_natCast, Nat.zero_add, Nat.add_zero]; done)))
    all_goals first | exact fun x => mtO_le rfl | exact fun x => mtO_bel rfl
  · exact absurd (by assumption) (hc _ (by assumption))
  · have hn := get_no hR (w := w) fun i hi h => hc i hi (by rw [h])
    have e2 : R.exp w = 0 := by unfold Rd.exp; rw [hn]
    rw [e2]
    refine FinK.mk ⟨[0, 1, 2, 3, 4, 5], _, _, ⟨rfl, rfl⟩, ?_⟩; (repeat' (first | (refine And.intro ?_ ?_) | exact trivial | rfl | exact Nat.le_refl _ | exact (fun _ _ => rfl) | exact all_one (by rfl) | (simp only [Int.toNat_natCast, Nat.zero_add, Nat.add_zero]; done)))
    all_goals first | exact fun x => mtO_le rfl | exact fun x => mtO_bel rfl

set_option maxRecDepth 10000 in
theorem cwait (id : Int) (q : Qos) (l : List Smp) (n c cl : Nat) :
    Ctr Try.prog 18 [.c (.p 0 0 0)] [.one (rdr 1 2 3 id q n cl), .one (hist 4 q l.length c), .one .no, .one .no, .one (smps true l c)]
      fun v h => v = .c (.i .i64 l.length) ∧ h = [.one (rdr 1 2 3 id q n cl), .one (hist 4 q l.length c), .one .no, .one .no, .one (smps true l c)] := by
  refine Ctr.mk' tbv mixed Try.func18 rfl rfl rfl (fun _ _ => by kernel_rfl) (by kernel_rfl) (by rfl) (by rfl) (by (repeat' (first | (refine And.intro ?_ ?_) | exact trivial | rfl | exact Nat.le_refl _ | exact (fun _ _ => rfl) | exact all_one (by rfl) | (simp only [Int.toNat_natCast, Nat.zero_add, Nat.add_zero]; done)))) ?_
  repeat' (first
    | ((fail_if_success (with_reducible first | apply kL | apply kC | apply kF | apply kM | refine Exists.intro ?_ ?_)); first
      | ((with_reducible refine And.intro (fun (hb : _ = true) => ?_) (fun (hb : _ = false) => ?_)) <;> (try simp only [n1, n2, n3, n4, n5, n6, n7, n8, n9, n10, n11, n12, n13, n14, n15, n16, reduceCtorEq, n17, n18, n19, n20, n21, n22] at hb) <;> (try (first | (exfalso; omega) | exact bff hb (by assumption) | exact bff (by assumption) hb)))
      | (with_reducible refine Both.mk ?_ ?_)
      | ((with_reducible refine And.intro ?_ ?_); (focus (first | rfl | omega | exact fun _ _ => rfl | assumption | (split <;> omega) | (and_intros <;> first | rfl | omega | (split <;> omega)) | (dsimp only [maxLen]; and_intros <;> omega) | (simp only [n21, n22, m9]; first | omega | (and_intros <;> omega)))))
      | ((with_reducible refine Or.inl ⟨?_, ?_, ?_⟩); (focus rfl); (focus (and_intros <;> first | rfl | omega)))
      | ((with_reducible refine Or.inr (Or.inl ⟨?_, ?_⟩)); focus (and_intros <;> first | rfl | omega))
      | ((with_reducible refine Or.inr (Or.inr (Or.inl ⟨?_, ?_⟩))); focus (and_intros <;> first | rfl | omega))
      | ((with_reducible refine Or.inr (Or.inr (Or.inr ⟨?_, ?_⟩))); focus (and_intros <;> first | rfl | omega))
      | (with_reducible intro hc; (try simp only [capsP, and_true] at hc); (try (exfalso; omega)))
      | ((fail_if_success (with_reducible first | refine And.intro ?_ ?_ | refine Or.inl ?_ | intro _)); (conv => whnf); (fail_if_success (fail_if_success (with_reducible first | apply kL | apply kC | apply kF | apply kM | refine Exists.intro ?_ ?_ | refine Both.mk ?_ ?_ | refine And.intro ?_ ?_ | refine Or.inl ?_ | intro _))))))
  refine CallK.mk3 (σ := [.whole 1, .whole 4]) (nl := []) (ilen q l c) rfl rfl (List.append_nil _) (by (try simp only [↓List.length_cons, ↓List.length_nil, Nat.reduceAdd]); rfl) (by (try simp only [↓List.length_cons, ↓List.length_nil, Nat.reduceAdd]); rfl) (by (try simp (maxSteps := 1000000) only [givesF, setF, updF, Fam.zeroth, Fam.rk, Ck.rk, C.rk, E.rk, T.rk, key, List.map_cons, List.map_nil, List.cons_append, List.nil_append, List.length_cons, List.length_nil, Option.map_some, Option.bind_some, Nat.reduceAdd, Nat.zero_add, Nat.add_zero, Nat.add_sub_cancel_left, Int.toNat_natCast, reps, List.all_cons, List.all_nil, C.flat, List.append_eq, Bool.not_true, Bool.and_true, Bool.or_false, Bool.or_self, Bool.not_false, List.append_nil, Bool.and_self]); rfl) (by (repeat' (first | (refine And.intro ?_ ?_) | exact trivial | rfl | exact Nat.le_refl _ | exact (fun _ _ => rfl) | exact all_one (by rfl) | (simp only [Int.toNat_natCast, Nat.zero_add, Nat.add_zero]; done)))) ?_
  rintro v h' ⟨rfl, rfl⟩ hcaps
  refine ret_mk3 (by (try simp only [↓List.length_cons, ↓List.length_nil, Nat.reduceAdd]); rfl) (by (try simp (maxSteps := 1000000) only [givesF, setF, updF, Fam.zeroth, Fam.rk, Ck.rk, C.rk, E.rk, T.rk, key, List.map_cons, List.map_nil, List.cons_append, List.nil_append, List.length_cons, List.length_nil, Option.map_some, Option.bind_some, Nat.reduceAdd, Nat.zero_add, Nat.add_zero, Nat.add_sub_cancel_left, Int.toNat_natCast, reps, List.all_cons, List.all_nil, C.flat, List.append_eq, Bool.not_true, Bool.and_true, Bool.or_false, Bool.or_self, Bool.not_false, List.append_nil, Bool.and_self]); rfl) (by (try simp only [givesF, setF, updF, Fam.zeroth, Fam.rk, Ck.rk, C.rk, E.rk, T.rk, key, List.map_cons, List.map_nil, List.cons_append, List.nil_append, List.length_cons, List.length_nil, Option.map_some, Option.bind_some, Nat.reduceAdd, Nat.zero_add, Nat.add_zero, Nat.add_sub_cancel_left, Int.toNat_natCast, reps, List.all_cons, List.all_nil, C.flat, List.append_eq, Bool.not_true, Bool.and_true, Bool.or_false, Bool.or_self, Bool.not_false, List.append_nil, Bool.and_self]); rfl) ?_
  repeat' (first
    | ((fail_if_success (with_reducible first | apply kL | apply kC | apply kF | apply kM | refine Exists.intro ?_ ?_)); first
      | ((with_reducible refine And.intro (fun (hb : _ = true) => ?_) (fun (hb : _ = false) => ?_)) <;> (try simp only [n1, n2, n3, n4, n5, n6, n7, n8, n9, n10, n11, n12, n13, n14, n15, n16, reduceCtorEq, n17, n18, n19, n20, n21, n22] at hb) <;> (try (first | (exfalso; omega) | exact bff hb (by assumption) | exact bff (by assumption) hb)))
      | (with_reducible refine Both.mk ?_ ?_)
      | ((with_reducible refine And.intro ?_ ?_); (focus (first | rfl | omega | exact fun _ _ => rfl | assumption | (split <;> omega) | (and_intros <;> first | rfl | omega | (split <;> omega)) | (dsimp only [maxLen]; and_intros <;> omega) | (simp only [n21, n22, m9]; first | omega | (and_intros <;> omega)))))
      | ((with_reducible refine Or.inl ⟨?_, ?_, ?_⟩); (focus rfl); (focus (and_intros <;> first | rfl | omega)))
      | ((with_reducible refine Or.inr (Or.inl ⟨?_, ?_⟩)); focus (and_intros <;> first | rfl | omega))
      | ((with_reducible refine Or.inr (Or.inr (Or.inl ⟨?_, ?_⟩))); focus (and_intros <;> first | rfl | omega))
      | ((with_reducible refine Or.inr (Or.inr (Or.inr ⟨?_, ?_⟩))); focus (and_intros <;> first | rfl | omega))
      | (with_reducible intro hc; (try simp only [capsP, and_true] at hc); (try (exfalso; omega)))
      | ((fail_if_success (with_reducible first | refine And.intro ?_ ?_ | refine Or.inl ?_ | intro _)); (conv => whnf); (fail_if_success (fail_if_success (with_reducible first | apply kL | apply kC | apply kF | apply kM | refine Exists.intro ?_ ?_ | refine Both.mk ?_ ?_ | refine And.intro ?_ ?_ | refine Or.inl ?_ | intro _))))))
  refine FinK.mk ⟨[0, 1, 2, 3, 4], _, _, ⟨rfl, rfl⟩, ?_⟩; (repeat' (first | (refine And.intro ?_ ?_) | exact trivial | rfl | exact Nat.le_refl _ | exact (fun _ _ => rfl) | exact all_one (by rfl) | (simp only [Int.toNat_natCast, Nat.zero_add, Nat.add_zero]; done)))

set_option maxRecDepth 10000 in
theorem cclone (wa : Bool) (l : List (Int × Int)) (c : Nat) (hl : l.length ≤ 1000000) :
    Ctr Try.prog 38 [.c (.sl 0 0 2 0 l.length c)] [.one (lss wa l c)]
      fun v h => ∃ c', v = .c (.sl 1 0 2 0 l.length c') ∧ h = [.one (lss wa l c), .one (lss true l c')] := by
  refine Ctr.mk' tbv mixed Try.func38 rfl rfl rfl (fun _ _ => by kernel_rfl) (by kernel_rfl) (by rfl) (by rfl) (by (repeat' (first | (refine And.intro ?_ ?_) | exact trivial | rfl | exact Nat.le_refl _ | exact (fun _ _ => rfl) | exact all_one (by rfl) | (simp only [Int.toNat_natCast, Nat.zero_add, Nat.add_zero]; done)))) ?_
  repeat' (first
    | ((fail_if_success (with_reducible first | apply kL | apply kC | apply kF | apply kM | refine Exists.intro ?_ ?_)); first
      | ((with_reducible refine And.intro (fun (hb : _ = true) => ?_) (fun (hb : _ = false) => ?_)) <;> (try simp only [n1, n2, n3, n4, n5, n6, n7, n8, n9, n10, n11, n12, n13, n14, n15, n16, reduceCtorEq, n17, n18, n19, n20, n21, n22] at hb) <;> (try (first | (exfalso; omega) | exact bff hb (by assumption) | exact bff (by assumption) hb)))
      | (with_reducible refine Both.mk ?_ ?_)
      | ((with_reducible refine And.intro ?_ ?_); (focus (first | rfl | omega | exact fun _ _ => rfl | assumption | (split <;> omega) | (and_intros <;> first | rfl | omega | (split <;> omega)) | (dsimp only [maxLen]; and_intros <;> omega) | (simp only [n21, n22, m9]; first | omega | (and_intros <;> omega)))))
      | ((with_reducible refine Or.inl ⟨?_, ?_, ?_⟩); (focus rfl); (focus (and_intros <;> first | rfl | omega)))
      | ((with_reducible refine Or.inr (Or.inl ⟨?_, ?_⟩)); focus (and_intros <;> first | rfl | omega))
      | ((with_reducible refine Or.inr (Or.inr (Or.inl ⟨?_, ?_⟩))); focus (and_intros <;> first | rfl | omega))
      | ((with_reducible refine Or.inr (Or.inr (Or.inr ⟨?_, ?_⟩))); focus (and_intros <;> first | rfl | omega))
      | (with_reducible intro hc; (try simp only [capsP, and_true] at hc); (try (exfalso; omega)))
      | ((fail_if_success (with_reducible first | refine And.intro ?_ ?_ | refine Or.inl ?_ | intro _)); (conv => whnf); (fail_if_success (fail_if_success (with_reducible first | apply kL | apply kC | apply kF | apply kM | refine Exists.intro ?_ ?_ | refine Both.mk ?_ ?_ | refine And.intro ?_ ?_ | refine Or.inl ?_ | intro _))))))
  · have h0 : c = 0 := ‹_ → c = 0› ‹_›
    have : l = [] := List.eq_nil_of_length_eq_zero (by omega)
    subst this
    refine FinK.mk ⟨[0, 7], _, _, ⟨0, rfl, rfl⟩, ?_⟩
    (repeat' (first | (refine And.intro ?_ ?_) | exact trivial | rfl | exact Nat.le_refl _ | exact (fun _ _ => rfl) | exact all_one (by rfl) | (simp only [Int.toNat_natCast, Nat.zero_add, Nat.add_zero]; done)))
    all_goals skip
  · rename_i c2
    refine FinK.mk ⟨[0, 2], _, _, ⟨c2, rfl, rfl⟩, ?_⟩
    (repeat' (first | (refine And.intro ?_ ?_) | exact trivial | rfl | exact Nat.le_refl _ | exact (fun _ _ => rfl) | exact all_one (by rfl) | (simp only [Int.toNat_natCast, Nat.zero_add, Nat.add_zero]; done)))
    · omega
    · intro i hi
      unfold appF
      rw [if_neg (by omega)]
      simp

set_option maxRecDepth 10000 in
set_option maxHeartbeats 4000000 in
theorem closses (id : Int) (q : Qos) (ls : List (Int × Int)) (cl : Nat) (hls : ls.length ≤ 1000000) :
    Ctr Try.prog 16 [.c (.p 0 0 0)] [.one (rdr 1 2 3 id q ls.length cl), .one .no, .one .no, .one (lss true ls cl)]
      fun v h => ∃ c', v = .c (.sl 5 0 2 0 ls.length c') ∧ h = [.one (rdr 1 2 4 id q 0 0), .one .no, .one .no, .one .no, .one (lss true [] 0), .one (lss true ls c')] := by
  refine Ctr.mk' tbv mixed Try.func16 rfl rfl rfl (fun _ _ => by kernel_rfl) (by kernel_rfl) (by rfl) (by rfl) (by (repeat' (first | (refine And.intro ?_ ?_) | exact trivial | rfl | exact Nat.le_refl _ | exact (fun _ _ => rfl) | exact all_one (by rfl) | (simp only [Int.toNat_natCast, Nat.zero_add, Nat.add_zero]; done)))) ?_
  repeat' (first
    | ((fail_if_success (with_reducible first | apply kL | apply kC | apply kF | apply kM | refine Exists.intro ?_ ?_)); first
      | ((with_reducible refine And.intro (fun (hb : _ = true) => ?_) (fun (hb : _ = false) => ?_)) <;> (try simp only [n1, n2, n3, n4, n5, n6, n7, n8, n9, n10, n11, n12, n13, n14, n15, n16, reduceCtorEq, n17, n18, n19, n20, n21, n22] at hb) <;> (try (first | (exfalso; omega) | exact bff hb (by assumption) | exact bff (by assumption) hb)))
      | (with_reducible refine Both.mk ?_ ?_)
      | ((with_reducible refine And.intro ?_ ?_); (focus (first | rfl | omega | exact fun _ _ => rfl | assumption | (split <;> omega) | (and_intros <;> first | rfl | omega | (split <;> omega)) | (dsimp only [maxLen]; and_intros <;> omega) | (simp only [n21, n22, m9]; first | omega | (and_intros <;> omega)))))
      | ((with_reducible refine Or.inl ⟨?_, ?_, ?_⟩); (focus rfl); (focus (and_intros <;> first | rfl | omega)))
      | ((with_reducible refine Or.inr (Or.inl ⟨?_, ?_⟩)); focus (and_intros <;> first | rfl | omega))
      | ((with_reducible refine Or.inr (Or.inr (Or.inl ⟨?_, ?_⟩))); focus (and_intros <;> first | rfl | omega))
      | ((with_reducible refine Or.inr (Or.inr (Or.inr ⟨?_, ?_⟩))); focus (and_intros <;> first | rfl | omega))
      | (with_reducible intro hc; (try simp only [capsP, and_true] at hc); (try (exfalso; omega)))
      | ((fail_if_success (with_reducible first | refine And.intro ?_ ?_ | refine Or.inl ?_ | intro _)); (conv => whnf); (fail_if_success (fail_if_success (with_reducible first | apply kL | apply kC | apply kF | apply kM | refine Exists.intro ?_ ?_ | refine Both.mk ?_ ?_ | refine And.intro ?_ ?_ | refine Or.inl ?_ | intro _))))))
  refine CallK.mk3 (σ := [.whole 3]) (nl := []) (cclone true ls cl hls) rfl rfl (List.append_nil _) (by (try simp only [↓List.length_cons, ↓List.length_nil, Nat.reduceAdd]); rfl) (by (try simp only [↓List.length_cons, ↓List.length_nil, Nat.reduceAdd]); rfl) (by (try simp (maxSteps := 1000000) only [givesF, setF, updF, Fam.zeroth, Fam.rk, Ck.rk, C.rk, E.rk, T.rk, key, List.map_cons, List.map_nil, List.cons_append, List.nil_append, List.length_cons, List.length_nil, Option.map_some, Option.bind_some, Nat.reduceAdd, Nat.zero_add, Nat.add_zero, Nat.add_sub_cancel_left, Int.toNat_natCast, reps, List.all_cons, List.all_nil, C.flat, List.append_eq, Bool.not_true, Bool.and_true, Bool.or_false, Bool.or_self, Bool.not_false, List.append_nil, Bool.and_self]); rfl) (by (repeat' (first | (refine And.intro ?_ ?_) | exact trivial | rfl | exact Nat.le_refl _ | exact (fun _ _ => rfl) | exact all_one (by rfl) | (simp only [Int.toNat_natCast, Nat.zero_add, Nat.add_zero]; done)))) ?_
  rintro v h' ⟨c', rfl, rfl⟩ hcaps
  refine ret_mk3 (by (try simp only [↓List.length_cons, ↓List.length_nil, Nat.reduceAdd]); rfl) (by (try simp (maxSteps := 1000000) only [givesF, setF, updF, Fam.zeroth, Fam.rk, Ck.rk, C.rk, E.rk, T.rk, key, List.map_cons, List.map_nil, List.cons_append, List.nil_append, List.length_cons, List.length_nil, Option.map_some, Option.bind_some, Nat.reduceAdd, Nat.zero_add, Nat.add_zero, Nat.add_sub_cancel_left, Int.toNat_natCast, reps, List.all_cons, List.all_nil, C.flat, List.append_eq, Bool.not_true, Bool.and_true, Bool.or_false, Bool.or_self, Bool.not_false, List.append_nil, Bool.and_self]); rfl) (by (try simp only [givesF, setF, updF, Fam.zeroth, Fam.rk, Ck.rk, C.rk, E.rk, T.rk, key, List.map_cons, List.map_nil, List.cons_append, List.nil_append, List.length_cons, List.length_nil, Option.map_some, Option.bind_some, Nat.reduceAdd, Nat.zero_add, Nat.add_zero, Nat.add_sub_cancel_left, Int.toNat_natCast, reps, List.all_cons, List.all_nil, C.flat, List.append_eq, Bool.not_true, Bool.and_true, Bool.or_false, Bool.or_self, Bool.not_false, List.append_nil, Bool.and_self]); rfl) ?_
  repeat' (first
    | ((fail_if_success (with_reducible first | apply kL | apply kC | apply kF | apply kM | refine Exists.intro ?_ ?_)); first
      | ((with_reducible refine And.intro (fun (hb : _ = true) => ?_) (fun (hb : _ = false) => ?_)) <;> (try simp only [n1, n2, n3, n4, n5, n6, n7, n8, n9, n10, n11, n12, n13, n14, n15, n16, reduceCtorEq, n17, n18, n19, n20, n21, n22] at hb) <;> (try (first | (exfalso; omega) | exact bff hb (by assumption) | exact bff (by assumption) hb)))
      | (with_reducible refine Both.mk ?_ ?_)
      | ((with_reducible refine And.intro ?_ ?_); (focus (first | rfl | omega | exact fun _ _ => rfl | assumption | (split <;> omega) | (and_intros <;> first | rfl | omega | (split <;> omega)) | (dsimp only [maxLen]; and_intros <;> omega) | (simp only [n21, n22, m9]; first | omega | (and_intros <;> omega)))))
      | ((with_reducible refine Or.inl ⟨?_, ?_, ?_⟩); (focus rfl); (focus (and_intros <;> first | rfl | omega)))
      | ((with_reducible refine Or.inr (Or.inl ⟨?_, ?_⟩)); focus (and_intros <;> first | rfl | omega))
      | ((with_reducible refine Or.inr (Or.inr (Or.inl ⟨?_, ?_⟩))); focus (and_intros <;> first | rfl | omega))
      | ((with_reducible refine Or.inr (Or.inr (Or.inr ⟨?_, ?_⟩))); focus (and_intros <;> first | rfl | omega))
      | (with_reducible intro hc; (try simp only [capsP, and_true] at hc); (try (exfalso; omega)))
      | ((fail_if_success (with_reducible first | refine And.intro ?_ ?_ | refine Or.inl ?_ | intro _)); (conv => whnf); (fail_if_success (fail_if_success (with_reducible first | apply kL | apply kC | apply kF | apply kM | refine Exists.intro ?_ ?_ | refine Both.mk ?_ ?_ | refine And.intro ?_ ?_ | refine Or.inl ?_ | intro _))))))
  refine FinK.mk ⟨[0, 1, 2, 3, 99, 4], _, _, ⟨c', rfl, rfl⟩, ?_⟩
  (repeat' (first | (refine And.intro ?_ ?_) | exact trivial | rfl | exact Nat.le_refl _ | exact (fun _ _ => rfl) | exact all_one (by rfl) | (simp only [Int.toNat_natCast, Nat.zero_add, Nat.add_zero]; done)))

def tkN (l : List Smp) (most : Int) : Nat := (min (l.length : Int) most).toNat
def restF (l : List Smp) (k : Nat) : List Smp := (l.take k).foldl (fun m s => m.filter fun x => !isS s.w s.q x) l

theorem rest_succ (l : List Smp) {k : Nat} (hk : k < l.length) : restF l (k + 1) = (restF l k).filter fun x => !isS (l.getD k default).w (l.getD k default).q x := by
  unfold restF
  rw [← List.take_append_getElem hk, List.foldl_append, getD_at hk]
  rfl
theorem rest_len (l : List Smp) (k : Nat) : (restF l k).length ≤ l.length := by
  unfold restF
  generalize l.take k = t
  suffices ∀ m : List Smp, m.length ≤ l.length → (t.foldl (fun m s => m.filter fun x => !isS s.w s.q x) m).length ≤ l.length from this l (Nat.le_refl _)
  induction t with
  | nil => intro m h; exact h
  | cons a t ih =>
    intro m h
    exact ih _ (Nat.le_trans (List.length_filter_le _ _) h)

set_option maxRecDepth 10000 in
set_option maxHeartbeats 4000000 in
theorem ctake (id : Int) (q : Qos) (l : List Smp) (n c cl : Nat) (at' most : Int) (hl : l.length ≤ 1000000) :
    Ctr Try.prog 15 [.c (.p 0 0 0), .c (.i .i64 at'), .c (.i .i64 most)] [.one (rdr 1 2 3 id q n cl), .one (hist 4 q l.length c), .one .no, .one .no, .one (smps true l c)]
      fun v h => ∃ c' co, v = .c (.sl 6 0 4 0 (l.take (tkN l most)).length co) ∧ h = [.one (rdr 1 2 3 id q n cl), .one (hist 5 q (restF l (tkN l most)).length c'), .one .no, .one .no, .one .no, .one (smps true (restF l (tkN l most)) c'), .one (smps true (l.take (tkN l most)) co)] := by
  refine Ctr.mk' tbv mixed Try.func15 rfl rfl rfl (fun _ _ => by kernel_rfl) (by kernel_rfl) (by rfl) (by rfl) (by (repeat' (first | (refine And.intro ?_ ?_) | exact trivial | rfl | exact Nat.le_refl _ | exact (fun _ _ => rfl) | exact all_one (by rfl) | (simp only [Int.toNat_natCast, Nat.zero_add, Nat.add_zero]; done)))) ?_
  repeat' (first
    | ((fail_if_success (with_reducible first | apply kL | apply kC | apply kF | apply kM | refine Exists.intro ?_ ?_)); first
      | ((with_reducible refine And.intro (fun (hb : _ = true) => ?_) (fun (hb : _ = false) => ?_)) <;> (try simp only [n1, n2, n3, n4, n5, n6, n7, n8, n9, n10, n11, n12, n13, n14, n15, n16, reduceCtorEq, n17, n18, n19, n20, n21, n22] at hb) <;> (try (first | (exfalso; omega) | exact bff hb (by assumption) | exact bff (by assumption) hb)))
      | (with_reducible refine Both.mk ?_ ?_)
      | ((with_reducible refine And.intro ?_ ?_); (focus (first | rfl | omega | exact fun _ _ => rfl | assumption | (split <;> omega) | (and_intros <;> first | rfl | omega | (split <;> omega)) | (dsimp only [maxLen]; and_intros <;> omega) | (simp only [n21, n22, m9]; first | omega | (and_intros <;> omega)))))
      | ((with_reducible refine Or.inl ⟨?_, ?_, ?_⟩); (focus rfl); (focus (and_intros <;> first | rfl | omega)))
      | ((with_reducible refine Or.inr (Or.inl ⟨?_, ?_⟩)); focus (and_intros <;> first | rfl | omega))
      | ((with_reducible refine Or.inr (Or.inr (Or.inl ⟨?_, ?_⟩))); focus (and_intros <;> first | rfl | omega))
      | ((with_reducible refine Or.inr (Or.inr (Or.inr ⟨?_, ?_⟩))); focus (and_intros <;> first | rfl | omega))
      | (with_reducible intro hc; (try simp only [capsP, and_true] at hc); (try (exfalso; omega)))
      | ((fail_if_success (with_reducible first | refine And.intro ?_ ?_ | refine Or.inl ?_ | intro _)); (conv => whnf); (fail_if_success (fail_if_success (with_reducible first | apply kL | apply kC | apply kF | apply kM | refine Exists.intro ?_ ?_ | refine Both.mk ?_ ?_ | refine And.intro ?_ ?_ | refine Or.inl ?_ | intro _))))))
  · have e1 : tkN l most = 0 := by unfold tkN; omega
    rw [e1]
    refine FinK.mk ⟨[0, 1, 2, 3, 4, 4, 99], _, _, ⟨c, 0, rfl, rfl⟩, ?_⟩
    (repeat' (first | (refine And.intro ?_ ?_) | exact trivial | rfl | exact Nat.le_refl _ | exact (fun _ _ => rfl) | exact all_one (by rfl) | (simp only [Int.toNat_natCast, Nat.zero_add, Nat.add_zero]; done)))
  refine CallK.mk3 (σ := [.whole 1, .whole 4]) (nl := []) (ilist q l c hl) rfl rfl (List.append_nil _) (by (try simp only [↓List.length_cons, ↓List.length_nil, Nat.reduceAdd]); rfl) (by (try simp only [↓List.length_cons, ↓List.length_nil, Nat.reduceAdd]); rfl) (by (try simp (maxSteps := 1000000) only [givesF, setF, updF, Fam.zeroth, Fam.rk, Ck.rk, C.rk, E.rk, T.rk, key, List.map_cons, List.map_nil, List.cons_append, List.nil_append, List.length_cons, List.length_nil, Option.map_some, Option.bind_some, Nat.reduceAdd, Nat.zero_add, Nat.add_zero, Nat.add_sub_cancel_left, Int.toNat_natCast, reps, List.all_cons, List.all_nil, C.flat, List.append_eq, Bool.not_true, Bool.and_true, Bool.or_false, Bool.or_self, Bool.not_false, List.append_nil, Bool.and_self]); rfl) (by (repeat' (first | (refine And.intro ?_ ?_) | exact trivial | rfl | exact Nat.le_refl _ | exact (fun _ _ => rfl) | exact all_one (by rfl) | (simp only [Int.toNat_natCast, Nat.zero_add, Nat.add_zero]; done)))) ?_
  rintro v h' ⟨c', rfl, rfl⟩ hcaps
  have hc' : l.length ≤ c' := hcaps.2.1
  refine ret_mk3 (by (try simp only [↓List.length_cons, ↓List.length_nil, Nat.reduceAdd]); rfl) (by (try simp (maxSteps := 1000000) only [givesF, setF, updF, Fam.zeroth, Fam.rk, Ck.rk, C.rk, E.rk, T.rk, key, List.map_cons, List.map_nil, List.cons_append, List.nil_append, List.length_cons, List.length_nil, Option.map_some, Option.bind_some, Nat.reduceAdd, Nat.zero_add, Nat.add_zero, Nat.add_sub_cancel_left, Int.toNat_natCast, reps, List.all_cons, List.all_nil, C.flat, List.append_eq, Bool.not_true, Bool.and_true, Bool.or_false, Bool.or_self, Bool.not_false, List.append_nil, Bool.and_self]); rfl) (by (try simp only [givesF, setF, updF, Fam.zeroth, Fam.rk, Ck.rk, C.rk, E.rk, T.rk, key, List.map_cons, List.map_nil, List.cons_append, List.nil_append, List.length_cons, List.length_nil, Option.map_some, Option.bind_some, Nat.reduceAdd, Nat.zero_add, Nat.add_zero, Nat.add_sub_cancel_left, Int.toNat_natCast, reps, List.all_cons, List.all_nil, C.flat, List.append_eq, Bool.not_true, Bool.and_true, Bool.or_false, Bool.or_self, Bool.not_false, List.append_nil, Bool.and_self]); rfl) ?_
  repeat' (first
    | ((fail_if_success (with_reducible first | apply kL | apply kC | apply kF | apply kM | refine Exists.intro ?_ ?_)); first
      | ((with_reducible refine And.intro (fun (hb : _ = true) => ?_) (fun (hb : _ = false) => ?_)) <;> (try simp only [n1, n2, n3, n4, n5, n6, n7, n8, n9, n10, n11, n12, n13, n14, n15, n16, reduceCtorEq, n17, n18, n19, n20, n21, n22] at hb) <;> (try (first | (exfalso; omega) | exact bff hb (by assumption) | exact bff (by assumption) hb)))
      | (with_reducible refine Both.mk ?_ ?_)
      | ((with_reducible refine And.intro ?_ ?_); (focus (first | rfl | omega | exact fun _ _ => rfl | assumption | (split <;> omega) | (and_intros <;> first | rfl | omega | (split <;> omega)) | (dsimp only [maxLen]; and_intros <;> omega) | (simp only [n21, n22, m9]; first | omega | (and_intros <;> omega)))))
      | ((with_reducible refine Or.inl ⟨?_, ?_, ?_⟩); (focus rfl); (focus (and_intros <;> first | rfl | omega)))
      | ((with_reducible refine Or.inr (Or.inl ⟨?_, ?_⟩)); focus (and_intros <;> first | rfl | omega))
      | ((with_reducible refine Or.inr (Or.inr (Or.inl ⟨?_, ?_⟩))); focus (and_intros <;> first | rfl | omega))
      | ((with_reducible refine Or.inr (Or.inr (Or.inr ⟨?_, ?_⟩))); focus (and_intros <;> first | rfl | omega))
      | (with_reducible intro hc; (try simp only [capsP, and_true] at hc); (try (exfalso; omega)))
      | ((fail_if_success (with_reducible first | refine And.intro ?_ ?_ | refine Or.inl ?_ | intro _)); (conv => whnf); (fail_if_success (fail_if_success (with_reducible first | apply kL | apply kC | apply kF | apply kM | refine Exists.intro ?_ ?_ | refine Both.mk ?_ ?_ | refine And.intro ?_ ?_ | refine Or.inl ?_ | intro _))))))
  generalize hK : tkN l most = K
  have eK : (min (l.length : Int) most).toNat = K := hK
  have hKl : K ≤ l.length := by omega
  rw [List.length_take, Nat.min_eq_left hKl]
  simp only [eK]
  refine LoopK.mk' ({k : Nat // k ≤ K} × Nat)
    (fun ⟨⟨k, _⟩, cc⟩ => ⟨[(0, .c (.p 0 0 0)), (7, .c (.sl 5 0 4 0 K c')), (27, .c (.sl 5 0 4 0 K c')), (28, .c (.i .i64 K)), (29, .c (.i .i64 k))],
      [.one (rdr 1 2 3 id q n cl), .one (hist 6 q (restF l k).length cc), .one .no, .one .no, .one .no, .one (smps true l c'), .one (smps true (restF l k) cc)]⟩)
    (fun k => K - k.1.1)
    ⟨⟨⟨0, Nat.zero_le _⟩, c⟩, [0, 1, 2, 3, 4, 5, 4], ?_⟩ ?_
  · (repeat' (first | (refine And.intro ?_ ?_) | exact trivial | rfl | exact Nat.le_refl _ | exact (fun _ _ => rfl) | exact all_one (by rfl) | (simp only [Int.toNat_natCast, Nat.zero_add, Nat.add_zero]; done)))
  rintro ⟨⟨k, hk⟩, cc⟩
  have hrl := rest_len l k
  repeat' (first
    | ((fail_if_success (with_reducible first | apply kL | apply kC | apply kF | apply kM | refine Exists.intro ?_ ?_)); first
      | ((with_reducible refine And.intro (fun (hb : _ = true) => ?_) (fun (hb : _ = false) => ?_)) <;> (try simp only [n1, n2, n3, n4, n5, n6, n7, n8, n9, n10, n11, n12, n13, n14, n15, n16, reduceCtorEq, n17, n18, n19, n20, n21, n22] at hb) <;> (try (first | (exfalso; omega) | exact bff hb (by assumption) | exact bff (by assumption) hb)))
      | (with_reducible refine Both.mk ?_ ?_)
      | ((with_reducible refine And.intro ?_ ?_); (focus (first | rfl | omega | exact fun _ _ => rfl | assumption | (split <;> omega) | (and_intros <;> first | rfl | omega | (split <;> omega)) | (dsimp only [maxLen]; and_intros <;> omega) | (simp only [n21, n22, m9]; first | omega | (and_intros <;> omega)))))
      | ((with_reducible refine Or.inl ⟨?_, ?_, ?_⟩); (focus rfl); (focus (and_intros <;> first | rfl | omega)))
      | ((with_reducible refine Or.inr (Or.inl ⟨?_, ?_⟩)); focus (and_intros <;> first | rfl | omega))
      | ((with_reducible refine Or.inr (Or.inr (Or.inl ⟨?_, ?_⟩))); focus (and_intros <;> first | rfl | omega))
      | ((with_reducible refine Or.inr (Or.inr (Or.inr ⟨?_, ?_⟩))); focus (and_intros <;> first | rfl | omega))
      | (with_reducible intro hc; (try simp only [capsP, and_true] at hc); (try (exfalso; omega)))
      | ((fail_if_success (with_reducible first | refine And.intro ?_ ?_ | refine Or.inl ?_ | intro _)); (conv => whnf); (fail_if_success (fail_if_success (with_reducible first | apply kL | apply kC | apply kF | apply kM | refine Exists.intro ?_ ?_ | refine Both.mk ?_ ?_ | refine And.intro ?_ ?_ | refine Or.inl ?_ | intro _))))))
  · simp only [Int.toNat_natCast, Nat.zero_add]
    refine CallK.mk3 (σ := [.whole 1, .whole 6]) (nl := []) (iremove q (restF l k) cc (l.getD k default).w (l.getD k default).q (by omega)) rfl rfl (List.append_nil _) (by (try simp only [↓List.length_cons, ↓List.length_nil, Nat.reduceAdd]); rfl) (by (try simp only [↓List.length_cons, ↓List.length_nil, Nat.reduceAdd]); rfl) (by (try simp (maxSteps := 1000000) only [givesF, setF, updF, Fam.zeroth, Fam.rk, Ck.rk, C.rk, E.rk, T.rk, key, List.map_cons, List.map_nil, List.cons_append, List.nil_append, List.length_cons, List.length_nil, Option.map_some, Option.bind_some, Nat.reduceAdd, Nat.zero_add, Nat.add_zero, Nat.add_sub_cancel_left, Int.toNat_natCast, reps, List.all_cons, List.all_nil, C.flat, List.append_eq, Bool.not_true, Bool.and_true, Bool.or_false, Bool.or_self, Bool.not_false, List.append_nil, Bool.and_self]); rfl) (by (repeat' (first | (refine And.intro ?_ ?_) | exact trivial | rfl | exact Nat.le_refl _ | exact (fun _ _ => rfl) | exact all_one (by rfl) | (simp only [Int.toNat_natCast, Nat.zero_add, Nat.add_zero]; done)))) ?_
    rintro v h' ⟨c2, rfl, rfl⟩ hcaps
    refine ret_mk3 (by (try simp only [↓List.length_cons, ↓List.length_nil, Nat.reduceAdd]); rfl) (by (try simp (maxSteps := 1000000) only [givesF, setF, updF, Fam.zeroth, Fam.rk, Ck.rk, C.rk, E.rk, T.rk, key, List.map_cons, List.map_nil, List.cons_append, List.nil_append, List.length_cons, List.length_nil, Option.map_some, Option.bind_some, Nat.reduceAdd, Nat.zero_add, Nat.add_zero, Nat.add_sub_cancel_left, Int.toNat_natCast, reps, List.all_cons, List.all_nil, C.flat, List.append_eq, Bool.not_true, Bool.and_true, Bool.or_false, Bool.or_self, Bool.not_false, List.append_nil, Bool.and_self]); rfl) (by (try simp only [givesF, setF, updF, Fam.zeroth, Fam.rk, Ck.rk, C.rk, E.rk, T.rk, key, List.map_cons, List.map_nil, List.cons_append, List.nil_append, List.length_cons, List.length_nil, Option.map_some, Option.bind_some, Nat.reduceAdd, Nat.zero_add, Nat.add_zero, Nat.add_sub_cancel_left, Int.toNat_natCast, reps, List.all_cons, List.all_nil, C.flat, List.append_eq, Bool.not_true, Bool.and_true, Bool.or_false, Bool.or_self, Bool.not_false, List.append_nil, Bool.and_self]); rfl) ?_
    repeat' (first
      | ((fail_if_success (with_reducible first | apply kL | apply kC | apply kF | apply kM | refine Exists.intro ?_ ?_)); first
        | ((with_reducible refine And.intro (fun (hb : _ = true) => ?_) (fun (hb : _ = false) => ?_)) <;> (try simp only [n1, n2, n3, n4, n5, n6, n7, n8, n9, n10, n11, n12, n13, n14, n15, n16, reduceCtorEq, n17, n18, n19, n20, n21, n22] at hb) <;> (try (first | (exfalso; omega) | exact bff hb (by assumption) | exact bff (by assumption) hb)))
        | (with_reducible refine Both.mk ?_ ?_)
        | ((with_reducible refine And.intro ?_ ?_); (focus (first | rfl | omega | exact fun _ _ => rfl | assumption | (split <;> omega) | (and_intros <;> first | rfl | omega | (split <;> omega)) | (dsimp only [maxLen]; and_intros <;> omega) | (simp only [n21, n22, m9]; first | omega | (and_intros <;> omega)))))
        | ((with_reducible refine Or.inl ⟨?_, ?_, ?_⟩); (focus rfl); (focus (and_intros <;> first | rfl | omega)))
        | ((with_reducible refine Or.inr (Or.inl ⟨?_, ?_⟩)); focus (and_intros <;> first | rfl | omega))
        | ((with_reducible refine Or.inr (Or.inr (Or.inl ⟨?_, ?_⟩))); focus (and_intros <;> first | rfl | omega))
        | ((with_reducible refine Or.inr (Or.inr (Or.inr ⟨?_, ?_⟩))); focus (and_intros <;> first | rfl | omega))
        | (with_reducible intro hc; (try simp only [capsP, and_true] at hc); (try (exfalso; omega)))
        | ((fail_if_success (with_reducible first | refine And.intro ?_ ?_ | refine Or.inl ?_ | intro _)); (conv => whnf); (fail_if_success (fail_if_success (with_reducible first | apply kL | apply kC | apply kF | apply kM | refine Exists.intro ?_ ?_ | refine Both.mk ?_ ?_ | refine And.intro ?_ ?_ | refine Or.inl ?_ | intro _))))))
    refine ⟨⟨⟨k + 1, by omega⟩, c2⟩, [0, 1, 2, 3, 4, 5, 8], by simp only; omega, ?_⟩
    simp only [rest_succ l (show k < l.length by omega)]
    (repeat' (first | (refine And.intro ?_ ?_) | exact trivial | rfl | exact Nat.le_refl _ | exact (fun _ _ => rfl) | exact all_one (by rfl) | (simp only [Int.toNat_natCast, Nat.zero_add, Nat.add_zero]; done)))
  · have ek : k = K := by omega
    subst ek
    refine FinK.mk ⟨[0, 1, 2, 3, 4, 6, 5], _, _, ⟨cc, c', rfl, rfl⟩, ?_⟩
    (repeat' (first | (refine And.intro ?_ ?_) | exact trivial | rfl | exact Nat.le_refl _ | exact (fun _ _ => rfl) | exact all_one (by rfl) | (simp only [Int.toNat_natCast, Nat.zero_add, Nat.add_zero]; done)))
    all_goals first
      | (rw [List.length_take]; omega)
      | (intro i hi
         rw [List.length_take] at hi
         unfold rowOf
         congr 1
         simp only [List.getD]
         rw [List.getElem?_take_of_lt (by omega)])
      | (intro i hi; rw [List.length_take] at hi; simp [rowOf, List.getD, List.getElem?_take]; omega)
end Go.Proofs.Ytgcofipbdidhmaa
