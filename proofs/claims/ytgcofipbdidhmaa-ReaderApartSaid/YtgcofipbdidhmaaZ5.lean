/- Part 5 of the texts that a walk of this program rests on: an abstract machine, its soundness, contracts of functions. No statement of the seat is proved in this file. -/
import Derived.Test.YtgcofipbdidhmaaZ4
namespace Go.Proofs.Ytgcofipbdidhmaa
open Go.X
set_option linter.unusedSimpArgs false
set_option linter.unusedVariables false

def upd (R : Rd) (w : Int) (m : Mx) (r : Rs) : Rd := ⟨r.l, r.ls, R.M, R.ck, fun y => if y = w.toNat then some ⟨m.nd, r.ex, m.rel, r.W, r.ck⟩ else R.D y⟩
def Rd.rs (R : Rd) (m : Mx) : Rs := ⟨R.l, R.ls, m.ex, m.W, m.ck⟩
def recvE (x : Pkt) (R : Rd) : Int := match R.get x.w with | none => 6 | some _ => checkP x
def stepF (q : Qos) (x : Pkt) (m : Mx) (r : Rs) : Rs := if x.k = 1 then dataF q x.w m.rel x r else if x.k = 4 then gapF q x.w m.rel x r else hbF q x.w m.rel x r
def recvR (q : Qos) (x : Pkt) (R : Rd) : Rd :=
  match R.get x.w with
  | none => R
  | some m => if checkP x = 0 then upd R x.w m (stepF q x m (R.rs m)) else R
def recvA (id : Int) (q : Qos) (x : Pkt) (at' : Int) (R : Rd) : Option (Pkt × List Int) :=
  match R.get x.w with
  | none => none
  | some m => if checkP x = 0 ∧ x.k = 2 ∧ m.rel = true then some (ackP id x.w m.nd at' x (hbF q x.w m.rel x (R.rs m)), missF (hbF q x.w m.rel x (R.rs m)) x.la) else none
def ackN (a : Option (Pkt × List Int)) : Nat := match a with | none => 0 | some _ => 1
def ackL (a : Option (Pkt × List Int)) : List Int := match a with | none => [] | some p => p.2
def ackK (a : Option (Pkt × List Int)) : Pkt := match a with | none => default | some p => p.1
def AllInv (R : Rd) (A B : Nat) : Prop := ∀ x m, R.D x = some m → Inv (R.rs m) A B
abbrev rdB (id : Int) (q : Qos) (R : Rd) (c cl : Nat) : List Fam := [.one (rdr 1 2 3 id q R.ls.length cl), .one (hist 4 q R.l.length c), .one (mapM 5 R.M R.ck), .one (lss true R.ls cl), .one (smps true R.l c), mts 6 R.D, wins R.D, .one .no]
abbrev rdA (id : Int) (q : Qos) (R : Rd) (c cl : Nat) (a : Option (Pkt × List Int)) (cm cp : Nat) : List Fam := [.one (rdr 1 2 8 id q R.ls.length cl), .one (hist 9 q R.l.length c), .one (mapM 5 R.M R.ck), .one .no, .one .no, mts 6 R.D, wins R.D, .one .no, .one (lss true R.ls cl), .one (smps true R.l c),
  .one (ints true (ackL a) cm), .one (pkts true 10 (ackN a) cp (ackL a).length cm (ackK a))]

theorem many_upd {N N' : Nat} {σ : List Sg} {G G' : Nat → Ck} {X : Nat} {c0 c1 : Ck} (h1 : c1.leK N ((G' X).rk σ N') True) (h2 : ∀ y, y ≠ X → (G y).leK N ((G' y).rk σ N') True) (y : Nat) :
    ((fun y => if y = X then c1 else if y = X then c0 else G y) y).leK N ((fun x => (G' x).rk σ N') y) True := by
  by_cases hy : y = X
  · subst hy
    simpa using h1
  · simpa [hy] using h2 y hy
theorem okN_of {x : Pkt} (h : checkP x = 0) (hk : x.k = 1) : okN x.q := by
  unfold checkP at h
  rw [if_pos hk] at h
  split at h
  · rename_i h1; exact h1.1
  · omega
theorem kind_of {x : Pkt} (h : checkP x = 0) (h1 : x.k ≠ 1) (h2 : x.k ≠ 4) : x.k = 2 := by
  unfold checkP at h
  rw [if_neg h1, if_neg h2] at h
  by_cases h3 : x.k = 2
  · exact h3
  · rw [if_neg h3] at h; omega
theorem upd_mt {N N' fw fw' : Nat} {σ : List Sg} {R : Rd} {w : Int} {m : Mx} {r : Rs} {c0 : Ck} (hw : 1 ≤ w) (hk : ∀ x, key σ N' fw x = (fw', x)) (y : Nat) :
    ((fun y => if y = w.toNat then Ck.cells true [.i .i64 w, .i .i64 m.nd, .i .i64 r.ex, .b m.rel, .mp fw' w.toNat] else if y = w.toNat then c0 else mtO fw' y (R.D y)) y).leK N ((fun x => (mtO fw x ((upd R w m r).D x)).rk σ N') y) True := by
  refine many_upd (G := fun y => mtO fw' y (R.D y)) (G' := fun x => mtO fw x ((upd R w m r).D x)) ?_ (fun y hy => ?_) y
  · show Ck.leK _ _ (Ck.rk _ _ (mtO _ _ (if _ = _ then _ else _))) True
    rw [if_pos rfl, mtO_rk (hk _)]
    simp only [mtO, mtG, Int.toNat_of_nonneg (show 0 ≤ w by omega)]
    simp [Ck.leK, sameB, eqL, C.eqK, sameK, ifB, kNat]
  · show Ck.leK _ _ (Ck.rk _ _ (mtO _ _ (if _ = _ then _ else _))) True
    rw [if_neg hy]
    exact mtO_le (hk _)
theorem upd_win {N N' : Nat} {σ : List Sg} {R : Rd} {w : Int} {m : Mx} {r : Rs} {c0 : Ck} (y : Nat) :
    ((fun y => if y = w.toNat then wnd r.W r.ck else if y = w.toNat then c0 else winO (R.D y)) y).leK N ((fun x => (winO ((upd R w m r).D x)).rk σ N') y) True := by
  refine many_upd (G := fun y => winO (R.D y)) (G' := fun x => winO ((upd R w m r).D x)) ?_ (fun y hy => ?_) y
  · show Ck.leK _ _ (Ck.rk _ _ (winO (if _ = _ then _ else _))) True
    rw [if_pos rfl]
    exact ⟨rfl, rfl, rfl, rfl, fun _ _ => rfl, trivial⟩
  · show Ck.leK _ _ (Ck.rk _ _ (winO (if _ = _ then _ else _))) True
    rw [if_neg hy]
    exact winO_le

set_option maxRecDepth 10000 in
set_option maxHeartbeats 8000000 in
theorem crecv (id : Int) (q : Qos) (R : Rd) (c cl n cm : Nat) (x : Pkt) (at' : Int) (hR : RdOk R) (hI : AllInv R 800000 700000) (xm : Nat := 0) :
    Ctr Try.prog 14 [.c (.p 0 0 0), .a (encP (.sl 7 xm 1 0 n cm) x), .c (.i .i64 at')] (rdB id q R c cl)
      fun v h => ∃ c' cl' cm' cp', v = .t [.c (.sl 11 0 11 0 (ackN (recvA id q x at' R)) cp'), .c (.i .i64 (recvE x R))] ∧ h = rdA id q (recvR q x R) c' cl' (recvA id q x at' R) cm' cp' := by
  refine Ctr.mk' tbv mixed Try.func14 rfl rfl rfl (fun _ _ => by kernel_rfl) (by kernel_rfl) (by rfl) (by rfl) (by (repeat' (first | (refine And.intro ?_ ?_) | exact trivial | rfl | exact Nat.le_refl _ | exact (fun _ _ => rfl) | exact all_one (by rfl) | (simp only [Int.toNat_natCast, Nat.zero_add, Nat.add_zero]; done))) <;> first | exact fun x => mtO_bel rfl | exact fun x => winO_bel) ?_
  repeat' (first
    | ((fail_if_success (with_reducible first | apply kL | apply kC | apply kF | apply kM | refine Exists.intro ?_ ?_)); first
      | ((with_reducible refine And.intro (fun (hb : _ = true) => ?_) (fun (hb : _ = false) => ?_)) <;> (try simp only [n1, n2, n3, n4, n5, n6, n7, n8, n9, n10, n11, n12, n13, n14, n15, n16, reduceCtorEq, n17, n18, n19, n20, n21, n22] at hb) <;> (try (first | (exfalso; omega) | exact bff hb (by assumption) | exact bff (by assumption) hb)))
      | (with_reducible refine Both.mk ?_ ?_)
      | ((with_reducible refine And.intro ?_ ?_); (focus (first | rfl | omega | exact fun _ _ => rfl | assumption | (split <;> omega) | (and_intros <;> first | rfl | omega | (split <;> omega)) | (dsimp only [maxLen]; and_intros <;> omega) | (simp only [n21, n22, m9]; first | omega | (and_intros <;> omega)))))
      | ((with_reducible refine Or.inl ⟨?_, ?_, ?_⟩); (focus rfl); (focus (and_intros <;> first | rfl | omega)))
      | ((with_reducible refine Or.inr (Or.inl ⟨?_, ?_⟩)); focus (and_intros <;> first | rfl | omega))
      | ((with_reducible refine Or.inr (Or.inr (Or.inl ⟨?_, ?_⟩))); focus (and_intros <;> first | rfl | omega))
      | ((with_reducible refine Or.inr (Or.inr (Or.inr ⟨?_, ?_⟩))); focus (and_intros <;> first | rfl | omega))
      | (with_reducible intro hc; (try simp only [capsP, and_true] at hc); (try (exfalso; omega)))
      | ((fail_if_success (with_reducible first | refine And.intro ?_ ?_ | refine Or.inl ?_ | intro _)); (conv => whnf); (fail_if_success (fail_if_success (with_reducible first | apply kL | apply kC | apply kF | apply kM | refine Exists.intro ?_ ?_ | refine Both.mk ?_ ?_ | refine And.intro ?_ ?_ | refine Or.inl ?_ | intro _))))))
  · rename_i i hi
    obtain ⟨m, hm, hD, h1⟩ := get_yes hR hi (Key.i.inj hc)
    have e1 : (R.M.getD i default).2 = x.w := Key.i.inj hc
    have hIm := hI _ _ hD
    have hmt : mtO 6 x.w.toNat (R.D x.w.toNat) = .cells true [.i .i64 x.w, .i .i64 m.nd, .i .i64 m.ex, .b m.rel, .mp 6 x.w.toNat] := by
      rw [hD]
      show Ck.cells true [.i .i64 (x.w.toNat : Nat), _, _, _, _] = _
      rw [Int.toNat_of_nonneg (by omega)]
    have hwn : winO (R.D x.w.toNat) = wnd m.W m.ck := by rw [hD]; rfl
    refine CallK.mk3 (σ := [.name 7]) (nl := []) (ccheck x n cm xm) rfl rfl (List.append_nil _) (by (try simp only [↓List.length_cons, ↓List.length_nil, Nat.reduceAdd]); rfl) (by (try simp only [↓List.length_cons, ↓List.length_nil, Nat.reduceAdd]); rfl) (by (try simp (maxSteps := 1000000) only [givesF, setF, updF, Fam.zeroth, Fam.rk, Ck.rk, C.rk, E.rk, T.rk, key, List.map_cons, List.map_nil, List.cons_append, List.nil_append, List.length_cons, List.length_nil, Option.map_some, Option.bind_some, Nat.reduceAdd, Nat.zero_add, Nat.add_zero, Nat.add_sub_cancel_left, Int.toNat_natCast, reps, List.all_cons, List.all_nil, C.flat, List.append_eq, Bool.not_true, Bool.and_true, Bool.or_false, Bool.or_self, Bool.not_false, List.append_nil, Bool.and_self]); rfl) (by (repeat' (first | (refine And.intro ?_ ?_) | exact trivial | rfl | exact Nat.le_refl _ | exact (fun _ _ => rfl) | exact all_one (by rfl) | (simp only [Int.toNat_natCast, Nat.zero_add, Nat.add_zero]; done)))) ?_
    rintro v h' ⟨rfl, rfl⟩ hcaps
    refine ret_mk3 (by (try simp only [↓List.length_cons, ↓List.length_nil, Nat.reduceAdd]); rfl) (by (try simp (maxSteps := 1000000) only [givesF, setF, updF, Fam.zeroth, Fam.rk, Ck.rk, C.rk, E.rk, T.rk, key, List.map_cons, List.map_nil, List.cons_append, List.nil_append, List.length_cons, List.length_nil, Option.map_some, Option.bind_some, Nat.reduceAdd, Nat.zero_add, Nat.add_zero, Nat.add_sub_cancel_left, Int.toNat_natCast, reps, List.all_cons, List.all_nil, C.flat, List.append_eq, Bool.not_true, Bool.and_true, Bool.or_false, Bool.or_self, Bool.not_false, List.append_nil, Bool.and_self, encP]); rfl) (by (try simp only [givesF, setF, updF, Fam.zeroth, Fam.rk, Ck.rk, C.rk, E.rk, T.rk, key, List.map_cons, List.map_nil, List.cons_append, List.nil_append, List.length_cons, List.length_nil, Option.map_some, Option.bind_some, Nat.reduceAdd, Nat.zero_add, Nat.add_zero, Nat.add_sub_cancel_left, Int.toNat_natCast, reps, List.all_cons, List.all_nil, C.flat, List.append_eq, Bool.not_true, Bool.and_true, Bool.or_false, Bool.or_self, Bool.not_false, List.append_nil, Bool.and_self, encP]); rfl) ?_
    repeat' (first
      | ((fail_if_success (with_reducible first | apply kL | apply kC | apply kF | apply kM | refine Exists.intro ?_ ?_)); first
        | ((with_reducible refine And.intro (fun (hb : _ = true) => ?_) (fun (hb : _ = false) => ?_)) <;> (try simp only [n1, n2, n3, n4, n5, n6, n7, n8, n9, n10, n11, n12, n13, n14, n15, n16, reduceCtorEq, n17, n18, n19, n20, n21, n22] at hb) <;> (try (first | (exfalso; omega) | exact bff hb (by assumption) | exact bff (by assumption) hb)))
        | (with_reducible refine Both.mk ?_ ?_)
        | ((with_reducible refine And.intro ?_ ?_); (focus (first | rfl | omega | exact fun _ _ => rfl | assumption | (split <;> omega) | (and_intros <;> first | rfl | omega | (split <;> omega)) | (dsimp only [maxLen]; and_intros <;> omega) | (simp only [n21, n22, m9]; first | omega | (and_intros <;> omega)))))
        | ((with_reducible refine Or.inl ⟨?_, ?_, ?_⟩); (focus rfl); (focus (and_intros <;> first | rfl | omega)))
        | ((with_reducible refine Or.inr (Or.inl ⟨?_, ?_⟩)); focus (and_intros <;> first | rfl | omega))
        | ((with_reducible refine Or.inr (Or.inr (Or.inl ⟨?_, ?_⟩))); focus (and_intros <;> first | rfl | omega))
        | ((with_reducible refine Or.inr (Or.inr (Or.inr ⟨?_, ?_⟩))); focus (and_intros <;> first | rfl | omega))
        | (with_reducible intro hc; (try simp only [capsP, and_true] at hc); (try (exfalso; omega)))
        | ((fail_if_success (with_reducible first | refine And.intro ?_ ?_ | refine Or.inl ?_ | intro _)); (conv => whnf); (fail_if_success (fail_if_success (with_reducible first | apply kL | apply kC | apply kF | apply kM | refine Exists.intro ?_ ?_ | refine Both.mk ?_ ?_ | refine And.intro ?_ ?_ | refine Or.inl ?_ | intro _))))))
    · have e2 : recvE x R = checkP x := by unfold recvE; rw [hm]
      have e3 : recvR q x R = R := by unfold recvR; rw [hm]; exact if_neg hb
      have e4 : recvA id q x at' R = none := by unfold recvA; rw [hm]; exact if_neg (fun h => hb h.1)
      rw [e2, e3, e4]
      refine FinK.mk ⟨[0, 1, 2, 3, 4, 5, 6, 7, 3, 4, 98, 99], _, _, ⟨c, cl, 0, 0, rfl, rfl⟩, ?_⟩
      (repeat' (first | (refine And.intro ?_ ?_) | exact trivial | rfl | exact Nat.le_refl _ | exact (fun _ _ => rfl) | exact all_one (by rfl) | (simp only [Int.toNat_natCast, Nat.zero_add, Nat.add_zero]; done)))
      all_goals (first | exact fun _ => trivial | exact fun x => mtO_le rfl | exact fun x => winO_le | exact fun x => mtO_bel rfl | exact fun x => winO_bel | exact fun x => mtR_bel rfl rfl | exact fun x => winR_bel)
    all_goals have hck : checkP x = 0 := by assumption
    · refine CallK.mk3 (σ := [.whole 0, .whole 1, .name 2, .whole 3, .whole 4, .mem 5 (x.w.toNat), .mem 6 (x.w.toNat), .name 7]) (nl := []) (cdata id q x.w m.nd m.rel (R.rs m) c cl n cm x hIm.ok ⟨hIm.lo, hIm.hi⟩ hIm.l hIm.ls (okN_of hck hb) xm) rfl rfl (List.append_nil _) (by (try simp only [↓List.length_cons, ↓List.length_nil, Nat.reduceAdd]); rfl) (by (try simp only [↓List.length_cons, ↓List.length_nil, Nat.reduceAdd]); rfl) (by (try simp (maxSteps := 1000000) only [givesF, setF, updF, Fam.zeroth, Fam.rk, Ck.rk, C.rk, E.rk, T.rk, key, List.map_cons, List.map_nil, List.cons_append, List.nil_append, List.length_cons, List.length_nil, Option.map_some, Option.bind_some, Nat.reduceAdd, Nat.zero_add, Nat.add_zero, Nat.add_sub_cancel_left, Int.toNat_natCast, reps, List.all_cons, List.all_nil, C.flat, List.append_eq, Bool.not_true, Bool.and_true, Bool.or_false, Bool.or_self, Bool.not_false, List.append_nil, Bool.and_self]); rfl) (by (repeat' (first | (refine And.intro ?_ ?_) | exact trivial | rfl | exact Nat.le_refl _ | exact (fun _ _ => rfl) | exact all_one (by rfl) | (simp only [Int.toNat_natCast, Nat.zero_add, Nat.add_zero]; done))) <;> (refine ManyK.mk ⟨_, hmt, ?_⟩ <;> (repeat' (first | (refine And.intro ?_ ?_) | exact trivial | rfl | exact Nat.le_refl _ | exact (fun _ _ => rfl) | exact all_one (by rfl) | (simp only [Int.toNat_natCast, Nat.zero_add, Nat.add_zero]; done))) <;> refine ManyK.mk ⟨_, hwn, ?_⟩ <;> (repeat' (first | (refine And.intro ?_ ?_) | exact trivial | rfl | exact Nat.le_refl _ | exact (fun _ _ => rfl) | exact all_one (by rfl) | (simp only [Int.toNat_natCast, Nat.zero_add, Nat.add_zero]; done))) <;> (rw [e1]))) ?_
      rintro v h' ⟨rfl, c2, cl2, rfl⟩ hcaps
      refine ret_mk3 (by (try simp only [↓List.length_cons, ↓List.length_nil, Nat.reduceAdd]); rfl) (by (try simp (maxSteps := 1000000) only [givesF, setF, updF, Fam.zeroth, Fam.rk, Ck.rk, C.rk, E.rk, T.rk, key, List.map_cons, List.map_nil, List.cons_append, List.nil_append, List.length_cons, List.length_nil, Option.map_some, Option.bind_some, Nat.reduceAdd, Nat.zero_add, Nat.add_zero, Nat.add_sub_cancel_left, Int.toNat_natCast, reps, List.all_cons, List.all_nil, C.flat, List.append_eq, Bool.not_true, Bool.and_true, Bool.or_false, Bool.or_self, Bool.not_false, List.append_nil, Bool.and_self, encP]); rfl) (by (try simp only [givesF, setF, updF, Fam.zeroth, Fam.rk, Ck.rk, C.rk, E.rk, T.rk, key, List.map_cons, List.map_nil, List.cons_append, List.nil_append, List.length_cons, List.length_nil, Option.map_some, Option.bind_some, Nat.reduceAdd, Nat.zero_add, Nat.add_zero, Nat.add_sub_cancel_left, Int.toNat_natCast, reps, List.all_cons, List.all_nil, C.flat, List.append_eq, Bool.not_true, Bool.and_true, Bool.or_false, Bool.or_self, Bool.not_false, List.append_nil, Bool.and_self, encP]); rfl) ?_
      repeat' (first
        | ((fail_if_success (with_reducible first | apply kL | apply kC | apply kF | apply kM | refine Exists.intro ?_ ?_)); first
          | ((with_reducible refine And.intro (fun (hb : _ = true) => ?_) (fun (hb : _ = false) => ?_)) <;> (try simp only [n1, n2, n3, n4, n5, n6, n7, n8, n9, n10, n11, n12, n13, n14, n15, n16, reduceCtorEq, n17, n18, n19, n20, n21, n22] at hb) <;> (try (first | (exfalso; omega) | exact bff hb (by assumption) | exact bff (by assumption) hb)))
          | (with_reducible refine Both.mk ?_ ?_)
          | ((with_reducible refine And.intro ?_ ?_); (focus (first | rfl | omega | exact fun _ _ => rfl | assumption | (split <;> omega) | (and_intros <;> first | rfl | omega | (split <;> omega)) | (dsimp only [maxLen]; and_intros <;> omega) | (simp only [n21, n22, m9]; first | omega | (and_intros <;> omega)))))
          | ((with_reducible refine Or.inl ⟨?_, ?_, ?_⟩); (focus rfl); (focus (and_intros <;> first | rfl | omega)))
          | ((with_reducible refine Or.inr (Or.inl ⟨?_, ?_⟩)); focus (and_intros <;> first | rfl | omega))
          | ((with_reducible refine Or.inr (Or.inr (Or.inl ⟨?_, ?_⟩))); focus (and_intros <;> first | rfl | omega))
          | ((with_reducible refine Or.inr (Or.inr (Or.inr ⟨?_, ?_⟩))); focus (and_intros <;> first | rfl | omega))
          | (with_reducible intro hc; (try simp only [capsP, and_true] at hc); (try (exfalso; omega)))
          | ((fail_if_success (with_reducible first | refine And.intro ?_ ?_ | refine Or.inl ?_ | intro _)); (conv => whnf); (fail_if_success (fail_if_success (with_reducible first | apply kL | apply kC | apply kF | apply kM | refine Exists.intro ?_ ?_ | refine Both.mk ?_ ?_ | refine And.intro ?_ ?_ | refine Or.inl ?_ | intro _))))))
      have e2 : recvE x R = 0 := by unfold recvE; rw [hm]; exact hck
      have e3 : recvR q x R = upd R x.w m (dataF q x.w m.rel x (R.rs m)) := by unfold recvR; rw [hm]; simp only [if_pos hck, stepF, hb, if_true]
      have e4 : recvA id q x at' R = none := by unfold recvA; rw [hm]; exact if_neg (fun h => by omega)
      rw [e2, e3, e4]
      generalize dataF q x.w m.rel x (R.rs m) = r'
      refine FinK.mk ⟨[0, 1, 2, 3, 4, 5, 6, 7, 9, 10, 98, 99], _, _, ⟨c2, cl2, 0, 0, rfl, rfl⟩, ?_⟩
      (repeat' (first | (refine And.intro ?_ ?_) | exact trivial | rfl | exact Nat.le_refl _ | exact (fun _ _ => rfl) | exact all_one (by rfl) | (simp only [Int.toNat_natCast, Nat.zero_add, Nat.add_zero]; done)))
      all_goals first | (first | exact fun _ => trivial | exact fun x => mtO_le rfl | exact fun x => winO_le | exact fun x => mtO_bel rfl | exact fun x => winO_bel | exact fun x => mtR_bel rfl rfl | exact fun x => winR_bel) | exact upd_mt h1 (fun _ => rfl) | exact upd_win
    · rename_i hb1
      refine CallK.mk3 (σ := [.whole 0, .whole 1, .name 2, .whole 3, .whole 4, .mem 5 (x.w.toNat), .mem 6 (x.w.toNat), .name 7]) (nl := []) (cgap id q x.w m.nd m.rel (R.rs m) c cl n cm x hIm.ok ⟨hIm.lo, hIm.hi⟩ hIm.l hIm.ls hck hb xm) rfl rfl (List.append_nil _) (by (try simp only [↓List.length_cons, ↓List.length_nil, Nat.reduceAdd]); rfl) (by (try simp only [↓List.length_cons, ↓List.length_nil, Nat.reduceAdd]); rfl) (by (try simp (maxSteps := 1000000) only [givesF, setF, updF, Fam.zeroth, Fam.rk, Ck.rk, C.rk, E.rk, T.rk, key, List.map_cons, List.map_nil, List.cons_append, List.nil_append, List.length_cons, List.length_nil, Option.map_some, Option.bind_some, Nat.reduceAdd, Nat.zero_add, Nat.add_zero, Nat.add_sub_cancel_left, Int.toNat_natCast, reps, List.all_cons, List.all_nil, C.flat, List.append_eq, Bool.not_true, Bool.and_true, Bool.or_false, Bool.or_self, Bool.not_false, List.append_nil, Bool.and_self]); rfl) (by (repeat' (first | (refine And.intro ?_ ?_) | exact trivial | rfl | exact Nat.le_refl _ | exact (fun _ _ => rfl) | exact all_one (by rfl) | (simp only [Int.toNat_natCast, Nat.zero_add, Nat.add_zero]; done))) <;> (refine ManyK.mk ⟨_, hmt, ?_⟩ <;> (repeat' (first | (refine And.intro ?_ ?_) | exact trivial | rfl | exact Nat.le_refl _ | exact (fun _ _ => rfl) | exact all_one (by rfl) | (simp only [Int.toNat_natCast, Nat.zero_add, Nat.add_zero]; done))) <;> refine ManyK.mk ⟨_, hwn, ?_⟩ <;> (repeat' (first | (refine And.intro ?_ ?_) | exact trivial | rfl | exact Nat.le_refl _ | exact (fun _ _ => rfl) | exact all_one (by rfl) | (simp only [Int.toNat_natCast, Nat.zero_add, Nat.add_zero]; done))) <;> (rw [e1]))) ?_
      rintro v h' ⟨rfl, c2, cl2, rfl⟩ hcaps
      refine ret_mk3 (by (try simp only [↓List.length_cons, ↓List.length_nil, Nat.reduceAdd]); rfl) (by (try simp (maxSteps := 1000000) only [givesF, setF, updF, Fam.zeroth, Fam.rk, Ck.rk, C.rk, E.rk, T.rk, key, List.map_cons, List.map_nil, List.cons_append, List.nil_append, List.length_cons, List.length_nil, Option.map_some, Option.bind_some, Nat.reduceAdd, Nat.zero_add, Nat.add_zero, Nat.add_sub_cancel_left, Int.toNat_natCast, reps, List.all_cons, List.all_nil, C.flat, List.append_eq, Bool.not_true, Bool.and_true, Bool.or_false, Bool.or_self, Bool.not_false, List.append_nil, Bool.and_self, encP]); rfl) (by (try simp only [givesF, setF, updF, Fam.zeroth, Fam.rk, Ck.rk, C.rk, E.rk, T.rk, key, List.map_cons, List.map_nil, List.cons_append, List.nil_append, List.length_cons, List.length_nil, Option.map_some, Option.bind_some, Nat.reduceAdd, Nat.zero_add, Nat.add_zero, Nat.add_sub_cancel_left, Int.toNat_natCast, reps, List.all_cons, List.all_nil, C.flat, List.append_eq, Bool.not_true, Bool.and_true, Bool.or_false, Bool.or_self, Bool.not_false, List.append_nil, Bool.and_self, encP]); rfl) ?_
      repeat' (first
        | ((fail_if_success (with_reducible first | apply kL | apply kC | apply kF | apply kM | refine Exists.intro ?_ ?_)); first
          | ((with_reducible refine And.intro (fun (hb : _ = true) => ?_) (fun (hb : _ = false) => ?_)) <;> (try simp only [n1, n2, n3, n4, n5, n6, n7, n8, n9, n10, n11, n12, n13, n14, n15, n16, reduceCtorEq, n17, n18, n19, n20, n21, n22] at hb) <;> (try (first | (exfalso; omega) | exact bff hb (by assumption) | exact bff (by assumption) hb)))
          | (with_reducible refine Both.mk ?_ ?_)
          | ((with_reducible refine And.intro ?_ ?_); (focus (first | rfl | omega | exact fun _ _ => rfl | assumption | (split <;> omega) | (and_intros <;> first | rfl | omega | (split <;> omega)) | (dsimp only [maxLen]; and_intros <;> omega) | (simp only [n21, n22, m9]; first | omega | (and_intros <;> omega)))))
          | ((with_reducible refine Or.inl ⟨?_, ?_, ?_⟩); (focus rfl); (focus (and_intros <;> first | rfl | omega)))
          | ((with_reducible refine Or.inr (Or.inl ⟨?_, ?_⟩)); focus (and_intros <;> first | rfl | omega))
          | ((with_reducible refine Or.inr (Or.inr (Or.inl ⟨?_, ?_⟩))); focus (and_intros <;> first | rfl | omega))
          | ((with_reducible refine Or.inr (Or.inr (Or.inr ⟨?_, ?_⟩))); focus (and_intros <;> first | rfl | omega))
          | (with_reducible intro hc; (try simp only [capsP, and_true] at hc); (try (exfalso; omega)))
          | ((fail_if_success (with_reducible first | refine And.intro ?_ ?_ | refine Or.inl ?_ | intro _)); (conv => whnf); (fail_if_success (fail_if_success (with_reducible first | apply kL | apply kC | apply kF | apply kM | refine Exists.intro ?_ ?_ | refine Both.mk ?_ ?_ | refine And.intro ?_ ?_ | refine Or.inl ?_ | intro _))))))
      have e2 : recvE x R = 0 := by unfold recvE; rw [hm]; exact hck
      have e3 : recvR q x R = upd R x.w m (gapF q x.w m.rel x (R.rs m)) := by unfold recvR; rw [hm]; simp only [if_pos hck, stepF, if_neg hb1, if_pos hb]
      have e4 : recvA id q x at' R = none := by unfold recvA; rw [hm]; exact if_neg (fun h => by omega)
      rw [e2, e3, e4]
      generalize gapF q x.w m.rel x (R.rs m) = r'
      refine FinK.mk ⟨[0, 1, 2, 3, 4, 5, 6, 7, 9, 10, 98, 99], _, _, ⟨c2, cl2, 0, 0, rfl, rfl⟩, ?_⟩
      (repeat' (first | (refine And.intro ?_ ?_) | exact trivial | rfl | exact Nat.le_refl _ | exact (fun _ _ => rfl) | exact all_one (by rfl) | (simp only [Int.toNat_natCast, Nat.zero_add, Nat.add_zero]; done)))
      all_goals first | (first | exact fun _ => trivial | exact fun x => mtO_le rfl | exact fun x => winO_le | exact fun x => mtO_bel rfl | exact fun x => winO_bel | exact fun x => mtR_bel rfl rfl | exact fun x => winR_bel) | exact upd_mt h1 (fun _ => rfl) | exact upd_win
    · rename_i hb1
      have hk2 := kind_of hck hb1 hb
      refine CallK.mk3 (σ := [.whole 0, .whole 1, .name 2, .whole 3, .whole 4, .mem 5 (x.w.toNat), .mem 6 (x.w.toNat), .name 7]) (nl := []) (cheart id q x.w m.nd m.rel (R.rs m) c cl n cm x at' hIm hck hk2 xm) rfl rfl (List.append_nil _) (by (try simp only [↓List.length_cons, ↓List.length_nil, Nat.reduceAdd]); rfl) (by (try simp only [↓List.length_cons, ↓List.length_nil, Nat.reduceAdd]); rfl) (by (try simp (maxSteps := 1000000) only [givesF, setF, updF, Fam.zeroth, Fam.rk, Ck.rk, C.rk, E.rk, T.rk, key, List.map_cons, List.map_nil, List.cons_append, List.nil_append, List.length_cons, List.length_nil, Option.map_some, Option.bind_some, Nat.reduceAdd, Nat.zero_add, Nat.add_zero, Nat.add_sub_cancel_left, Int.toNat_natCast, reps, List.all_cons, List.all_nil, C.flat, List.append_eq, Bool.not_true, Bool.and_true, Bool.or_false, Bool.or_self, Bool.not_false, List.append_nil, Bool.and_self]); rfl) (by (repeat' (first | (refine And.intro ?_ ?_) | exact trivial | rfl | exact Nat.le_refl _ | exact (fun _ _ => rfl) | exact all_one (by rfl) | (simp only [Int.toNat_natCast, Nat.zero_add, Nat.add_zero]; done))) <;> (refine ManyK.mk ⟨_, hmt, ?_⟩ <;> (repeat' (first | (refine And.intro ?_ ?_) | exact trivial | rfl | exact Nat.le_refl _ | exact (fun _ _ => rfl) | exact all_one (by rfl) | (simp only [Int.toNat_natCast, Nat.zero_add, Nat.add_zero]; done))) <;> refine ManyK.mk ⟨_, hwn, ?_⟩ <;> (repeat' (first | (refine And.intro ?_ ?_) | exact trivial | rfl | exact Nat.le_refl _ | exact (fun _ _ => rfl) | exact all_one (by rfl) | (simp only [Int.toNat_natCast, Nat.zero_add, Nat.add_zero]; done))) <;> (rw [e1]))) ?_
      rintro v h' ⟨c2, cl2, cm2, cp2, nm, np, rfl, hr0, hr1, rfl⟩ hcaps
      refine ret_mk3 (by (try simp only [↓List.length_cons, ↓List.length_nil, Nat.reduceAdd]); rfl) (by (try simp (maxSteps := 1000000) only [givesF, setF, updF, Fam.zeroth, Fam.rk, Ck.rk, C.rk, E.rk, T.rk, key, List.map_cons, List.map_nil, List.cons_append, List.nil_append, List.length_cons, List.length_nil, Option.map_some, Option.bind_some, Nat.reduceAdd, Nat.zero_add, Nat.add_zero, Nat.add_sub_cancel_left, Int.toNat_natCast, reps, List.all_cons, List.all_nil, C.flat, List.append_eq, Bool.not_true, Bool.and_true, Bool.or_false, Bool.or_self, Bool.not_false, List.append_nil, Bool.and_self, encP]); rfl) (by (try simp only [givesF, setF, updF, Fam.zeroth, Fam.rk, Ck.rk, C.rk, E.rk, T.rk, key, List.map_cons, List.map_nil, List.cons_append, List.nil_append, List.length_cons, List.length_nil, Option.map_some, Option.bind_some, Nat.reduceAdd, Nat.zero_add, Nat.add_zero, Nat.add_sub_cancel_left, Int.toNat_natCast, reps, List.all_cons, List.all_nil, C.flat, List.append_eq, Bool.not_true, Bool.and_true, Bool.or_false, Bool.or_self, Bool.not_false, List.append_nil, Bool.and_self, encP]); rfl) ?_
      repeat' (first
        | ((fail_if_success (with_reducible first | apply kL | apply kC | apply kF | apply kM | refine Exists.intro ?_ ?_)); first
          | ((with_reducible refine And.intro (fun (hb : _ = true) => ?_) (fun (hb : _ = false) => ?_)) <;> (try simp only [n1, n2, n3, n4, n5, n6, n7, n8, n9, n10, n11, n12, n13, n14, n15, n16, reduceCtorEq, n17, n18, n19, n20, n21, n22] at hb) <;> (try (first | (exfalso; omega) | exact bff hb (by assumption) | exact bff (by assumption) hb)))
          | (with_reducible refine Both.mk ?_ ?_)
          | ((with_reducible refine And.intro ?_ ?_); (focus (first | rfl | omega | exact fun _ _ => rfl | assumption | (split <;> omega) | (and_intros <;> first | rfl | omega | (split <;> omega)) | (dsimp only [maxLen]; and_intros <;> omega) | (simp only [n21, n22, m9]; first | omega | (and_intros <;> omega)))))
          | ((with_reducible refine Or.inl ⟨?_, ?_, ?_⟩); (focus rfl); (focus (and_intros <;> first | rfl | omega)))
          | ((with_reducible refine Or.inr (Or.inl ⟨?_, ?_⟩)); focus (and_intros <;> first | rfl | omega))
          | ((with_reducible refine Or.inr (Or.inr (Or.inl ⟨?_, ?_⟩))); focus (and_intros <;> first | rfl | omega))
          | ((with_reducible refine Or.inr (Or.inr (Or.inr ⟨?_, ?_⟩))); focus (and_intros <;> first | rfl | omega))
          | (with_reducible intro hc; (try simp only [capsP, and_true] at hc); (try (exfalso; omega)))
          | ((fail_if_success (with_reducible first | refine And.intro ?_ ?_ | refine Or.inl ?_ | intro _)); (conv => whnf); (fail_if_success (fail_if_success (with_reducible first | apply kL | apply kC | apply kF | apply kM | refine Exists.intro ?_ ?_ | refine Both.mk ?_ ?_ | refine And.intro ?_ ?_ | refine Or.inl ?_ | intro _))))))
      have e2 : recvE x R = 0 := by unfold recvE; rw [hm]; exact hck
      have e3 : recvR q x R = upd R x.w m (hbF q x.w m.rel x (R.rs m)) := by unfold recvR; rw [hm]; simp only [if_pos hck, stepF, if_neg hb1, if_neg hb]
      rw [e2, e3]
      rcases (by cases m.rel <;> simp : m.rel = false ∨ m.rel = true) with hrel | hrel
      · obtain ⟨rfl, rfl⟩ := hr0 hrel
        have e4 : recvA id q x at' R = none := by unfold recvA; rw [hm]; exact if_neg (fun h => by rw [hrel] at h; simp at h)
        rw [e4]
        generalize hbF q x.w m.rel x (R.rs m) = r'
        refine FinK.mk ⟨[0, 1, 2, 3, 4, 5, 6, 7, 9, 10, 11, 12], _, _, ⟨c2, cl2, cm2, cp2, rfl, rfl⟩, ?_⟩
        (repeat' (first | (refine And.intro ?_ ?_) | exact trivial | rfl | exact Nat.le_refl _ | exact (fun _ _ => rfl) | exact all_one (by rfl) | (simp only [Int.toNat_natCast, Nat.zero_add, Nat.add_zero]; done)))
        all_goals first | (first | exact fun _ => trivial | exact fun x => mtO_le rfl | exact fun x => winO_le | exact fun x => mtO_bel rfl | exact fun x => winO_bel | exact fun x => mtR_bel rfl rfl | exact fun x => winR_bel) | exact upd_mt h1 (fun _ => rfl) | exact upd_win | (intro i hi; exact absurd hi (Nat.not_lt_zero i))
      · obtain ⟨rfl, rfl⟩ := hr1 hrel
        have e4 : recvA id q x at' R = some (ackP id x.w m.nd at' x (hbF q x.w m.rel x (R.rs m)), missF (hbF q x.w m.rel x (R.rs m)) x.la) := by unfold recvA; rw [hm]; exact if_pos ⟨hck, hk2, hrel⟩
        rw [e4]
        generalize hbF q x.w m.rel x (R.rs m) = r'
        refine FinK.mk ⟨[0, 1, 2, 3, 4, 5, 6, 7, 9, 10, 11, 12], _, _, ⟨c2, cl2, cm2, cp2, rfl, rfl⟩, ?_⟩
        (repeat' (first | (refine And.intro ?_ ?_) | exact trivial | rfl | exact Nat.le_refl _ | exact (fun _ _ => rfl) | exact all_one (by rfl) | (simp only [Int.toNat_natCast, Nat.zero_add, Nat.add_zero]; done)))
        all_goals first | (first | exact fun _ => trivial | exact fun x => mtO_le rfl | exact fun x => winO_le | exact fun x => mtO_bel rfl | exact fun x => winO_bel | exact fun x => mtR_bel rfl rfl | exact fun x => winR_bel) | exact upd_mt h1 (fun _ => rfl) | exact upd_win
  · have hn := get_no hR (w := x.w) fun i hi h => hc i hi (by rw [h])
    have e2 : recvE x R = 6 := by unfold recvE; rw [hn]
    have e3 : recvR q x R = R := by unfold recvR; rw [hn]
    have e4 : recvA id q x at' R = none := by unfold recvA; rw [hn]
    rw [e2, e3, e4]
    refine FinK.mk ⟨[0, 1, 2, 3, 4, 5, 6, 7, 3, 4, 98, 99], _, _, ⟨c, cl, 0, 0, rfl, rfl⟩, ?_⟩
    (repeat' (first | (refine And.intro ?_ ?_) | exact trivial | rfl | exact Nat.le_refl _ | exact (fun _ _ => rfl) | exact all_one (by rfl) | (simp only [Int.toNat_natCast, Nat.zero_add, Nat.add_zero]; done)))
    all_goals (first | exact fun _ => trivial | exact fun x => mtO_le rfl | exact fun x => winO_le | exact fun x => mtO_bel rfl | exact fun x => winO_bel | exact fun x => mtR_bel rfl rfl | exact fun x => winR_bel)
end Go.Proofs.Ytgcofipbdidhmaa

namespace Go.Proofs.Ytgcofipbdidhmaa
open Go.X
set_option linter.unusedSimpArgs false
set_option linter.unusedVariables false

def wthn (o r : Int) : Prop := r = 0 ∨ (o ≠ 0 ∧ o ≤ r)
instance (o r : Int) : Decidable (wthn o r) := by unfold wthn; infer_instance
def viol (o r : Qos) : Int :=
  if r.rel = true ∧ o.rel = false then 1 else if r.dur = true ∧ o.dur = false then 2
  else if ¬ wthn o.dead r.dead then 3 else if ¬ wthn o.lease r.lease then 4 else 0

set_option maxRecDepth 10000 in
theorem cwithin (o r : Int) : Ctr Try.prog 73 [.c (.i .i64 o), .c (.i .i64 r)] [] fun v h => v = .c (.b (decide (wthn o r))) ∧ h = [] := by
  refine Ctr.mk' tbv mixed Try.func73 rfl rfl rfl (fun _ _ => by kernel_rfl) (by kernel_rfl) (by rfl) (by rfl) (by (repeat' (first | (refine And.intro ?_ ?_) | exact trivial | rfl | exact Nat.le_refl _ | exact (fun _ _ => rfl) | exact all_one (by rfl) | (simp only [Int.toNat_natCast, Nat.zero_add, Nat.add_zero]; done)))) ?_
  repeat' (first
    | ((fail_if_success (with_reducible first | apply kL | apply kC | apply kF | apply kM | refine Exists.intro ?_ ?_)); first
      | ((with_reducible refine And.intro (fun (hb : _ = true) => ?_) (fun (hb : _ = false) => ?_)) <;> (try simp only [n1, n2, n3, n4, n5, n6, n7, n8, n9, n10, n11, n12, n13, n14, n15, n16, reduceCtorEq, n17, n18, n19, n20, n21, n22] at hb) <;> (try (first | (exfalso; omega) | exact bff hb (by assumption) | exact bff (by assumption) hb)))
      | (with_reducible refine Both.mk ?_ ?_)
      | ((with_reducible refine And.intro ?_ ?_); (focus (first | rfl | omega | exact fun _ _ => rfl | assumption | (split <;> omega) | (and_intros <;> first | rfl | omega | (split <;> omega)) | (dsimp only [maxLen]; and_intros <;> omega) | (simp only [n21, n22, m9]; first | omega | (and_intros <;> omega)))))
      | ((with_reducible refine Or.inl ⟨?_, ?_, ?_⟩); (focus rfl); (focus (and_intros <;> first | rfl | omega)))
      | ((with_reducible refine Or.inr (Or.inl ⟨?_, ?_⟩)); focus (and_intros <;> first | rfl | omega))
      | ((with_reducible refine Or.inr (Or.inr (Or.inl ⟨?_, ?_⟩))); focus (and_intros <;> first | rfl | omega))
      | ((with_reducible refine Or.inr (Or.inr (Or.inr ⟨?_, ?_⟩))); focus (and_intros <;> first | rfl | omega))
      | (with_reducible intro hc; (try simp only [capsP, and_true] at hc); (try (exfalso; omega)))
      | ((fail_if_success (with_reducible first | refine And.intro ?_ ?_ | refine Or.inl ?_ | intro _)); (conv => whnf); (fail_if_success (fail_if_success (with_reducible first | apply kL | apply kC | apply kF | apply kM | refine Exists.intro ?_ ?_ | refine Both.mk ?_ ?_ | refine And.intro ?_ ?_ | refine Or.inl ?_ | intro _))))))
  all_goals (
    refine FinK.mk ⟨[], _, _, ⟨rfl, rfl⟩, ?_⟩; (repeat' (first | (refine And.intro ?_ ?_) | exact trivial | rfl | exact Nat.le_refl _ | exact (fun _ _ => rfl) | exact all_one (by rfl) | (simp only [Int.toNat_natCast, Nat.zero_add, Nat.add_zero]; done)))
    all_goals first | exact decide_eq_decide.2 (by unfold wthn; omega) | exact (decide_eq_true (by unfold wthn; omega)).symm | exact (decide_eq_false (by unfold wthn; omega)).symm | exact decide_eq_true (by unfold wthn; omega) | exact decide_eq_false (by unfold wthn; omega) | (apply Bool.eq_iff_iff.2; simp [wthn]; omega))

set_option maxRecDepth 10000 in
set_option maxHeartbeats 4000000 in
theorem cviol (o r : Qos) : Ctr Try.prog 62 [.a (encQ o), .a (encQ r)] [] fun v h => v = .c (.i .i64 (viol o r)) ∧ h = [] := by
  refine Ctr.mk' tbv mixed Try.func62 rfl rfl rfl (fun _ _ => by kernel_rfl) (by kernel_rfl) (by rfl) (by rfl) (by (repeat' (first | (refine And.intro ?_ ?_) | exact trivial | rfl | exact Nat.le_refl _ | exact (fun _ _ => rfl) | exact all_one (by rfl) | (simp only [Int.toNat_natCast, Nat.zero_add, Nat.add_zero]; done)))) ?_
  repeat' (first
    | ((fail_if_success (with_reducible first | apply kL | apply kC | apply kF | apply kM | refine Exists.intro ?_ ?_)); first
      | ((with_reducible refine And.intro (fun (hb : _ = true) => ?_) (fun (hb : _ = false) => ?_)) <;> (try simp only [n1, n2, n3, n4, n5, n6, n7, n8, n9, n10, n11, n12, n13, n14, n15, n16, reduceCtorEq, n17, n18, n19, n20, n21, n22] at hb) <;> (try (first | (exfalso; omega) | exact bff hb (by assumption) | exact bff (by assumption) hb)))
      | (with_reducible refine Both.mk ?_ ?_)
      | ((with_reducible refine And.intro ?_ ?_); (focus (first | rfl | omega | exact fun _ _ => rfl | assumption | (split <;> omega) | (and_intros <;> first | rfl | omega | (split <;> omega)) | (dsimp only [maxLen]; and_intros <;> omega) | (simp only [n21, n22, m9]; first | omega | (and_intros <;> omega)))))
      | ((with_reducible refine Or.inl ⟨?_, ?_, ?_⟩); (focus rfl); (focus (and_intros <;> first | rfl | omega)))
      | ((with_reducible refine Or.inr (Or.inl ⟨?_, ?_⟩)); focus (and_intros <;> first | rfl | omega))
      | ((with_reducible refine Or.inr (Or.inr (Or.inl ⟨?_, ?_⟩))); focus (and_intros <;> first | rfl | omega))
      | ((with_reducible refine Or.inr (Or.inr (Or.inr ⟨?_, ?_⟩))); focus (and_intros <;> first | rfl | omega))
      | (with_reducible intro hc; (try simp only [capsP, and_true] at hc); (try (exfalso; omega)))
      | ((fail_if_success (with_reducible first | refine And.intro ?_ ?_ | refine Or.inl ?_ | intro _)); (conv => whnf); (fail_if_success (fail_if_success (with_reducible first | apply kL | apply kC | apply kF | apply kM | refine Exists.intro ?_ ?_ | refine Both.mk ?_ ?_ | refine And.intro ?_ ?_ | refine Or.inl ?_ | intro _))))))
  · refine FinK.mk ⟨[], _, _, ⟨rfl, rfl⟩, ?_⟩; (repeat' (first | (refine And.intro ?_ ?_) | exact trivial | rfl | exact Nat.le_refl _ | exact (fun _ _ => rfl) | exact all_one (by rfl) | (simp only [Int.toNat_natCast, Nat.zero_add, Nat.add_zero]; done)))
    all_goals (unfold viol; simp_all)
  · refine FinK.mk ⟨[], _, _, ⟨rfl, rfl⟩, ?_⟩; (repeat' (first | (refine And.intro ?_ ?_) | exact trivial | rfl | exact Nat.le_refl _ | exact (fun _ _ => rfl) | exact all_one (by rfl) | (simp only [Int.toNat_natCast, Nat.zero_add, Nat.add_zero]; done)))
    all_goals (unfold viol; simp_all)
  · refine CallK.mk3 (σ := []) (nl := []) (cwithin o.dead r.dead) rfl rfl (List.append_nil _) (by (try simp only [↓List.length_cons, ↓List.length_nil, Nat.reduceAdd]); rfl) (by (try simp only [↓List.length_cons, ↓List.length_nil, Nat.reduceAdd]); rfl) (by (try simp (maxSteps := 1000000) only [givesF, setF, updF, Fam.zeroth, Fam.rk, Ck.rk, C.rk, E.rk, T.rk, key, List.map_cons, List.map_nil, List.cons_append, List.nil_append, List.length_cons, List.length_nil, Option.map_some, Option.bind_some, Nat.reduceAdd, Nat.zero_add, Nat.add_zero, Nat.add_sub_cancel_left, Int.toNat_natCast, reps, List.all_cons, List.all_nil, C.flat, List.append_eq, Bool.not_true, Bool.and_true, Bool.or_false, Bool.or_self, Bool.not_false, List.append_nil, Bool.and_self]); rfl) (by (repeat' (first | (refine And.intro ?_ ?_) | exact trivial | rfl | exact Nat.le_refl _ | exact (fun _ _ => rfl) | exact all_one (by rfl) | (simp only [Int.toNat_natCast, Nat.zero_add, Nat.add_zero]; done)))) ?_
    rintro v h' ⟨rfl, rfl⟩ hcaps
    refine ret_mk3 (by (try simp only [↓List.length_cons, ↓List.length_nil, Nat.reduceAdd]); rfl) (by (try simp (maxSteps := 1000000) only [givesF, setF, updF, Fam.zeroth, Fam.rk, Ck.rk, C.rk, E.rk, T.rk, key, List.map_cons, List.map_nil, List.cons_append, List.nil_append, List.length_cons, List.length_nil, Option.map_some, Option.bind_some, Nat.reduceAdd, Nat.zero_add, Nat.add_zero, Nat.add_sub_cancel_left, Int.toNat_natCast, reps, List.all_cons, List.all_nil, C.flat, List.append_eq, Bool.not_true, Bool.and_true, Bool.or_false, Bool.or_self, Bool.not_false, List.append_nil, Bool.and_self]); rfl) (by (try simp only [givesF, setF, updF, Fam.zeroth, Fam.rk, Ck.rk, C.rk, E.rk, T.rk, key, List.map_cons, List.map_nil, List.cons_append, List.nil_append, List.length_cons, List.length_nil, Option.map_some, Option.bind_some, Nat.reduceAdd, Nat.zero_add, Nat.add_zero, Nat.add_sub_cancel_left, Int.toNat_natCast, reps, List.all_cons, List.all_nil, C.flat, List.append_eq, Bool.not_true, Bool.and_true, Bool.or_false, Bool.or_self, Bool.not_false, List.append_nil, Bool.and_self]); rfl) ?_
    repeat' (first
      | ((fail_if_success (with_reducible first | apply kL | apply kC | apply kF | apply kM | refine Exists.intro ?_ ?_)); first
        | ((with_reducible refine And.intro (fun (hb : _ = true) => ?_) (fun (hb : _ = false) => ?_)) <;> (try simp only [n1, n2, n3, n4, n5, n6, n7, n8, n9, n10, n11, n12, n13, n14, n15, n16, reduceCtorEq, n17, n18, n19, n20, n21, n22] at hb) <;> (try (first | (exfalso; omega) | exact bff hb (by assumption) | exact bff (by assumption) hb)))
        | (with_reducible refine Both.mk ?_ ?_)
        | ((with_reducible refine And.intro ?_ ?_); (focus (first | rfl | omega | exact fun _ _ => rfl | assumption | (split <;> omega) | (and_intros <;> first | rfl | omega | (split <;> omega)) | (dsimp only [maxLen]; and_intros <;> omega) | (simp only [n21, n22, m9]; first | omega | (and_intros <;> omega)))))
        | ((with_reducible refine Or.inl ⟨?_, ?_, ?_⟩); (focus rfl); (focus (and_intros <;> first | rfl | omega)))
        | ((with_reducible refine Or.inr (Or.inl ⟨?_, ?_⟩)); focus (and_intros <;> first | rfl | omega))
        | ((with_reducible refine Or.inr (Or.inr (Or.inl ⟨?_, ?_⟩))); focus (and_intros <;> first | rfl | omega))
        | ((with_reducible refine Or.inr (Or.inr (Or.inr ⟨?_, ?_⟩))); focus (and_intros <;> first | rfl | omega))
        | (with_reducible intro hc; (try simp only [capsP, and_true] at hc); (try (exfalso; omega)))
        | ((fail_if_success (with_reducible first | refine And.intro ?_ ?_ | refine Or.inl ?_ | intro _)); (conv => whnf); (fail_if_success (fail_if_success (with_reducible first | apply kL | apply kC | apply kF | apply kM | refine Exists.intro ?_ ?_ | refine Both.mk ?_ ?_ | refine And.intro ?_ ?_ | refine Or.inl ?_ | intro _))))))
    · refine FinK.mk ⟨[], _, _, ⟨rfl, rfl⟩, ?_⟩; (repeat' (first | (refine And.intro ?_ ?_) | exact trivial | rfl | exact Nat.le_refl _ | exact (fun _ _ => rfl) | exact all_one (by rfl) | (simp only [Int.toNat_natCast, Nat.zero_add, Nat.add_zero]; done)))
      all_goals (unfold viol; simp_all)
    · refine CallK.mk3 (σ := []) (nl := []) (cwithin o.lease r.lease) rfl rfl (List.append_nil _) (by (try simp only [↓List.length_cons, ↓List.length_nil, Nat.reduceAdd]); rfl) (by (try simp only [↓List.length_cons, ↓List.length_nil, Nat.reduceAdd]); rfl) (by (try simp (maxSteps := 1000000) only [givesF, setF, updF, Fam.zeroth, Fam.rk, Ck.rk, C.rk, E.rk, T.rk, key, List.map_cons, List.map_nil, List.cons_append, List.nil_append, List.length_cons, List.length_nil, Option.map_some, Option.bind_some, Nat.reduceAdd, Nat.zero_add, Nat.add_zero, Nat.add_sub_cancel_left, Int.toNat_natCast, reps, List.all_cons, List.all_nil, C.flat, List.append_eq, Bool.not_true, Bool.and_true, Bool.or_false, Bool.or_self, Bool.not_false, List.append_nil, Bool.and_self]); rfl) (by (repeat' (first | (refine And.intro ?_ ?_) | exact trivial | rfl | exact Nat.le_refl _ | exact (fun _ _ => rfl) | exact all_one (by rfl) | (simp only [Int.toNat_natCast, Nat.zero_add, Nat.add_zero]; done)))) ?_
      rintro v h' ⟨rfl, rfl⟩ hcaps
      refine ret_mk3 (by (try simp only [↓List.length_cons, ↓List.length_nil, Nat.reduceAdd]); rfl) (by (try simp (maxSteps := 1000000) only [givesF, setF, updF, Fam.zeroth, Fam.rk, Ck.rk, C.rk, E.rk, T.rk, key, List.map_cons, List.map_nil, List.cons_append, List.nil_append, List.length_cons, List.length_nil, Option.map_some, Option.bind_some, Nat.reduceAdd, Nat.zero_add, Nat.add_zero, Nat.add_sub_cancel_left, Int.toNat_natCast, reps, List.all_cons, List.all_nil, C.flat, List.append_eq, Bool.not_true, Bool.and_true, Bool.or_false, Bool.or_self, Bool.not_false, List.append_nil, Bool.and_self]); rfl) (by (try simp only [givesF, setF, updF, Fam.zeroth, Fam.rk, Ck.rk, C.rk, E.rk, T.rk, key, List.map_cons, List.map_nil, List.cons_append, List.nil_append, List.length_cons, List.length_nil, Option.map_some, Option.bind_some, Nat.reduceAdd, Nat.zero_add, Nat.add_zero, Nat.add_sub_cancel_left, Int.toNat_natCast, reps, List.all_cons, List.all_nil, C.flat, List.append_eq, Bool.not_true, Bool.and_true, Bool.or_false, Bool.or_self, Bool.not_false, List.append_nil, Bool.and_self]); rfl) ?_
      repeat' (first
        | ((fail_if_success (with_reducible first | apply kL | apply kC | apply kF | apply kM | refine Exists.intro ?_ ?_)); first
          | ((with_reducible refine And.intro (fun (hb : _ = true) => ?_) (fun (hb : _ = false) => ?_)) <;> (try simp only [n1, n2, n3, n4, n5, n6, n7, n8, n9, n10, n11, n12, n13, n14, n15, n16, reduceCtorEq, n17, n18, n19, n20, n21, n22] at hb) <;> (try (first | (exfalso; omega) | exact bff hb (by assumption) | exact bff (by assumption) hb)))
          | (with_reducible refine Both.mk ?_ ?_)
          | ((with_reducible refine And.intro ?_ ?_); (focus (first | rfl | omega | exact fun _ _ => rfl | assumption | (split <;> omega) | (and_intros <;> first | rfl | omega | (split <;> omega)) | (dsimp only [maxLen]; and_intros <;> omega) | (simp only [n21, n22, m9]; first | omega | (and_intros <;> omega)))))
          | ((with_reducible refine Or.inl ⟨?_, ?_, ?_⟩); (focus rfl); (focus (and_intros <;> first | rfl | omega)))
          | ((with_reducible refine Or.inr (Or.inl ⟨?_, ?_⟩)); focus (and_intros <;> first | rfl | omega))
          | ((with_reducible refine Or.inr (Or.inr (Or.inl ⟨?_, ?_⟩))); focus (and_intros <;> first | rfl | omega))
          | ((with_reducible refine Or.inr (Or.inr (Or.inr ⟨?_, ?_⟩))); focus (and_intros <;> first | rfl | omega))
          | (with_reducible intro hc; (try simp only [capsP, and_true] at hc); (try (exfalso; omega)))
          | ((fail_if_success (with_reducible first | refine And.intro ?_ ?_ | refine Or.inl ?_ | intro _)); (conv => whnf); (fail_if_success (fail_if_success (with_reducible first | apply kL | apply kC | apply kF | apply kM | refine Exists.intro ?_ ?_ | refine Both.mk ?_ ?_ | refine And.intro ?_ ?_ | refine Or.inl ?_ | intro _))))))
      all_goals (
        refine FinK.mk ⟨[], _, _, ⟨rfl, rfl⟩, ?_⟩; (repeat' (first | (refine And.intro ?_ ?_) | exact trivial | rfl | exact Nat.le_refl _ | exact (fun _ _ => rfl) | exact all_one (by rfl) | (simp only [Int.toNat_natCast, Nat.zero_add, Nat.add_zero]; done)))
        all_goals (unfold viol; simp_all))
  · refine CallK.mk3 (σ := []) (nl := []) (cwithin o.dead r.dead) rfl rfl (List.append_nil _) (by (try simp only [↓List.length_cons, ↓List.length_nil, Nat.reduceAdd]); rfl) (by (try simp only [↓List.length_cons, ↓List.length_nil, Nat.reduceAdd]); rfl) (by (try simp (maxSteps := 1000000) only [givesF, setF, updF, Fam.zeroth, Fam.rk, Ck.rk, C.rk, E.rk, T.rk, key, List.map_cons, List.map_nil, List.cons_append, List.nil_append, List.length_cons, List.length_nil, Option.map_some, Option.bind_some, Nat.reduceAdd, Nat.zero_add, Nat.add_zero, Nat.add_sub_cancel_left, Int.toNat_natCast, reps, List.all_cons, List.all_nil, C.flat, List.append_eq, Bool.not_true, Bool.and_true, Bool.or_false, Bool.or_self, Bool.not_false, List.append_nil, Bool.and_self]); rfl) (by (repeat' (first | (refine And.intro ?_ ?_) | exact trivial | rfl | exact Nat.le_refl _ | exact (fun _ _ => rfl) | exact all_one (by rfl) | (simp only [Int.toNat_natCast, Nat.zero_add, Nat.add_zero]; done)))) ?_
    rintro v h' ⟨rfl, rfl⟩ hcaps
    refine ret_mk3 (by (try simp only [↓List.length_cons, ↓List.length_nil, Nat.reduceAdd]); rfl) (by (try simp (maxSteps := 1000000) only [givesF, setF, updF, Fam.zeroth, Fam.rk, Ck.rk, C.rk, E.rk, T.rk, key, List.map_cons, List.map_nil, List.cons_append, List.nil_append, List.length_cons, List.length_nil, Option.map_some, Option.bind_some, Nat.reduceAdd, Nat.zero_add, Nat.add_zero, Nat.add_sub_cancel_left, Int.toNat_natCast, reps, List.all_cons, List.all_nil, C.flat, List.append_eq, Bool.not_true, Bool.and_true, Bool.or_false, Bool.or_self, Bool.not_false, List.append_nil, Bool.and_self]); rfl) (by (try simp only [givesF, setF, updF, Fam.zeroth, Fam.rk, Ck.rk, C.rk, E.rk, T.rk, key, List.map_cons, List.map_nil, List.cons_append, List.nil_append, List.length_cons, List.length_nil, Option.map_some, Option.bind_some, Nat.reduceAdd, Nat.zero_add, Nat.add_zero, Nat.add_sub_cancel_left, Int.toNat_natCast, reps, List.all_cons, List.all_nil, C.flat, List.append_eq, Bool.not_true, Bool.and_true, Bool.or_false, Bool.or_self, Bool.not_false, List.append_nil, Bool.and_self]); rfl) ?_
    repeat' (first
      | ((fail_if_success (with_reducible first | apply kL | apply kC | apply kF | apply kM | refine Exists.intro ?_ ?_)); first
        | ((with_reducible refine And.intro (fun (hb : _ = true) => ?_) (fun (hb : _ = false) => ?_)) <;> (try simp only [n1, n2, n3, n4, n5, n6, n7, n8, n9, n10, n11, n12, n13, n14, n15, n16, reduceCtorEq, n17, n18, n19, n20, n21, n22] at hb) <;> (try (first | (exfalso; omega) | exact bff hb (by assumption) | exact bff (by assumption) hb)))
        | (with_reducible refine Both.mk ?_ ?_)
        | ((with_reducible refine And.intro ?_ ?_); (focus (first | rfl | omega | exact fun _ _ => rfl | assumption | (split <;> omega) | (and_intros <;> first | rfl | omega | (split <;> omega)) | (dsimp only [maxLen]; and_intros <;> omega) | (simp only [n21, n22, m9]; first | omega | (and_intros <;> omega)))))
        | ((with_reducible refine Or.inl ⟨?_, ?_, ?_⟩); (focus rfl); (focus (and_intros <;> first | rfl | omega)))
        | ((with_reducible refine Or.inr (Or.inl ⟨?_, ?_⟩)); focus (and_intros <;> first | rfl | omega))
        | ((with_reducible refine Or.inr (Or.inr (Or.inl ⟨?_, ?_⟩))); focus (and_intros <;> first | rfl | omega))
        | ((with_reducible refine Or.inr (Or.inr (Or.inr ⟨?_, ?_⟩))); focus (and_intros <;> first | rfl | omega))
        | (with_reducible intro hc; (try simp only [capsP, and_true] at hc); (try (exfalso; omega)))
        | ((fail_if_success (with_reducible first | refine And.intro ?_ ?_ | refine Or.inl ?_ | intro _)); (conv => whnf); (fail_if_success (fail_if_success (with_reducible first | apply kL | apply kC | apply kF | apply kM | refine Exists.intro ?_ ?_ | refine Both.mk ?_ ?_ | refine And.intro ?_ ?_ | refine Or.inl ?_ | intro _))))))
    · refine FinK.mk ⟨[], _, _, ⟨rfl, rfl⟩, ?_⟩; (repeat' (first | (refine And.intro ?_ ?_) | exact trivial | rfl | exact Nat.le_refl _ | exact (fun _ _ => rfl) | exact all_one (by rfl) | (simp only [Int.toNat_natCast, Nat.zero_add, Nat.add_zero]; done)))
      all_goals (unfold viol; simp_all)
    · refine CallK.mk3 (σ := []) (nl := []) (cwithin o.lease r.lease) rfl rfl (List.append_nil _) (by (try simp only [↓List.length_cons, ↓List.length_nil, Nat.reduceAdd]); rfl) (by (try simp only [↓List.length_cons, ↓List.length_nil, Nat.reduceAdd]); rfl) (by (try simp (maxSteps := 1000000) only [givesF, setF, updF, Fam.zeroth, Fam.rk, Ck.rk, C.rk, E.rk, T.rk, key, List.map_cons, List.map_nil, List.cons_append, List.nil_append, List.length_cons, List.length_nil, Option.map_some, Option.bind_some, Nat.reduceAdd, Nat.zero_add, Nat.add_zero, Nat.add_sub_cancel_left, Int.toNat_natCast, reps, List.all_cons, List.all_nil, C.flat, List.append_eq, Bool.not_true, Bool.and_true, Bool.or_false, Bool.or_self, Bool.not_false, List.append_nil, Bool.and_self]); rfl) (by (repeat' (first | (refine And.intro ?_ ?_) | exact trivial | rfl | exact Nat.le_refl _ | exact (fun _ _ => rfl) | exact all_one (by rfl) | (simp only [Int.toNat_natCast, Nat.zero_add, Nat.add_zero]; done)))) ?_
      rintro v h' ⟨rfl, rfl⟩ hcaps
      refine ret_mk3 (by (try simp only [↓List.length_cons, ↓List.length_nil, Nat.reduceAdd]); rfl) (by (try simp (maxSteps := 1000000) only [givesF, setF, updF, Fam.zeroth, Fam.rk, Ck.rk, C.rk, E.rk, T.rk, key, List.map_cons, List.map_nil, List.cons_append, List.nil_append, List.length_cons, List.length_nil, Option.map_some, Option.bind_some, Nat.reduceAdd, Nat.zero_add, Nat.add_zero, Nat.add_sub_cancel_left, Int.toNat_natCast, reps, List.all_cons, List.all_nil, C.flat, List.append_eq, Bool.not_true, Bool.and_true, Bool.or_false, Bool.or_self, Bool.not_false, List.append_nil, Bool.and_self]); rfl) (by (try simp only [givesF, setF, updF, Fam.zeroth, Fam.rk, Ck.rk, C.rk, E.rk, T.rk, key, List.map_cons, List.map_nil, List.cons_append, List.nil_append, List.length_cons, List.length_nil, Option.map_some, Option.bind_some, Nat.reduceAdd, Nat.zero_add, Nat.add_zero, Nat.add_sub_cancel_left, Int.toNat_natCast, reps, List.all_cons, List.all_nil, C.flat, List.append_eq, Bool.not_true, Bool.and_true, Bool.or_false, Bool.or_self, Bool.not_false, List.append_nil, Bool.and_self]); rfl) ?_
      repeat' (first
        | ((fail_if_success (with_reducible first | apply kL | apply kC | apply kF | apply kM | refine Exists.intro ?_ ?_)); first
          | ((with_reducible refine And.intro (fun (hb : _ = true) => ?_) (fun (hb : _ = false) => ?_)) <;> (try simp only [n1, n2, n3, n4, n5, n6, n7, n8, n9, n10, n11, n12, n13, n14, n15, n16, reduceCtorEq, n17, n18, n19, n20, n21, n22] at hb) <;> (try (first | (exfalso; omega) | exact bff hb (by assumption) | exact bff (by assumption) hb)))
          | (with_reducible refine Both.mk ?_ ?_)
          | ((with_reducible refine And.intro ?_ ?_); (focus (first | rfl | omega | exact fun _ _ => rfl | assumption | (split <;> omega) | (and_intros <;> first | rfl | omega | (split <;> omega)) | (dsimp only [maxLen]; and_intros <;> omega) | (simp only [n21, n22, m9]; first | omega | (and_intros <;> omega)))))
          | ((with_reducible refine Or.inl ⟨?_, ?_, ?_⟩); (focus rfl); (focus (and_intros <;> first | rfl | omega)))
          | ((with_reducible refine Or.inr (Or.inl ⟨?_, ?_⟩)); focus (and_intros <;> first | rfl | omega))
          | ((with_reducible refine Or.inr (Or.inr (Or.inl ⟨?_, ?_⟩))); focus (and_intros <;> first | rfl | omega))
          | ((with_reducible refine Or.inr (Or.inr (Or.inr ⟨?_, ?_⟩))); focus (and_intros <;> first | rfl | omega))
          | (with_reducible intro hc; (try simp only [capsP, and_true] at hc); (try (exfalso; omega)))
          | ((fail_if_success (with_reducible first | refine And.intro ?_ ?_ | refine Or.inl ?_ | intro _)); (conv => whnf); (fail_if_success (fail_if_success (with_reducible first | apply kL | apply kC | apply kF | apply kM | refine Exists.intro ?_ ?_ | refine Both.mk ?_ ?_ | refine And.intro ?_ ?_ | refine Or.inl ?_ | intro _))))))
      all_goals (
        refine FinK.mk ⟨[], _, _, ⟨rfl, rfl⟩, ?_⟩; (repeat' (first | (refine And.intro ?_ ?_) | exact trivial | rfl | exact Nat.le_refl _ | exact (fun _ _ => rfl) | exact all_one (by rfl) | (simp only [Int.toNat_natCast, Nat.zero_add, Nat.add_zero]; done)))
        all_goals (unfold viol; simp_all))
  · refine FinK.mk ⟨[], _, _, ⟨rfl, rfl⟩, ?_⟩; (repeat' (first | (refine And.intro ?_ ?_) | exact trivial | rfl | exact Nat.le_refl _ | exact (fun _ _ => rfl) | exact all_one (by rfl) | (simp only [Int.toNat_natCast, Nat.zero_add, Nat.add_zero]; done)))
    all_goals (unfold viol; simp_all)
  · refine CallK.mk3 (σ := []) (nl := []) (cwithin o.dead r.dead) rfl rfl (List.append_nil _) (by (try simp only [↓List.length_cons, ↓List.length_nil, Nat.reduceAdd]); rfl) (by (try simp only [↓List.length_cons, ↓List.length_nil, Nat.reduceAdd]); rfl) (by (try simp (maxSteps := 1000000) only [givesF, setF, updF, Fam.zeroth, Fam.rk, Ck.rk, C.rk, E.rk, T.rk, key, List.map_cons, List.map_nil, List.cons_append, List.nil_append, List.length_cons, List.length_nil, Option.map_some, Option.bind_some, Nat.reduceAdd, Nat.zero_add, Nat.add_zero, Nat.add_sub_cancel_left, Int.toNat_natCast, reps, List.all_cons, List.all_nil, C.flat, List.append_eq, Bool.not_true, Bool.and_true, Bool.or_false, Bool.or_self, Bool.not_false, List.append_nil, Bool.and_self]); rfl) (by (repeat' (first | (refine And.intro ?_ ?_) | exact trivial | rfl | exact Nat.le_refl _ | exact (fun _ _ => rfl) | exact all_one (by rfl) | (simp only [Int.toNat_natCast, Nat.zero_add, Nat.add_zero]; done)))) ?_
    rintro v h' ⟨rfl, rfl⟩ hcaps
    refine ret_mk3 (by (try simp only [↓List.length_cons, ↓List.length_nil, Nat.reduceAdd]); rfl) (by (try simp (maxSteps := 1000000) only [givesF, setF, updF, Fam.zeroth, Fam.rk, Ck.rk, C.rk, E.rk, T.rk, key, List.map_cons, List.map_nil, List.cons_append, List.nil_append, List.length_cons, List.length_nil, Option.map_some, Option.bind_some, Nat.reduceAdd, Nat.zero_add, Nat.add_zero, Nat.add_sub_cancel_left, Int.toNat_natCast, reps, List.all_cons, List.all_nil, C.flat, List.append_eq, Bool.not_true, Bool.and_true, Bool.or_false, Bool.or_self, Bool.not_false, List.append_nil, Bool.and_self]); rfl) (by (try simp only [givesF, setF, updF, Fam.zeroth, Fam.rk, Ck.rk, C.rk, E.rk, T.rk, key, List.map_cons, List.map_nil, List.cons_append, List.nil_append, List.length_cons, List.length_nil, Option.map_some, Option.bind_some, Nat.reduceAdd, Nat.zero_add, Nat.add_zero, Nat.add_sub_cancel_left, Int.toNat_natCast, reps, List.all_cons, List.all_nil, C.flat, List.append_eq, Bool.not_true, Bool.and_true, Bool.or_false, Bool.or_self, Bool.not_false, List.append_nil, Bool.and_self]); rfl) ?_
    repeat' (first
      | ((fail_if_success (with_reducible first | apply kL | apply kC | apply kF | apply kM | refine Exists.intro ?_ ?_)); first
        | ((with_reducible refine And.intro (fun (hb : _ = true) => ?_) (fun (hb : _ = false) => ?_)) <;> (try simp only [n1, n2, n3, n4, n5, n6, n7, n8, n9, n10, n11, n12, n13, n14, n15, n16, reduceCtorEq, n17, n18, n19, n20, n21, n22] at hb) <;> (try (first | (exfalso; omega) | exact bff hb (by assumption) | exact bff (by assumption) hb)))
        | (with_reducible refine Both.mk ?_ ?_)
        | ((with_reducible refine And.intro ?_ ?_); (focus (first | rfl | omega | exact fun _ _ => rfl | assumption | (split <;> omega) | (and_intros <;> first | rfl | omega | (split <;> omega)) | (dsimp only [maxLen]; and_intros <;> omega) | (simp only [n21, n22, m9]; first | omega | (and_intros <;> omega)))))
        | ((with_reducible refine Or.inl ⟨?_, ?_, ?_⟩); (focus rfl); (focus (and_intros <;> first | rfl | omega)))
        | ((with_reducible refine Or.inr (Or.inl ⟨?_, ?_⟩)); focus (and_intros <;> first | rfl | omega))
        | ((with_reducible refine Or.inr (Or.inr (Or.inl ⟨?_, ?_⟩))); focus (and_intros <;> first | rfl | omega))
        | ((with_reducible refine Or.inr (Or.inr (Or.inr ⟨?_, ?_⟩))); focus (and_intros <;> first | rfl | omega))
        | (with_reducible intro hc; (try simp only [capsP, and_true] at hc); (try (exfalso; omega)))
        | ((fail_if_success (with_reducible first | refine And.intro ?_ ?_ | refine Or.inl ?_ | intro _)); (conv => whnf); (fail_if_success (fail_if_success (with_reducible first | apply kL | apply kC | apply kF | apply kM | refine Exists.intro ?_ ?_ | refine Both.mk ?_ ?_ | refine And.intro ?_ ?_ | refine Or.inl ?_ | intro _))))))
    · refine FinK.mk ⟨[], _, _, ⟨rfl, rfl⟩, ?_⟩; (repeat' (first | (refine And.intro ?_ ?_) | exact trivial | rfl | exact Nat.le_refl _ | exact (fun _ _ => rfl) | exact all_one (by rfl) | (simp only [Int.toNat_natCast, Nat.zero_add, Nat.add_zero]; done)))
      all_goals (unfold viol; simp_all)
    · refine CallK.mk3 (σ := []) (nl := []) (cwithin o.lease r.lease) rfl rfl (List.append_nil _) (by (try simp only [↓List.length_cons, ↓List.length_nil, Nat.reduceAdd]); rfl) (by (try simp only [↓List.length_cons, ↓List.length_nil, Nat.reduceAdd]); rfl) (by (try simp (maxSteps := 1000000) only [givesF, setF, updF, Fam.zeroth, Fam.rk, Ck.rk, C.rk, E.rk, T.rk, key, List.map_cons, List.map_nil, List.cons_append, List.nil_append, List.length_cons, List.length_nil, Option.map_some, Option.bind_some, Nat.reduceAdd, Nat.zero_add, Nat.add_zero, Nat.add_sub_cancel_left, Int.toNat_natCast, reps, List.all_cons, List.all_nil, C.flat, List.append_eq, Bool.not_true, Bool.and_true, Bool.or_false, Bool.or_self, Bool.not_false, List.append_nil, Bool.and_self]); rfl) (by (repeat' (first | (refine And.intro ?_ ?_) | exact trivial | rfl | exact Nat.le_refl _ | exact (fun _ _ => rfl) | exact all_one (by rfl) | (simp only [Int.toNat_natCast, Nat.zero_add, Nat.add_zero]; done)))) ?_
      rintro v h' ⟨rfl, rfl⟩ hcaps
      refine ret_mk3 (by (try simp only [↓List.length_cons, ↓List.length_nil, Nat.reduceAdd]); rfl) (by (try simp (maxSteps := 1000000) only [givesF, setF, updF, Fam.zeroth, Fam.rk, Ck.rk, C.rk, E.rk, T.rk, key, List.map_cons, List.map_nil, List.cons_append, List.nil_append, List.length_cons, List.length_nil, Option.map_some, Option.bind_some, Nat.reduceAdd, Nat.zero_add, Nat.add_zero, Nat.add_sub_cancel_left, Int.toNat_natCast, reps, List.all_cons, List.all_nil, C.flat, List.append_eq, Bool.not_true, Bool.and_true, Bool.or_false, Bool.or_self, Bool.not_false, List.append_nil, Bool.and_self]); rfl) (by (try simp only [givesF, setF, updF, Fam.zeroth, Fam.rk, Ck.rk, C.rk, E.rk, T.rk, key, List.map_cons, List.map_nil, List.cons_append, List.nil_append, List.length_cons, List.length_nil, Option.map_some, Option.bind_some, Nat.reduceAdd, Nat.zero_add, Nat.add_zero, Nat.add_sub_cancel_left, Int.toNat_natCast, reps, List.all_cons, List.all_nil, C.flat, List.append_eq, Bool.not_true, Bool.and_true, Bool.or_false, Bool.or_self, Bool.not_false, List.append_nil, Bool.and_self]); rfl) ?_
      repeat' (first
        | ((fail_if_success (with_reducible first | apply kL | apply kC | apply kF | apply kM | refine Exists.intro ?_ ?_)); first
          | ((with_reducible refine And.intro (fun (hb : _ = true) => ?_) (fun (hb : _ = false) => ?_)) <;> (try simp only [n1, n2, n3, n4, n5, n6, n7, n8, n9, n10, n11, n12, n13, n14, n15, n16, reduceCtorEq, n17, n18, n19, n20, n21, n22] at hb) <;> (try (first | (exfalso; omega) | exact bff hb (by assumption) | exact bff (by assumption) hb)))
          | (with_reducible refine Both.mk ?_ ?_)
          | ((with_reducible refine And.intro ?_ ?_); (focus (first | rfl | omega | exact fun _ _ => rfl | assumption | (split <;> omega) | (and_intros <;> first | rfl | omega | (split <;> omega)) | (dsimp only [maxLen]; and_intros <;> omega) | (simp only [n21, n22, m9]; first | omega | (and_intros <;> omega)))))
          | ((with_reducible refine Or.inl ⟨?_, ?_, ?_⟩); (focus rfl); (focus (and_intros <;> first | rfl | omega)))
          | ((with_reducible refine Or.inr (Or.inl ⟨?_, ?_⟩)); focus (and_intros <;> first | rfl | omega))
          | ((with_reducible refine Or.inr (Or.inr (Or.inl ⟨?_, ?_⟩))); focus (and_intros <;> first | rfl | omega))
          | ((with_reducible refine Or.inr (Or.inr (Or.inr ⟨?_, ?_⟩))); focus (and_intros <;> first | rfl | omega))
          | (with_reducible intro hc; (try simp only [capsP, and_true] at hc); (try (exfalso; omega)))
          | ((fail_if_success (with_reducible first | refine And.intro ?_ ?_ | refine Or.inl ?_ | intro _)); (conv => whnf); (fail_if_success (fail_if_success (with_reducible first | apply kL | apply kC | apply kF | apply kM | refine Exists.intro ?_ ?_ | refine Both.mk ?_ ?_ | refine And.intro ?_ ?_ | refine Or.inl ?_ | intro _))))))
      all_goals (
        refine FinK.mk ⟨[], _, _, ⟨rfl, rfl⟩, ?_⟩; (repeat' (first | (refine And.intro ?_ ?_) | exact trivial | rfl | exact Nat.le_refl _ | exact (fun _ _ => rfl) | exact all_one (by rfl) | (simp only [Int.toNat_natCast, Nat.zero_add, Nat.add_zero]; done)))
        all_goals (unfold viol; simp_all))
  · refine CallK.mk3 (σ := []) (nl := []) (cwithin o.dead r.dead) rfl rfl (List.append_nil _) (by (try simp only [↓List.length_cons, ↓List.length_nil, Nat.reduceAdd]); rfl) (by (try simp only [↓List.length_cons, ↓List.length_nil, Nat.reduceAdd]); rfl) (by (try simp (maxSteps := 1000000) only [givesF, setF, updF, Fam.zeroth, Fam.rk, Ck.rk, C.rk, E.rk, T.rk, key, List.map_cons, List.map_nil, List.cons_append, List.nil_append, List.length_cons, List.length_nil, Option.map_some, Option.bind_some, Nat.reduceAdd, Nat.zero_add, Nat.add_zero, Nat.add_sub_cancel_left, Int.toNat_natCast, reps, List.all_cons, List.all_nil, C.flat, List.append_eq, Bool.not_true, Bool.and_true, Bool.or_false, Bool.or_self, Bool.not_false, List.append_nil, Bool.and_self]); rfl) (by (repeat' (first | (refine And.intro ?_ ?_) | exact trivial | rfl | exact Nat.le_refl _ | exact (fun _ _ => rfl) | exact all_one (by rfl) | (simp only [Int.toNat_natCast, Nat.zero_add, Nat.add_zero]; done)))) ?_
    rintro v h' ⟨rfl, rfl⟩ hcaps
    refine ret_mk3 (by (try simp only [↓List.length_cons, ↓List.length_nil, Nat.reduceAdd]); rfl) (by (try simp (maxSteps := 1000000) only [givesF, setF, updF, Fam.zeroth, Fam.rk, Ck.rk, C.rk, E.rk, T.rk, key, List.map_cons, List.map_nil, List.cons_append, List.nil_append, List.length_cons, List.length_nil, Option.map_some, Option.bind_some, Nat.reduceAdd, Nat.zero_add, Nat.add_zero, Nat.add_sub_cancel_left, Int.toNat_natCast, reps, List.all_cons, List.all_nil, C.flat, List.append_eq, Bool.not_true, Bool.and_true, Bool.or_false, Bool.or_self, Bool.not_false, List.append_nil, Bool.and_self]); rfl) (by (try simp only [givesF, setF, updF, Fam.zeroth, Fam.rk, Ck.rk, C.rk, E.rk, T.rk, key, List.map_cons, List.map_nil, List.cons_append, List.nil_append, List.length_cons, List.length_nil, Option.map_some, Option.bind_some, Nat.reduceAdd, Nat.zero_add, Nat.add_zero, Nat.add_sub_cancel_left, Int.toNat_natCast, reps, List.all_cons, List.all_nil, C.flat, List.append_eq, Bool.not_true, Bool.and_true, Bool.or_false, Bool.or_self, Bool.not_false, List.append_nil, Bool.and_self]); rfl) ?_
    repeat' (first
      | ((fail_if_success (with_reducible first | apply kL | apply kC | apply kF | apply kM | refine Exists.intro ?_ ?_)); first
        | ((with_reducible refine And.intro (fun (hb : _ = true) => ?_) (fun (hb : _ = false) => ?_)) <;> (try simp only [n1, n2, n3, n4, n5, n6, n7, n8, n9, n10, n11, n12, n13, n14, n15, n16, reduceCtorEq, n17, n18, n19, n20, n21, n22] at hb) <;> (try (first | (exfalso; omega) | exact bff hb (by assumption) | exact bff (by assumption) hb)))
        | (with_reducible refine Both.mk ?_ ?_)
        | ((with_reducible refine And.intro ?_ ?_); (focus (first | rfl | omega | exact fun _ _ => rfl | assumption | (split <;> omega) | (and_intros <;> first | rfl | omega | (split <;> omega)) | (dsimp only [maxLen]; and_intros <;> omega) | (simp only [n21, n22, m9]; first | omega | (and_intros <;> omega)))))
        | ((with_reducible refine Or.inl ⟨?_, ?_, ?_⟩); (focus rfl); (focus (and_intros <;> first | rfl | omega)))
        | ((with_reducible refine Or.inr (Or.inl ⟨?_, ?_⟩)); focus (and_intros <;> first | rfl | omega))
        | ((with_reducible refine Or.inr (Or.inr (Or.inl ⟨?_, ?_⟩))); focus (and_intros <;> first | rfl | omega))
        | ((with_reducible refine Or.inr (Or.inr (Or.inr ⟨?_, ?_⟩))); focus (and_intros <;> first | rfl | omega))
        | (with_reducible intro hc; (try simp only [capsP, and_true] at hc); (try (exfalso; omega)))
        | ((fail_if_success (with_reducible first | refine And.intro ?_ ?_ | refine Or.inl ?_ | intro _)); (conv => whnf); (fail_if_success (fail_if_success (with_reducible first | apply kL | apply kC | apply kF | apply kM | refine Exists.intro ?_ ?_ | refine Both.mk ?_ ?_ | refine And.intro ?_ ?_ | refine Or.inl ?_ | intro _))))))
    · refine FinK.mk ⟨[], _, _, ⟨rfl, rfl⟩, ?_⟩; (repeat' (first | (refine And.intro ?_ ?_) | exact trivial | rfl | exact Nat.le_refl _ | exact (fun _ _ => rfl) | exact all_one (by rfl) | (simp only [Int.toNat_natCast, Nat.zero_add, Nat.add_zero]; done)))
      all_goals (unfold viol; simp_all)
    · refine CallK.mk3 (σ := []) (nl := []) (cwithin o.lease r.lease) rfl rfl (List.append_nil _) (by (try simp only [↓List.length_cons, ↓List.length_nil, Nat.reduceAdd]); rfl) (by (try simp only [↓List.length_cons, ↓List.length_nil, Nat.reduceAdd]); rfl) (by (try simp (maxSteps := 1000000) only [givesF, setF, updF, Fam.zeroth, Fam.rk, Ck.rk, C.rk, E.rk, T.rk, key, List.map_cons, List.map_nil, List.cons_append, List.nil_append, List.length_cons, List.length_nil, Option.map_some, Option.bind_some, Nat.reduceAdd, Nat.zero_add, Nat.add_zero, Nat.add_sub_cancel_left, Int.toNat_natCast, reps, List.all_cons, List.all_nil, C.flat, List.append_eq, Bool.not_true, Bool.and_true, Bool.or_false, Bool.or_self, Bool.not_false, List.append_nil, Bool.and_self]); rfl) (by (repeat' (first | (refine And.intro ?_ ?_) | exact trivial | rfl | exact Nat.le_refl _ | exact (fun _ _ => rfl) | exact all_one (by rfl) | (simp only [Int.toNat_natCast, Nat.zero_add, Nat.add_zero]; done)))) ?_
      rintro v h' ⟨rfl, rfl⟩ hcaps
      refine ret_mk3 (by (try simp only [↓List.length_cons, ↓List.length_nil, Nat.reduceAdd]); rfl) (by (try simp (maxSteps := 1000000) only [givesF, setF, updF, Fam.zeroth, Fam.rk, Ck.rk, C.rk, E.rk, T.rk, key, List.map_cons, List.map_nil, List.cons_append, List.nil_append, List.length_cons, List.length_nil, Option.map_some, Option.bind_some, Nat.reduceAdd, Nat.zero_add, Nat.add_zero, Nat.add_sub_cancel_left, Int.toNat_natCast, reps, List.all_cons, List.all_nil, C.flat, List.append_eq, Bool.not_true, Bool.and_true, Bool.or_false, Bool.or_self, Bool.not_false, List.append_nil, Bool.and_self]); rfl) (by (try simp only [givesF, setF, updF, Fam.zeroth, Fam.rk, Ck.rk, C.rk, E.rk, T.rk, key, List.map_cons, List.map_nil, List.cons_append, List.nil_append, List.length_cons, List.length_nil, Option.map_some, Option.bind_some, Nat.reduceAdd, Nat.zero_add, Nat.add_zero, Nat.add_sub_cancel_left, Int.toNat_natCast, reps, List.all_cons, List.all_nil, C.flat, List.append_eq, Bool.not_true, Bool.and_true, Bool.or_false, Bool.or_self, Bool.not_false, List.append_nil, Bool.and_self]); rfl) ?_
      repeat' (first
        | ((fail_if_success (with_reducible first | apply kL | apply kC | apply kF | apply kM | refine Exists.intro ?_ ?_)); first
          | ((with_reducible refine And.intro (fun (hb : _ = true) => ?_) (fun (hb : _ = false) => ?_)) <;> (try simp only [n1, n2, n3, n4, n5, n6, n7, n8, n9, n10, n11, n12, n13, n14, n15, n16, reduceCtorEq, n17, n18, n19, n20, n21, n22] at hb) <;> (try (first | (exfalso; omega) | exact bff hb (by assumption) | exact bff (by assumption) hb)))
          | (with_reducible refine Both.mk ?_ ?_)
          | ((with_reducible refine And.intro ?_ ?_); (focus (first | rfl | omega | exact fun _ _ => rfl | assumption | (split <;> omega) | (and_intros <;> first | rfl | omega | (split <;> omega)) | (dsimp only [maxLen]; and_intros <;> omega) | (simp only [n21, n22, m9]; first | omega | (and_intros <;> omega)))))
          | ((with_reducible refine Or.inl ⟨?_, ?_, ?_⟩); (focus rfl); (focus (and_intros <;> first | rfl | omega)))
          | ((with_reducible refine Or.inr (Or.inl ⟨?_, ?_⟩)); focus (and_intros <;> first | rfl | omega))
          | ((with_reducible refine Or.inr (Or.inr (Or.inl ⟨?_, ?_⟩))); focus (and_intros <;> first | rfl | omega))
          | ((with_reducible refine Or.inr (Or.inr (Or.inr ⟨?_, ?_⟩))); focus (and_intros <;> first | rfl | omega))
          | (with_reducible intro hc; (try simp only [capsP, and_true] at hc); (try (exfalso; omega)))
          | ((fail_if_success (with_reducible first | refine And.intro ?_ ?_ | refine Or.inl ?_ | intro _)); (conv => whnf); (fail_if_success (fail_if_success (with_reducible first | apply kL | apply kC | apply kF | apply kM | refine Exists.intro ?_ ?_ | refine Both.mk ?_ ?_ | refine And.intro ?_ ?_ | refine Or.inl ?_ | intro _))))))
      all_goals (
        refine FinK.mk ⟨[], _, _, ⟨rfl, rfl⟩, ?_⟩; (repeat' (first | (refine And.intro ?_ ?_) | exact trivial | rfl | exact Nat.le_refl _ | exact (fun _ _ => rfl) | exact all_one (by rfl) | (simp only [Int.toNat_natCast, Nat.zero_add, Nat.add_zero]; done)))
        all_goals (unfold viol; simp_all))

set_option maxRecDepth 10000 in
theorem ccompat (o r : Qos) : Ctr Try.prog 42 [.a (encQ o), .a (encQ r)] [] fun v h => v = .c (.b (decide (viol o r = 0))) ∧ h = [] := by
  refine Ctr.mk' tbv mixed Try.func42 rfl rfl rfl (fun _ _ => by kernel_rfl) (by kernel_rfl) (by rfl) (by rfl) (by (repeat' (first | (refine And.intro ?_ ?_) | exact trivial | rfl | exact Nat.le_refl _ | exact (fun _ _ => rfl) | exact all_one (by rfl) | (simp only [Int.toNat_natCast, Nat.zero_add, Nat.add_zero]; done)))) ?_
  repeat' (first
    | ((fail_if_success (with_reducible first | apply kL | apply kC | apply kF | apply kM | refine Exists.intro ?_ ?_)); first
      | ((with_reducible refine And.intro (fun (hb : _ = true) => ?_) (fun (hb : _ = false) => ?_)) <;> (try simp only [n1, n2, n3, n4, n5, n6, n7, n8, n9, n10, n11, n12, n13, n14, n15, n16, reduceCtorEq, n17, n18, n19, n20, n21, n22] at hb) <;> (try (first | (exfalso; omega) | exact bff hb (by assumption) | exact bff (by assumption) hb)))
      | (with_reducible refine Both.mk ?_ ?_)
      | ((with_reducible refine And.intro ?_ ?_); (focus (first | rfl | omega | exact fun _ _ => rfl | assumption | (split <;> omega) | (and_intros <;> first | rfl | omega | (split <;> omega)) | (dsimp only [maxLen]; and_intros <;> omega) | (simp only [n21, n22, m9]; first | omega | (and_intros <;> omega)))))
      | ((with_reducible refine Or.inl ⟨?_, ?_, ?_⟩); (focus rfl); (focus (and_intros <;> first | rfl | omega)))
      | ((with_reducible refine Or.inr (Or.inl ⟨?_, ?_⟩)); focus (and_intros <;> first | rfl | omega))
      | ((with_reducible refine Or.inr (Or.inr (Or.inl ⟨?_, ?_⟩))); focus (and_intros <;> first | rfl | omega))
      | ((with_reducible refine Or.inr (Or.inr (Or.inr ⟨?_, ?_⟩))); focus (and_intros <;> first | rfl | omega))
      | (with_reducible intro hc; (try simp only [capsP, and_true] at hc); (try (exfalso; omega)))
      | ((fail_if_success (with_reducible first | refine And.intro ?_ ?_ | refine Or.inl ?_ | intro _)); (conv => whnf); (fail_if_success (fail_if_success (with_reducible first | apply kL | apply kC | apply kF | apply kM | refine Exists.intro ?_ ?_ | refine Both.mk ?_ ?_ | refine And.intro ?_ ?_ | refine Or.inl ?_ | intro _))))))
  refine CallK.mk3 (σ := []) (nl := []) (cviol o r) rfl rfl (List.append_nil _) (by (try simp only [↓List.length_cons, ↓List.length_nil, Nat.reduceAdd]); rfl) (by (try simp only [↓List.length_cons, ↓List.length_nil, Nat.reduceAdd]); rfl) (by (try simp (maxSteps := 1000000) only [givesF, setF, updF, Fam.zeroth, Fam.rk, Ck.rk, C.rk, E.rk, T.rk, key, List.map_cons, List.map_nil, List.cons_append, List.nil_append, List.length_cons, List.length_nil, Option.map_some, Option.bind_some, Nat.reduceAdd, Nat.zero_add, Nat.add_zero, Nat.add_sub_cancel_left, Int.toNat_natCast, reps, List.all_cons, List.all_nil, C.flat, List.append_eq, Bool.not_true, Bool.and_true, Bool.or_false, Bool.or_self, Bool.not_false, List.append_nil, Bool.and_self]); rfl) (by (repeat' (first | (refine And.intro ?_ ?_) | exact trivial | rfl | exact Nat.le_refl _ | exact (fun _ _ => rfl) | exact all_one (by rfl) | (simp only [Int.toNat_natCast, Nat.zero_add, Nat.add_zero]; done)))) ?_
  rintro v h' ⟨rfl, rfl⟩ hcaps
  refine ret_mk3 (by (try simp only [↓List.length_cons, ↓List.length_nil, Nat.reduceAdd]); rfl) (by (try simp (maxSteps := 1000000) only [givesF, setF, updF, Fam.zeroth, Fam.rk, Ck.rk, C.rk, E.rk, T.rk, key, List.map_cons, List.map_nil, List.cons_append, List.nil_append, List.length_cons, List.length_nil, Option.map_some, Option.bind_some, Nat.reduceAdd, Nat.zero_add, Nat.add_zero, Nat.add_sub_cancel_left, Int.toNat_natCast, reps, List.all_cons, List.all_nil, C.flat, List.append_eq, Bool.not_true, Bool.and_true, Bool.or_false, Bool.or_self, Bool.not_false, List.append_nil, Bool.and_self, encQ]); rfl) (by (try simp only [givesF, setF, updF, Fam.zeroth, Fam.rk, Ck.rk, C.rk, E.rk, T.rk, key, List.map_cons, List.map_nil, List.cons_append, List.nil_append, List.length_cons, List.length_nil, Option.map_some, Option.bind_some, Nat.reduceAdd, Nat.zero_add, Nat.add_zero, Nat.add_sub_cancel_left, Int.toNat_natCast, reps, List.all_cons, List.all_nil, C.flat, List.append_eq, Bool.not_true, Bool.and_true, Bool.or_false, Bool.or_self, Bool.not_false, List.append_nil, Bool.and_self, encQ]); rfl) ?_
  repeat' (first
    | ((fail_if_success (with_reducible first | apply kL | apply kC | apply kF | apply kM | refine Exists.intro ?_ ?_)); first
      | ((with_reducible refine And.intro (fun (hb : _ = true) => ?_) (fun (hb : _ = false) => ?_)) <;> (try simp only [n1, n2, n3, n4, n5, n6, n7, n8, n9, n10, n11, n12, n13, n14, n15, n16, reduceCtorEq, n17, n18, n19, n20, n21, n22] at hb) <;> (try (first | (exfalso; omega) | exact bff hb (by assumption) | exact bff (by assumption) hb)))
      | (with_reducible refine Both.mk ?_ ?_)
      | ((with_reducible refine And.intro ?_ ?_); (focus (first | rfl | omega | exact fun _ _ => rfl | assumption | (split <;> omega) | (and_intros <;> first | rfl | omega | (split <;> omega)) | (dsimp only [maxLen]; and_intros <;> omega) | (simp only [n21, n22, m9]; first | omega | (and_intros <;> omega)))))
      | ((with_reducible refine Or.inl ⟨?_, ?_, ?_⟩); (focus rfl); (focus (and_intros <;> first | rfl | omega)))
      | ((with_reducible refine Or.inr (Or.inl ⟨?_, ?_⟩)); focus (and_intros <;> first | rfl | omega))
      | ((with_reducible refine Or.inr (Or.inr (Or.inl ⟨?_, ?_⟩))); focus (and_intros <;> first | rfl | omega))
      | ((with_reducible refine Or.inr (Or.inr (Or.inr ⟨?_, ?_⟩))); focus (and_intros <;> first | rfl | omega))
      | (with_reducible intro hc; (try simp only [capsP, and_true] at hc); (try (exfalso; omega)))
      | ((fail_if_success (with_reducible first | refine And.intro ?_ ?_ | refine Or.inl ?_ | intro _)); (conv => whnf); (fail_if_success (fail_if_success (with_reducible first | apply kL | apply kC | apply kF | apply kM | refine Exists.intro ?_ ?_ | refine Both.mk ?_ ?_ | refine And.intro ?_ ?_ | refine Or.inl ?_ | intro _))))))
  refine FinK.mk ⟨[], _, _, ⟨rfl, rfl⟩, ?_⟩; (repeat' (first | (refine And.intro ?_ ?_) | exact trivial | rfl | exact Nat.le_refl _ | exact (fun _ _ => rfl) | exact all_one (by rfl) | (simp only [Int.toNat_natCast, Nat.zero_add, Nat.add_zero]; done)))

def Rd0 : Rd := ⟨[], [], [], 0, fun _ => none⟩

set_option maxRecDepth 10000 in
set_option maxHeartbeats 4000000 in
theorem cnew (id : Int) (q : Qos) : Ctr Try.prog 26 [.c (.i .i64 id), .a (encQ q)] []
      fun v h => ((1 ≤ id ∧ okQ q) ∧ v = .t [.c (.p 0 0 0), .c (.i .i64 0)] ∧ h = rdB id q Rd0 0 0) ∨ (¬ (1 ≤ id ∧ okQ q) ∧ v = .t [.c .nilp, .c (.i .i64 4)] ∧ h = []) := by
  refine Ctr.mk' tbv mixed Try.func26 rfl rfl rfl (fun _ _ => by kernel_rfl) (by kernel_rfl) (by rfl) (by rfl) (by (repeat' (first | (refine And.intro ?_ ?_) | exact trivial | rfl | exact Nat.le_refl _ | exact (fun _ _ => rfl) | exact all_one (by rfl) | (simp only [Int.toNat_natCast, Nat.zero_add, Nat.add_zero]; done)))) ?_
  repeat' (first
    | ((fail_if_success (with_reducible first | apply kL | apply kC | apply kF | apply kM | refine Exists.intro ?_ ?_)); first
      | ((with_reducible refine And.intro (fun (hb : _ = true) => ?_) (fun (hb : _ = false) => ?_)) <;> (try simp only [n1, n2, n3, n4, n5, n6, n7, n8, n9, n10, n11, n12, n13, n14, n15, n16, reduceCtorEq, n17, n18, n19, n20, n21, n22] at hb) <;> (try (first | (exfalso; omega) | exact bff hb (by assumption) | exact bff (by assumption) hb)))
      | (with_reducible refine Both.mk ?_ ?_)
      | ((with_reducible refine And.intro ?_ ?_); (focus (first | rfl | omega | exact fun _ _ => rfl | assumption | (split <;> omega) | (and_intros <;> first | rfl | omega | (split <;> omega)) | (dsimp only [maxLen]; and_intros <;> omega) | (simp only [n21, n22, m9]; first | omega | (and_intros <;> omega)))))
      | ((with_reducible refine Or.inl ⟨?_, ?_, ?_⟩); (focus rfl); (focus (and_intros <;> first | rfl | omega)))
      | ((with_reducible refine Or.inr (Or.inl ⟨?_, ?_⟩)); focus (and_intros <;> first | rfl | omega))
      | ((with_reducible refine Or.inr (Or.inr (Or.inl ⟨?_, ?_⟩))); focus (and_intros <;> first | rfl | omega))
      | ((with_reducible refine Or.inr (Or.inr (Or.inr ⟨?_, ?_⟩))); focus (and_intros <;> first | rfl | omega))
      | (with_reducible intro hc; (try simp only [capsP, and_true] at hc); (try (exfalso; omega)))
      | ((fail_if_success (with_reducible first | refine And.intro ?_ ?_ | refine Or.inl ?_ | intro _)); (conv => whnf); (fail_if_success (fail_if_success (with_reducible first | apply kL | apply kC | apply kF | apply kM | refine Exists.intro ?_ ?_ | refine Both.mk ?_ ?_ | refine And.intro ?_ ?_ | refine Or.inl ?_ | intro _))))))
  · refine FinK.mk ⟨[], _, _, .inr ⟨by omega, rfl, rfl⟩, ?_⟩
    (repeat' (first | (refine And.intro ?_ ?_) | exact trivial | rfl | exact Nat.le_refl _ | exact (fun _ _ => rfl) | exact all_one (by rfl) | (simp only [Int.toNat_natCast, Nat.zero_add, Nat.add_zero]; done)))
  · have hb0 := hb
    refine CallK.mk3 (σ := []) (nl := []) (inew q) rfl rfl (List.append_nil _) (by (try simp only [↓List.length_cons, ↓List.length_nil, Nat.reduceAdd]); rfl) (by (try simp only [↓List.length_cons, ↓List.length_nil, Nat.reduceAdd]); rfl) (by (try simp (maxSteps := 1000000) only [givesF, setF, updF, Fam.zeroth, Fam.rk, Ck.rk, C.rk, E.rk, T.rk, key, List.map_cons, List.map_nil, List.cons_append, List.nil_append, List.length_cons, List.length_nil, Option.map_some, Option.bind_some, Nat.reduceAdd, Nat.zero_add, Nat.add_zero, Nat.add_sub_cancel_left, Int.toNat_natCast, reps, List.all_cons, List.all_nil, C.flat, List.append_eq, Bool.not_true, Bool.and_true, Bool.or_false, Bool.or_self, Bool.not_false, List.append_nil, Bool.and_self]); rfl) (by (repeat' (first | (refine And.intro ?_ ?_) | exact trivial | rfl | exact Nat.le_refl _ | exact (fun _ _ => rfl) | exact all_one (by rfl) | (simp only [Int.toNat_natCast, Nat.zero_add, Nat.add_zero]; done)))) ?_
    rintro v h' (⟨hq, rfl, rfl⟩ | ⟨hq, rfl, rfl⟩) hcaps
    · refine ret_mk3 (by (try simp only [↓List.length_cons, ↓List.length_nil, Nat.reduceAdd]); rfl) (by (try simp (maxSteps := 1000000) only [givesF, setF, updF, Fam.zeroth, Fam.rk, Ck.rk, C.rk, E.rk, T.rk, key, List.map_cons, List.map_nil, List.cons_append, List.nil_append, List.length_cons, List.length_nil, Option.map_some, Option.bind_some, Nat.reduceAdd, Nat.zero_add, Nat.add_zero, Nat.add_sub_cancel_left, Int.toNat_natCast, reps, List.all_cons, List.all_nil, C.flat, List.append_eq, Bool.not_true, Bool.and_true, Bool.or_false, Bool.or_self, Bool.not_false, List.append_nil, Bool.and_self, encQ]); rfl) (by (try simp only [givesF, setF, updF, Fam.zeroth, Fam.rk, Ck.rk, C.rk, E.rk, T.rk, key, List.map_cons, List.map_nil, List.cons_append, List.nil_append, List.length_cons, List.length_nil, Option.map_some, Option.bind_some, Nat.reduceAdd, Nat.zero_add, Nat.add_zero, Nat.add_sub_cancel_left, Int.toNat_natCast, reps, List.all_cons, List.all_nil, C.flat, List.append_eq, Bool.not_true, Bool.and_true, Bool.or_false, Bool.or_self, Bool.not_false, List.append_nil, Bool.and_self, encQ]); rfl) ?_
      repeat' (first
        | ((fail_if_success (with_reducible first | apply kL | apply kC | apply kF | apply kM | refine Exists.intro ?_ ?_)); first
          | ((with_reducible refine And.intro (fun (hb : _ = true) => ?_) (fun (hb : _ = false) => ?_)) <;> (try simp only [n1, n2, n3, n4, n5, n6, n7, n8, n9, n10, n11, n12, n13, n14, n15, n16, reduceCtorEq, n17, n18, n19, n20, n21, n22] at hb) <;> (try (first | (exfalso; omega) | exact bff hb (by assumption) | exact bff (by assumption) hb)))
          | (with_reducible refine Both.mk ?_ ?_)
          | ((with_reducible refine And.intro ?_ ?_); (focus (first | rfl | omega | exact fun _ _ => rfl | assumption | (split <;> omega) | (and_intros <;> first | rfl | omega | (split <;> omega)) | (dsimp only [maxLen]; and_intros <;> omega) | (simp only [n21, n22, m9]; first | omega | (and_intros <;> omega)))))
          | ((with_reducible refine Or.inl ⟨?_, ?_, ?_⟩); (focus rfl); (focus (and_intros <;> first | rfl | omega)))
          | ((with_reducible refine Or.inr (Or.inl ⟨?_, ?_⟩)); focus (and_intros <;> first | rfl | omega))
          | ((with_reducible refine Or.inr (Or.inr (Or.inl ⟨?_, ?_⟩))); focus (and_intros <;> first | rfl | omega))
          | ((with_reducible refine Or.inr (Or.inr (Or.inr ⟨?_, ?_⟩))); focus (and_intros <;> first | rfl | omega))
          | (with_reducible intro hc; (try simp only [capsP, and_true] at hc); (try (exfalso; omega)))
          | ((fail_if_success (with_reducible first | refine And.intro ?_ ?_ | refine Or.inl ?_ | intro _)); (conv => whnf); (fail_if_success (fail_if_success (with_reducible first | apply kL | apply kC | apply kF | apply kM | refine Exists.intro ?_ ?_ | refine Both.mk ?_ ?_ | refine And.intro ?_ ?_ | refine Or.inl ?_ | intro _))))))
      refine FinK.mk ⟨[4, 1, 3, 98, 2, 97, 96, 95], _, _, .inl ⟨⟨hb0, hq⟩, rfl, rfl⟩, ?_⟩
      (repeat' (first | (refine And.intro ?_ ?_) | exact trivial | rfl | exact Nat.le_refl _ | exact (fun _ _ => rfl) | exact all_one (by rfl) | (simp only [Int.toNat_natCast, Nat.zero_add, Nat.add_zero]; done)))
      all_goals first | (first | exact fun _ => trivial | exact fun x => mtO_le rfl | exact fun x => winO_le | exact fun x => mtO_bel rfl | exact fun x => winO_bel | exact fun x => mtR_bel rfl rfl | exact fun x => winR_bel) | exact fun _ => rfl | exact fun i hi => absurd hi (Nat.not_lt_zero i)
    · refine ret_mk3 (by (try simp only [↓List.length_cons, ↓List.length_nil, Nat.reduceAdd]); rfl) (by (try simp (maxSteps := 1000000) only [givesF, setF, updF, Fam.zeroth, Fam.rk, Ck.rk, C.rk, E.rk, T.rk, key, List.map_cons, List.map_nil, List.cons_append, List.nil_append, List.length_cons, List.length_nil, Option.map_some, Option.bind_some, Nat.reduceAdd, Nat.zero_add, Nat.add_zero, Nat.add_sub_cancel_left, Int.toNat_natCast, reps, List.all_cons, List.all_nil, C.flat, List.append_eq, Bool.not_true, Bool.and_true, Bool.or_false, Bool.or_self, Bool.not_false, List.append_nil, Bool.and_self, encQ]); rfl) (by (try simp only [givesF, setF, updF, Fam.zeroth, Fam.rk, Ck.rk, C.rk, E.rk, T.rk, key, List.map_cons, List.map_nil, List.cons_append, List.nil_append, List.length_cons, List.length_nil, Option.map_some, Option.bind_some, Nat.reduceAdd, Nat.zero_add, Nat.add_zero, Nat.add_sub_cancel_left, Int.toNat_natCast, reps, List.all_cons, List.all_nil, C.flat, List.append_eq, Bool.not_true, Bool.and_true, Bool.or_false, Bool.or_self, Bool.not_false, List.append_nil, Bool.and_self, encQ]); rfl) ?_
      repeat' (first
        | ((fail_if_success (with_reducible first | apply kL | apply kC | apply kF | apply kM | refine Exists.intro ?_ ?_)); first
          | ((with_reducible refine And.intro (fun (hb : _ = true) => ?_) (fun (hb : _ = false) => ?_)) <;> (try simp only [n1, n2, n3, n4, n5, n6, n7, n8, n9, n10, n11, n12, n13, n14, n15, n16, reduceCtorEq, n17, n18, n19, n20, n21, n22] at hb) <;> (try (first | (exfalso; omega) | exact bff hb (by assumption) | exact bff (by assumption) hb)))
          | (with_reducible refine Both.mk ?_ ?_)
          | ((with_reducible refine And.intro ?_ ?_); (focus (first | rfl | omega | exact fun _ _ => rfl | assumption | (split <;> omega) | (and_intros <;> first | rfl | omega | (split <;> omega)) | (dsimp only [maxLen]; and_intros <;> omega) | (simp only [n21, n22, m9]; first | omega | (and_intros <;> omega)))))
          | ((with_reducible refine Or.inl ⟨?_, ?_, ?_⟩); (focus rfl); (focus (and_intros <;> first | rfl | omega)))
          | ((with_reducible refine Or.inr (Or.inl ⟨?_, ?_⟩)); focus (and_intros <;> first | rfl | omega))
          | ((with_reducible refine Or.inr (Or.inr (Or.inl ⟨?_, ?_⟩))); focus (and_intros <;> first | rfl | omega))
          | ((with_reducible refine Or.inr (Or.inr (Or.inr ⟨?_, ?_⟩))); focus (and_intros <;> first | rfl | omega))
          | (with_reducible intro hc; (try simp only [capsP, and_true] at hc); (try (exfalso; omega)))
          | ((fail_if_success (with_reducible first | refine And.intro ?_ ?_ | refine Or.inl ?_ | intro _)); (conv => whnf); (fail_if_success (fail_if_success (with_reducible first | apply kL | apply kC | apply kF | apply kM | refine Exists.intro ?_ ?_ | refine Both.mk ?_ ?_ | refine And.intro ?_ ?_ | refine Or.inl ?_ | intro _))))))
      refine FinK.mk ⟨[], _, _, .inr ⟨fun h => hq h.2, rfl, rfl⟩, ?_⟩
      (repeat' (first | (refine And.intro ?_ ?_) | exact trivial | rfl | exact Nat.le_refl _ | exact (fun _ _ => rfl) | exact all_one (by rfl) | (simp only [Int.toNat_natCast, Nat.zero_add, Nat.add_zero]; done)))

theorem leK_cong {N : Nat} {q q' q'' : Ck} {A : Prop} (h : q' = q'') (hk : q.leK N q'' A) : q.leK N q' A := by
  rw [h]; exact hk
theorem map_adopt {R : Rd} {w : Int} {σ : List Sg} {a b : Nat} (h1 : ∀ x, key σ 0 6 x = (if x = w.toNat then b else a, if x = w.toNat then 0 else x)) (hno : ∀ i, i < R.M.length → (R.M.getD i default).2 ≠ w) (hR : RdOk R) (hw : 1 ≤ w) (i : Nat) (hi : i < (R.M ++ [(R.ck, w)]).length) :
    (if i = R.M.length then (R.ck, Key.i w, E.c (.p b 0 0)) else ((R.M.getD i default).1, Key.i (R.M.getD i default).2, E.c (.p a (R.M.getD i default).2.toNat 0))) =
      (((R.M ++ [(R.ck, w)]).getD i default).1, Key.i ((R.M ++ [(R.ck, w)]).getD i default).2, E.rk σ 0 (.c (.p 6 ((R.M ++ [(R.ck, w)]).getD i default).2.toNat 0))) := by
  by_cases h : i = R.M.length
  · subst h
    simp [List.getD, E.rk, C.rk, h1]
  · have hlt : i < R.M.length := by simp at hi; omega
    have e : (R.M ++ [(R.ck, w)]).getD i default = R.M.getD i default := by simp [List.getD, List.getElem?_append_left hlt]
    have h2 := (hR.a i hlt).1
    have h3 : ¬ (R.M.getD i default).2.toNat = w.toNat := fun e => hno i hlt (by omega)
    rw [if_neg h, e]
    simp only [E.rk, C.rk, h1, if_neg h3]

def matchE (q : Qos) (w nd : Int) (q2 : Qos) (R : Rd) : Int :=
  if w < 1 ∨ nd < 0 ∨ 8 ≤ nd then 4 else if ¬ okQ q2 then 4 else if ¬ viol q2 q = 0 then 14 else if (R.get w).isSome then 7 else 0
def matchR (q : Qos) (w nd : Int) (q2 : Qos) (R : Rd) : Rd :=
  if matchE q w nd q2 R = 0 then ⟨R.l, R.ls, R.M ++ [(R.ck, w)], R.ck + 1, fun y => if y = w.toNat then some ⟨nd, 1, q2.rel && q.rel, [], 0⟩ else R.D y⟩ else R

set_option maxRecDepth 10000 in
set_option maxHeartbeats 4000000 in
theorem cmatch (id : Int) (q : Qos) (R : Rd) (c cl n cm : Nat) (w nd : Int) (q2 : Qos) (hR : RdOk R) :
    Ctr Try.prog 21 [.c (.p 0 0 0), .c (.i .i64 w), .c (.i .i64 nd), .a (encQ q2)] [.one (rdr 1 2 3 id q R.ls.length cl), .one .no, .one (mapM 4 R.M R.ck), .one .no, mts 5 R.D, wins R.D]
      fun v h => v = .c (.i .i64 (matchE q w nd q2 R)) ∧ h = [.one (rdr 1 2 3 id q R.ls.length cl), .one .no, .one (mapM 6 (matchR q w nd q2 R).M (matchR q w nd q2 R).ck), .one .no, .one .no, .one .no, mts 7 (matchR q w nd q2 R).D, wins (matchR q w nd q2 R).D] := by
  refine Ctr.mk' tbv mixed Try.func21 rfl rfl rfl (fun _ _ => by kernel_rfl) (by kernel_rfl) (by rfl) (by rfl) (by (repeat' (first | (refine And.intro ?_ ?_) | exact trivial | rfl | exact Nat.le_refl _ | exact (fun _ _ => rfl) | exact all_one (by rfl) | (simp only [Int.toNat_natCast, Nat.zero_add, Nat.add_zero]; done))) <;> first | exact fun x => mtO_bel rfl | exact fun x => winO_bel) ?_
  repeat' (first
    | ((fail_if_success (with_reducible first | apply kL | apply kC | apply kF | apply kM | refine Exists.intro ?_ ?_)); first
      | ((with_reducible refine And.intro (fun (hb : _ = true) => ?_) (fun (hb : _ = false) => ?_)) <;> (try simp only [n1, n2, n3, n4, n5, n6, n7, n8, n9, n10, n11, n12, n13, n14, n15, n16, reduceCtorEq, n17, n18, n19, n20, n21, n22] at hb) <;> (try (first | (exfalso; omega) | exact bff hb (by assumption) | exact bff (by assumption) hb)))
      | (with_reducible refine Both.mk ?_ ?_)
      | ((with_reducible refine And.intro ?_ ?_); (focus (first | rfl | omega | exact fun _ _ => rfl | assumption | (split <;> omega) | (and_intros <;> first | rfl | omega | (split <;> omega)) | (dsimp only [maxLen]; and_intros <;> omega) | (simp only [n21, n22, m9]; first | omega | (and_intros <;> omega)))))
      | ((with_reducible refine Or.inl ⟨?_, ?_, ?_⟩); (focus rfl); (focus (and_intros <;> first | rfl | omega)))
      | ((with_reducible refine Or.inr (Or.inl ⟨?_, ?_⟩)); focus (and_intros <;> first | rfl | omega))
      | ((with_reducible refine Or.inr (Or.inr (Or.inl ⟨?_, ?_⟩))); focus (and_intros <;> first | rfl | omega))
      | ((with_reducible refine Or.inr (Or.inr (Or.inr ⟨?_, ?_⟩))); focus (and_intros <;> first | rfl | omega))
      | (with_reducible intro hc; (try simp only [capsP, and_true] at hc); (try (exfalso; omega)))
      | ((fail_if_success (with_reducible first | refine And.intro ?_ ?_ | refine Or.inl ?_ | intro _)); (conv => whnf); (fail_if_success (fail_if_success (with_reducible first | apply kL | apply kC | apply kF | apply kM | refine Exists.intro ?_ ?_ | refine Both.mk ?_ ?_ | refine And.intro ?_ ?_ | refine Or.inl ?_ | intro _))))))
  · have e1 : matchE q w nd q2 R = 4 := by
      unfold matchE
      rw [if_pos (by omega)]
    have e2 : matchR q w nd q2 R = R := by unfold matchR; rw [e1]; rfl
    rw [e1, e2]
    refine FinK.mk ⟨[0, 1, 2, 3, 4, 5, 4, 5], _, _, ⟨rfl, rfl⟩, ?_⟩; (repeat' (first | (refine And.intro ?_ ?_) | exact trivial | rfl | exact Nat.le_refl _ | exact (fun _ _ => rfl) | exact all_one (by rfl) | (simp only [Int.toNat_natCast, Nat.zero_add, Nat.add_zero]; done)))
    all_goals (first | exact fun _ => trivial | exact fun x => mtO_le rfl | exact fun x => winO_le | exact fun x => mtO_bel rfl | exact fun x => winO_bel | exact fun x => mtR_bel rfl rfl | exact fun x => winR_bel)
  · have e1 : matchE q w nd q2 R = 4 := by
      unfold matchE
      rw [if_pos (by omega)]
    have e2 : matchR q w nd q2 R = R := by unfold matchR; rw [e1]; rfl
    rw [e1, e2]
    refine FinK.mk ⟨[0, 1, 2, 3, 4, 5, 4, 5], _, _, ⟨rfl, rfl⟩, ?_⟩; (repeat' (first | (refine And.intro ?_ ?_) | exact trivial | rfl | exact Nat.le_refl _ | exact (fun _ _ => rfl) | exact all_one (by rfl) | (simp only [Int.toNat_natCast, Nat.zero_add, Nat.add_zero]; done)))
    all_goals (first | exact fun _ => trivial | exact fun x => mtO_le rfl | exact fun x => winO_le | exact fun x => mtO_bel rfl | exact fun x => winO_bel | exact fun x => mtR_bel rfl rfl | exact fun x => winR_bel)
  · have e1 : matchE q w nd q2 R = 4 := by
      unfold matchE
      rw [if_pos (by omega)]
    have e2 : matchR q w nd q2 R = R := by unfold matchR; rw [e1]; rfl
    rw [e1, e2]
    refine FinK.mk ⟨[0, 1, 2, 3, 4, 5, 4, 5], _, _, ⟨rfl, rfl⟩, ?_⟩; (repeat' (first | (refine And.intro ?_ ?_) | exact trivial | rfl | exact Nat.le_refl _ | exact (fun _ _ => rfl) | exact all_one (by rfl) | (simp only [Int.toNat_natCast, Nat.zero_add, Nat.add_zero]; done)))
    all_goals (first | exact fun _ => trivial | exact fun x => mtO_le rfl | exact fun x => winO_le | exact fun x => mtO_bel rfl | exact fun x => winO_bel | exact fun x => mtR_bel rfl rfl | exact fun x => winR_bel)
  have hA : ¬ (w < 1 ∨ nd < 0 ∨ 8 ≤ nd) := by omega
  have hw : 1 ≤ w := by omega
  refine CallK.mk3 (σ := []) (nl := []) (icheck q2) rfl rfl (List.append_nil _) (by (try simp only [↓List.length_cons, ↓List.length_nil, Nat.reduceAdd]); rfl) (by (try simp only [↓List.length_cons, ↓List.length_nil, Nat.reduceAdd]); rfl) (by (try simp (maxSteps := 1000000) only [givesF, setF, updF, Fam.zeroth, Fam.rk, Ck.rk, C.rk, E.rk, T.rk, key, List.map_cons, List.map_nil, List.cons_append, List.nil_append, List.length_cons, List.length_nil, Option.map_some, Option.bind_some, Nat.reduceAdd, Nat.zero_add, Nat.add_zero, Nat.add_sub_cancel_left, Int.toNat_natCast, reps, List.all_cons, List.all_nil, C.flat, List.append_eq, Bool.not_true, Bool.and_true, Bool.or_false, Bool.or_self, Bool.not_false, List.append_nil, Bool.and_self]); rfl) (by (repeat' (first | (refine And.intro ?_ ?_) | exact trivial | rfl | exact Nat.le_refl _ | exact (fun _ _ => rfl) | exact all_one (by rfl) | (simp only [Int.toNat_natCast, Nat.zero_add, Nat.add_zero]; done)))) ?_
  rintro v h' ⟨rfl, rfl⟩ hcaps
  refine ret_mk3 (by (try simp only [↓List.length_cons, ↓List.length_nil, Nat.reduceAdd]); rfl) (by (try simp (maxSteps := 1000000) only [givesF, setF, updF, Fam.zeroth, Fam.rk, Ck.rk, C.rk, E.rk, T.rk, key, List.map_cons, List.map_nil, List.cons_append, List.nil_append, List.length_cons, List.length_nil, Option.map_some, Option.bind_some, Nat.reduceAdd, Nat.zero_add, Nat.add_zero, Nat.add_sub_cancel_left, Int.toNat_natCast, reps, List.all_cons, List.all_nil, C.flat, List.append_eq, Bool.not_true, Bool.and_true, Bool.or_false, Bool.or_self, Bool.not_false, List.append_nil, Bool.and_self, encQ]); rfl) (by (try simp only [givesF, setF, updF, Fam.zeroth, Fam.rk, Ck.rk, C.rk, E.rk, T.rk, key, List.map_cons, List.map_nil, List.cons_append, List.nil_append, List.length_cons, List.length_nil, Option.map_some, Option.bind_some, Nat.reduceAdd, Nat.zero_add, Nat.add_zero, Nat.add_sub_cancel_left, Int.toNat_natCast, reps, List.all_cons, List.all_nil, C.flat, List.append_eq, Bool.not_true, Bool.and_true, Bool.or_false, Bool.or_self, Bool.not_false, List.append_nil, Bool.and_self, encQ]); rfl) ?_
  repeat' (first
    | ((fail_if_success (with_reducible first | apply kL | apply kC | apply kF | apply kM | refine Exists.intro ?_ ?_)); first
      | ((with_reducible refine And.intro (fun (hb : _ = true) => ?_) (fun (hb : _ = false) => ?_)) <;> (try simp only [n1, n2, n3, n4, n5, n6, n7, n8, n9, n10, n11, n12, n13, n14, n15, n16, reduceCtorEq, n17, n18, n19, n20, n21, n22] at hb) <;> (try (first | (exfalso; omega) | exact bff hb (by assumption) | exact bff (by assumption) hb)))
      | (with_reducible refine Both.mk ?_ ?_)
      | ((with_reducible refine And.intro ?_ ?_); (focus (first | rfl | omega | exact fun _ _ => rfl | assumption | (split <;> omega) | (and_intros <;> first | rfl | omega | (split <;> omega)) | (dsimp only [maxLen]; and_intros <;> omega) | (simp only [n21, n22, m9]; first | omega | (and_intros <;> omega)))))
      | ((with_reducible refine Or.inl ⟨?_, ?_, ?_⟩); (focus rfl); (focus (and_intros <;> first | rfl | omega)))
      | ((with_reducible refine Or.inr (Or.inl ⟨?_, ?_⟩)); focus (and_intros <;> first | rfl | omega))
      | ((with_reducible refine Or.inr (Or.inr (Or.inl ⟨?_, ?_⟩))); focus (and_intros <;> first | rfl | omega))
      | ((with_reducible refine Or.inr (Or.inr (Or.inr ⟨?_, ?_⟩))); focus (and_intros <;> first | rfl | omega))
      | (with_reducible intro hc; (try simp only [capsP, and_true] at hc); (try (exfalso; omega)))
      | ((fail_if_success (with_reducible first | refine And.intro ?_ ?_ | refine Or.inl ?_ | intro _)); (conv => whnf); (fail_if_success (fail_if_success (with_reducible first | apply kL | apply kC | apply kF | apply kM | refine Exists.intro ?_ ?_ | refine Both.mk ?_ ?_ | refine And.intro ?_ ?_ | refine Or.inl ?_ | intro _))))))
  · have hq : ¬ okQ q2 := fun h => hb (if_pos h)
    have e0 : checkI q2 = 4 := if_neg hq
    rw [e0]
    have e1 : matchE q w nd q2 R = 4 := by
      unfold matchE
      rw [if_neg hA, if_pos hq]
    have e2 : matchR q w nd q2 R = R := by unfold matchR; rw [e1]; rfl
    rw [e1, e2]
    refine FinK.mk ⟨[0, 1, 2, 3, 4, 5, 4, 5], _, _, ⟨rfl, rfl⟩, ?_⟩; (repeat' (first | (refine And.intro ?_ ?_) | exact trivial | rfl | exact Nat.le_refl _ | exact (fun _ _ => rfl) | exact all_one (by rfl) | (simp only [Int.toNat_natCast, Nat.zero_add, Nat.add_zero]; done)))
    all_goals (first | exact fun _ => trivial | exact fun x => mtO_le rfl | exact fun x => winO_le | exact fun x => mtO_bel rfl | exact fun x => winO_bel | exact fun x => mtR_bel rfl rfl | exact fun x => winR_bel)
  have hq : okQ q2 := by
    by_cases h : okQ q2
    · exact h
    · exfalso
      rw [show checkI q2 = 4 from if_neg h] at hb
      omega
  refine CallK.mk3 (σ := []) (nl := []) (ccompat q2 q) rfl rfl (List.append_nil _) (by (try simp only [↓List.length_cons, ↓List.length_nil, Nat.reduceAdd]); rfl) (by (try simp only [↓List.length_cons, ↓List.length_nil, Nat.reduceAdd]); rfl) (by (try simp (maxSteps := 1000000) only [givesF, setF, updF, Fam.zeroth, Fam.rk, Ck.rk, C.rk, E.rk, T.rk, key, List.map_cons, List.map_nil, List.cons_append, List.nil_append, List.length_cons, List.length_nil, Option.map_some, Option.bind_some, Nat.reduceAdd, Nat.zero_add, Nat.add_zero, Nat.add_sub_cancel_left, Int.toNat_natCast, reps, List.all_cons, List.all_nil, C.flat, List.append_eq, Bool.not_true, Bool.and_true, Bool.or_false, Bool.or_self, Bool.not_false, List.append_nil, Bool.and_self]); rfl) (by (repeat' (first | (refine And.intro ?_ ?_) | exact trivial | rfl | exact Nat.le_refl _ | exact (fun _ _ => rfl) | exact all_one (by rfl) | (simp only [Int.toNat_natCast, Nat.zero_add, Nat.add_zero]; done)))) ?_
  rintro v h' ⟨rfl, rfl⟩ hcaps
  refine ret_mk3 (by (try simp only [↓List.length_cons, ↓List.length_nil, Nat.reduceAdd]); rfl) (by (try simp (maxSteps := 1000000) only [givesF, setF, updF, Fam.zeroth, Fam.rk, Ck.rk, C.rk, E.rk, T.rk, key, List.map_cons, List.map_nil, List.cons_append, List.nil_append, List.length_cons, List.length_nil, Option.map_some, Option.bind_some, Nat.reduceAdd, Nat.zero_add, Nat.add_zero, Nat.add_sub_cancel_left, Int.toNat_natCast, reps, List.all_cons, List.all_nil, C.flat, List.append_eq, Bool.not_true, Bool.and_true, Bool.or_false, Bool.or_self, Bool.not_false, List.append_nil, Bool.and_self, encQ]); rfl) (by (try simp only [givesF, setF, updF, Fam.zeroth, Fam.rk, Ck.rk, C.rk, E.rk, T.rk, key, List.map_cons, List.map_nil, List.cons_append, List.nil_append, List.length_cons, List.length_nil, Option.map_some, Option.bind_some, Nat.reduceAdd, Nat.zero_add, Nat.add_zero, Nat.add_sub_cancel_left, Int.toNat_natCast, reps, List.all_cons, List.all_nil, C.flat, List.append_eq, Bool.not_true, Bool.and_true, Bool.or_false, Bool.or_self, Bool.not_false, List.append_nil, Bool.and_self, encQ]); rfl) ?_
  repeat' (first
    | ((fail_if_success (with_reducible first | apply kL | apply kC | apply kF | apply kM | refine Exists.intro ?_ ?_)); first
      | ((with_reducible refine And.intro (fun (hb : _ = true) => ?_) (fun (hb : _ = false) => ?_)) <;> (try simp only [n1, n2, n3, n4, n5, n6, n7, n8, n9, n10, n11, n12, n13, n14, n15, n16, reduceCtorEq, n17, n18, n19, n20, n21, n22] at hb) <;> (try (first | (exfalso; omega) | exact bff hb (by assumption) | exact bff (by assumption) hb)))
      | (with_reducible refine Both.mk ?_ ?_)
      | ((with_reducible refine And.intro ?_ ?_); (focus (first | rfl | omega | exact fun _ _ => rfl | assumption | (split <;> omega) | (and_intros <;> first | rfl | omega | (split <;> omega)) | (dsimp only [maxLen]; and_intros <;> omega) | (simp only [n21, n22, m9]; first | omega | (and_intros <;> omega)))))
      | ((with_reducible refine Or.inl ⟨?_, ?_, ?_⟩); (focus rfl); (focus (and_intros <;> first | rfl | omega)))
      | ((with_reducible refine Or.inr (Or.inl ⟨?_, ?_⟩)); focus (and_intros <;> first | rfl | omega))
      | ((with_reducible refine Or.inr (Or.inr (Or.inl ⟨?_, ?_⟩))); focus (and_intros <;> first | rfl | omega))
      | ((with_reducible refine Or.inr (Or.inr (Or.inr ⟨?_, ?_⟩))); focus (and_intros <;> first | rfl | omega))
      | (with_reducible intro hc; (try simp only [capsP, and_true] at hc); (try (exfalso; omega)))
      | ((fail_if_success (with_reducible first | refine And.intro ?_ ?_ | refine Or.inl ?_ | intro _)); (conv => whnf); (fail_if_success (fail_if_success (with_reducible first | apply kL | apply kC | apply kF | apply kM | refine Exists.intro ?_ ?_ | refine Both.mk ?_ ?_ | refine And.intro ?_ ?_ | refine Or.inl ?_ | intro _))))))
  · have e1 : matchE q w nd q2 R = 14 := by
      unfold matchE
      rw [if_neg hA, if_neg (by simpa using hq), if_pos hb]
    have e2 : matchR q w nd q2 R = R := by unfold matchR; rw [e1]; rfl
    rw [e1, e2]
    refine FinK.mk ⟨[0, 1, 2, 3, 4, 5, 4, 5], _, _, ⟨rfl, rfl⟩, ?_⟩; (repeat' (first | (refine And.intro ?_ ?_) | exact trivial | rfl | exact Nat.le_refl _ | exact (fun _ _ => rfl) | exact all_one (by rfl) | (simp only [Int.toNat_natCast, Nat.zero_add, Nat.add_zero]; done)))
    all_goals (first | exact fun _ => trivial | exact fun x => mtO_le rfl | exact fun x => winO_le | exact fun x => mtO_bel rfl | exact fun x => winO_bel | exact fun x => mtR_bel rfl rfl | exact fun x => winR_bel)
  · rename_i i hi
    obtain ⟨m, hm, hD, h1⟩ := get_yes hR hi (Key.i.inj hc)
    have e1 : matchE q w nd q2 R = 7 := by
      unfold matchE
      rw [if_neg hA, if_neg (by simpa using hq), if_neg (by simpa using hb), hm]
      rfl
    have e2 : matchR q w nd q2 R = R := by unfold matchR; rw [e1]; rfl
    rw [e1, e2]
    refine FinK.mk ⟨[0, 1, 2, 3, 4, 5, 4, 5], _, _, ⟨rfl, rfl⟩, ?_⟩; (repeat' (first | (refine And.intro ?_ ?_) | exact trivial | rfl | exact Nat.le_refl _ | exact (fun _ _ => rfl) | exact all_one (by rfl) | (simp only [Int.toNat_natCast, Nat.zero_add, Nat.add_zero]; done)))
    all_goals (first | exact fun _ => trivial | exact fun x => mtO_le rfl | exact fun x => winO_le | exact fun x => mtO_bel rfl | exact fun x => winO_bel | exact fun x => mtR_bel rfl rfl | exact fun x => winR_bel)
  all_goals try exact absurd hc (by apply (by assumption : ∀ (i : Nat), i < R.M.length → Key.i (R.M.getD i default).snd ≠ Key.i w); assumption)
  all_goals (
    have hno : ∀ i, i < R.M.length → (R.M.getD i default).2 ≠ w := fun i hi h => hc i hi (by rw [h])
    have hn := get_no hR hno
    have hv : viol q2 q = 0 := by assumption
    have e1 : matchE q w nd q2 R = 0 := by
      unfold matchE
      rw [if_neg hA, if_neg (by simpa using hq), if_neg (by simpa using hv), hn]
      rfl
    have e2 : matchR q w nd q2 R = ⟨R.l, R.ls, R.M ++ [(R.ck, w)], R.ck + 1, fun y => if y = w.toNat then some ⟨nd, 1, q2.rel && q.rel, [], 0⟩ else R.D y⟩ := by unfold matchR; rw [e1]; rfl
    rw [e1, e2]
    refine FinK.mk ⟨[0, 1, 2, 3, 4, 5, .adopt 4 w.toNat 8, .adopt 5 w.toNat 7], _, _, ⟨rfl, rfl⟩, ?_⟩
    (repeat' (first | (refine And.intro ?_ ?_) | exact trivial | rfl | exact Nat.le_refl _ | exact (fun _ _ => rfl) | exact all_one (by rfl) | (simp only [Int.toNat_natCast, Nat.zero_add, Nat.add_zero]; done)))
    all_goals first
      | (simp; done)
      | exact map_adopt (by simp [key]) hno hR hw
      | (intro x hx
         show Ck.leK _ _ (Ck.rk _ _ (mtO 7 x (if x = w.toNat then _ else _))) True
         rw [if_neg hx]
         exact mtO_le (by simp [key, hx]))
      | (refine leK_cong (q'' := .cells true [.i .i64 w, .i .i64 nd, .i .i64 1, .b (q2.rel && q.rel), .mp 7 0]) (by
           show Ck.rk _ _ (mtO 7 w.toNat (if w.toNat = w.toNat then _ else _)) = _
           rw [if_pos rfl]
           simp only [mtO, mtG, Ck.rk, C.rk, List.map_cons, List.map_nil, key, if_true, Int.toNat_of_nonneg (show 0 ≤ w by omega)]) ?_
         (repeat' (first | (refine And.intro ?_ ?_) | exact trivial | rfl | exact Nat.le_refl _ | exact (fun _ _ => rfl) | exact all_one (by rfl) | (simp only [Int.toNat_natCast, Nat.zero_add, Nat.add_zero]; done)))
         all_goals first
           | (simp [*]; done)
           | (intro x hx
              show Ck.leK _ _ (Ck.rk _ _ (winO (if x = w.toNat then _ else _))) True
              rw [if_neg hx]
              exact winO_le)
           | (refine leK_cong (q'' := wnd [] 0) (by
                show Ck.rk _ _ (winO (if w.toNat = w.toNat then _ else _)) = _
                rw [if_pos rfl]
                rfl) ?_
              (repeat' (first | (refine And.intro ?_ ?_) | exact trivial | rfl | exact Nat.le_refl _ | exact (fun _ _ => rfl) | exact all_one (by rfl) | (simp only [Int.toNat_natCast, Nat.zero_add, Nat.add_zero]; done)))
              all_goals first | (first | exact fun _ => trivial | exact fun x => mtO_le rfl | exact fun x => winO_le | exact fun x => mtO_bel rfl | exact fun x => winO_bel | exact fun x => mtR_bel rfl rfl | exact fun x => winR_bel) | (intro i hi; exact absurd hi (Nat.not_lt_zero i)))))
end Go.Proofs.Ytgcofipbdidhmaa

namespace Go.Proofs.Ytgcofipbdidhmaa
open Go.X
set_option linter.unusedSimpArgs false
set_option linter.unusedVariables false

/-! ### The law's own functions -/
abbrev lssR (w : Bool) (l : List (Int × Int)) (c : Nat) : Ck := .row w false 64 2 l.length c (rowOf encL l)
theorem getD_ext {α : Type} [Inhabited α] {l m : List α} (h1 : l.length = m.length) (h2 : ∀ i, i < l.length → l.getD i default = m.getD i default) : l = m := by
  apply List.ext_getElem h1
  intro i hi hj
  have := h2 i hi
  rwa [getD_at hi, getD_at hj] at this
theorem take_snocG {α : Type} [Inhabited α] (l : List α) {k : Nat} (h : k < l.length) : l.take (k + 1) = l.take k ++ [l.getD k default] := by
  rw [← List.take_append_getElem h, getD_at h]

set_option maxRecDepth 10000 in
theorem cplain (wa : Bool) (l : List (Int × Int)) (c : Nat) (hl : l.length ≤ 1000000) :
    Ctr Try.prog 24 [.c (.sl 0 0 2 0 l.length c)] [.one (lss wa l c)]
      fun v h => ∃ c', v = .c (.sl 1 0 2 0 l.length c') ∧ h = [.one (lss wa l c), .one (lssR true l c')] := by
  refine Ctr.mk' tbv mixed Try.func24 rfl rfl rfl (fun _ _ => by kernel_rfl) (by kernel_rfl) (by rfl) (by rfl) (by (repeat' (first | (refine And.intro ?_ ?_) | exact trivial | rfl | exact Nat.le_refl _ | exact (fun _ _ => rfl) | exact all_one (by rfl) | (simp only [Int.toNat_natCast, Nat.zero_add, Nat.add_zero]; done)))) ?_
  repeat' (first
    | ((fail_if_success (with_reducible first | apply kL | apply kC | apply kF | apply kM | refine Exists.intro ?_ ?_)); first
      | ((with_reducible refine And.intro (fun (hb : _ = true) => ?_) (fun (hb : _ = false) => ?_)) <;> (try simp only [n1, n2, n3, n4, n5, n6, n7, n8, n9, n10, n11, n12, n13, n14, n15, n16, reduceCtorEq, n17, n18, n19, n20, n21, n22] at hb) <;> (try (first | (exfalso; omega) | exact bff hb (by assumption) | exact bff (by assumption) hb)))
      | (with_reducible refine Both.mk ?_ ?_)
      | ((with_reducible refine And.intro ?_ ?_); (focus (first | rfl | omega | exact fun _ _ => rfl | assumption | (split <;> omega) | (and_intros <;> first | rfl | omega | (split <;> omega)) | (dsimp only [maxLen]; and_intros <;> omega) | (simp only [n21, n22, m9]; first | omega | (and_intros <;> omega)))))
      | ((with_reducible refine Or.inl ⟨?_, ?_, ?_⟩); (focus rfl); (focus (and_intros <;> first | rfl | omega)))
      | ((with_reducible refine Or.inr (Or.inl ⟨?_, ?_⟩)); focus (and_intros <;> first | rfl | omega))
      | ((with_reducible refine Or.inr (Or.inr (Or.inl ⟨?_, ?_⟩))); focus (and_intros <;> first | rfl | omega))
      | ((with_reducible refine Or.inr (Or.inr (Or.inr ⟨?_, ?_⟩))); focus (and_intros <;> first | rfl | omega))
      | (with_reducible intro hc; (try simp only [capsP, and_true] at hc); (try (exfalso; omega)))
      | ((fail_if_success (with_reducible first | refine And.intro ?_ ?_ | refine Or.inl ?_ | intro _)); (conv => whnf); (fail_if_success (fail_if_success (with_reducible first | apply kL | apply kC | apply kF | apply kM | refine Exists.intro ?_ ?_ | refine Both.mk ?_ ?_ | refine And.intro ?_ ?_ | refine Or.inl ?_ | intro _))))))
  refine LoopK.mk' ({k : Nat // k ≤ l.length} × Nat)
    (fun ⟨⟨k, _⟩, cc⟩ => ⟨[(0, .c (.sl 0 0 2 0 l.length c)), (3, .c (.sl 1 0 2 0 (l.take k).length cc)), (4, .c (.i .i64 k))], [.one (lss wa l c), .one (lssR true (l.take k) cc)]⟩)
    (fun k => l.length - k.1.1)
    ⟨⟨⟨0, Nat.zero_le _⟩, 0⟩, [0, 99], ?_⟩ ?_
  · (repeat' (first | (refine And.intro ?_ ?_) | exact trivial | rfl | exact Nat.le_refl _ | exact (fun _ _ => rfl) | exact all_one (by rfl) | (simp only [Int.toNat_natCast, Nat.zero_add, Nat.add_zero]; done)))
  rintro ⟨⟨k, hk⟩, cc⟩
  have hkl : (l.take k).length = k := by rw [List.length_take]; omega
  repeat' (first
    | ((fail_if_success (with_reducible first | apply kL | apply kC | apply kF | apply kM | refine Exists.intro ?_ ?_)); first
      | ((with_reducible refine And.intro (fun (hb : _ = true) => ?_) (fun (hb : _ = false) => ?_)) <;> (try simp only [n1, n2, n3, n4, n5, n6, n7, n8, n9, n10, n11, n12, n13, n14, n15, n16, reduceCtorEq, n17, n18, n19, n20, n21, n22] at hb) <;> (try (first | (exfalso; omega) | exact bff hb (by assumption) | exact bff (by assumption) hb)))
      | (with_reducible refine Both.mk ?_ ?_)
      | ((with_reducible refine And.intro ?_ ?_); (focus (first | rfl | omega | exact fun _ _ => rfl | assumption | (split <;> omega) | (and_intros <;> first | rfl | omega | (split <;> omega)) | (dsimp only [maxLen]; and_intros <;> omega) | (simp only [n21, n22, m9]; first | omega | (and_intros <;> omega)))))
      | ((with_reducible refine Or.inl ⟨?_, ?_, ?_⟩); (focus rfl); (focus (and_intros <;> first | rfl | omega)))
      | ((with_reducible refine Or.inr (Or.inl ⟨?_, ?_⟩)); focus (and_intros <;> first | rfl | omega))
      | ((with_reducible refine Or.inr (Or.inr (Or.inl ⟨?_, ?_⟩))); focus (and_intros <;> first | rfl | omega))
      | ((with_reducible refine Or.inr (Or.inr (Or.inr ⟨?_, ?_⟩))); focus (and_intros <;> first | rfl | omega))
      | (with_reducible intro hc; (try simp only [capsP, and_true] at hc); (try (exfalso; omega)))
      | ((fail_if_success (with_reducible first | refine And.intro ?_ ?_ | refine Or.inl ?_ | intro _)); (conv => whnf); (fail_if_success (fail_if_success (with_reducible first | apply kL | apply kC | apply kF | apply kM | refine Exists.intro ?_ ?_ | refine Both.mk ?_ ?_ | refine And.intro ?_ ?_ | refine Or.inl ?_ | intro _))))))
  all_goals try (
    rename Nat => c3
    have hlt : k < l.length := by omega
    refine ⟨⟨⟨k + 1, by omega⟩, c3⟩, [0, 3], by simp only; omega, ?_⟩
    simp only [take_snocG l hlt]
    (repeat' (first | (refine And.intro ?_ ?_) | exact trivial | rfl | exact Nat.le_refl _ | exact (fun _ _ => rfl) | exact all_one (by rfl) | (simp only [Int.toNat_natCast, Nat.zero_add, Nat.add_zero]; done)))
    all_goals first | omega | (simp; done) | (intro i hi; refine app_rowG encL _ _ _ ?_ i hi; simp only [Int.toNat_natCast, Nat.zero_add]; rfl)
    done)
  have ek : l.take k = l := List.take_of_length_le (by omega)
  simp only [ek] at *
  refine FinK.mk ⟨[0, 1], _, _, ⟨cc, rfl, rfl⟩, ?_⟩
  (repeat' (first | (refine And.intro ?_ ?_) | exact trivial | rfl | exact Nat.le_refl _ | exact (fun _ _ => rfl) | exact all_one (by rfl) | (simp only [Int.toNat_natCast, Nat.zero_add, Nat.add_zero]; done)))

set_option maxRecDepth 10000 in
theorem csameL (ca cb : Nat) (wa wb : Bool) (l m : List (Int × Int)) (hl : l.length ≤ 1000000) :
    Ctr Try.prog 25 [.c (.sl 0 0 2 0 l.length ca), .c (.sl 1 0 2 0 m.length cb)] [.one (lssR wa l ca), .one (lssR wb m cb)]
      fun v h => v = .c (.b (decide (l = m))) ∧ h = [.one (lssR wa l ca), .one (lssR wb m cb)] := by
  refine Ctr.mk' tbv mixed Try.func25 rfl rfl rfl (fun _ _ => by kernel_rfl) (by kernel_rfl) (by rfl) (by rfl) (by (repeat' (first | (refine And.intro ?_ ?_) | exact trivial | rfl | exact Nat.le_refl _ | exact (fun _ _ => rfl) | exact all_one (by rfl) | (simp only [Int.toNat_natCast, Nat.zero_add, Nat.add_zero]; done)))) ?_
  repeat' (first
    | ((fail_if_success (with_reducible first | apply kL | apply kC | apply kF | apply kM | refine Exists.intro ?_ ?_)); first
      | ((with_reducible refine And.intro (fun (hb : _ = true) => ?_) (fun (hb : _ = false) => ?_)) <;> (try simp only [n1, n2, n3, n4, n5, n6, n7, n8, n9, n10, n11, n12, n13, n14, n15, n16, reduceCtorEq, n17, n18, n19, n20, n21, n22] at hb) <;> (try (first | (exfalso; omega) | exact bff hb (by assumption) | exact bff (by assumption) hb)))
      | (with_reducible refine Both.mk ?_ ?_)
      | ((with_reducible refine And.intro ?_ ?_); (focus (first | rfl | omega | exact fun _ _ => rfl | assumption | (split <;> omega) | (and_intros <;> first | rfl | omega | (split <;> omega)) | (dsimp only [maxLen]; and_intros <;> omega) | (simp only [n21, n22, m9]; first | omega | (and_intros <;> omega)))))
      | ((with_reducible refine Or.inl ⟨?_, ?_, ?_⟩); (focus rfl); (focus (and_intros <;> first | rfl | omega)))
      | ((with_reducible refine Or.inr (Or.inl ⟨?_, ?_⟩)); focus (and_intros <;> first | rfl | omega))
      | ((with_reducible refine Or.inr (Or.inr (Or.inl ⟨?_, ?_⟩))); focus (and_intros <;> first | rfl | omega))
      | ((with_reducible refine Or.inr (Or.inr (Or.inr ⟨?_, ?_⟩))); focus (and_intros <;> first | rfl | omega))
      | (with_reducible intro hc; (try simp only [capsP, and_true] at hc); (try (exfalso; omega)))
      | ((fail_if_success (with_reducible first | refine And.intro ?_ ?_ | refine Or.inl ?_ | intro _)); (conv => whnf); (fail_if_success (fail_if_success (with_reducible first | apply kL | apply kC | apply kF | apply kM | refine Exists.intro ?_ ?_ | refine Both.mk ?_ ?_ | refine And.intro ?_ ?_ | refine Or.inl ?_ | intro _))))))
  · refine FinK.mk ⟨[0, 1], _, _, ⟨rfl, rfl⟩, ?_⟩; (repeat' (first | (refine And.intro ?_ ?_) | exact trivial | rfl | exact Nat.le_refl _ | exact (fun _ _ => rfl) | exact all_one (by rfl) | (simp only [Int.toNat_natCast, Nat.zero_add, Nat.add_zero]; done)))
    exact decide_eq_false (fun e => ‹¬ _› (by rw [e]))
  refine LoopK.mk' {k : Nat // k ≤ l.length ∧ ∀ j, j < k → l.getD j default = m.getD j default}
    (fun ⟨k, _⟩ => ⟨[(0, .c (.sl 0 0 2 0 l.length ca)), (1, .c (.sl 1 0 2 0 m.length cb)), (5, .c (.i .i64 k))], [.one (lssR wa l ca), .one (lssR wb m cb)]⟩) (fun k => l.length - k.1)
    ⟨⟨0, Nat.zero_le _, fun j hj => by omega⟩, [0, 1], ?_⟩ ?_
  · (repeat' (first | (refine And.intro ?_ ?_) | exact trivial | rfl | exact Nat.le_refl _ | exact (fun _ _ => rfl) | exact all_one (by rfl) | (simp only [Int.toNat_natCast, Nat.zero_add, Nat.add_zero]; done)))
  rintro ⟨k, hk, hno⟩
  repeat' (first
    | ((fail_if_success (with_reducible first | apply kL | apply kC | apply kF | apply kM | refine Exists.intro ?_ ?_)); first
      | ((with_reducible refine And.intro (fun (hb : _ = true) => ?_) (fun (hb : _ = false) => ?_)) <;> (try simp only [n1, n2, n3, n4, n5, n6, n7, n8, n9, n10, n11, n12, n13, n14, n15, n16, reduceCtorEq, n17, n18, n19, n20, n21, n22] at hb) <;> (try (first | (exfalso; omega) | exact bff hb (by assumption) | exact bff (by assumption) hb)))
      | (with_reducible refine Both.mk ?_ ?_)
      | ((with_reducible refine And.intro ?_ ?_); (focus (first | rfl | omega | exact fun _ _ => rfl | assumption | (split <;> omega) | (and_intros <;> first | rfl | omega | (split <;> omega)) | (dsimp only [maxLen]; and_intros <;> omega) | (simp only [n21, n22, m9]; first | omega | (and_intros <;> omega)))))
      | ((with_reducible refine Or.inl ⟨?_, ?_, ?_⟩); (focus rfl); (focus (and_intros <;> first | rfl | omega)))
      | ((with_reducible refine Or.inr (Or.inl ⟨?_, ?_⟩)); focus (and_intros <;> first | rfl | omega))
      | ((with_reducible refine Or.inr (Or.inr (Or.inl ⟨?_, ?_⟩))); focus (and_intros <;> first | rfl | omega))
      | ((with_reducible refine Or.inr (Or.inr (Or.inr ⟨?_, ?_⟩))); focus (and_intros <;> first | rfl | omega))
      | (with_reducible intro hc; (try simp only [capsP, and_true] at hc); (try (exfalso; omega)))
      | ((fail_if_success (with_reducible first | refine And.intro ?_ ?_ | refine Or.inl ?_ | intro _)); (conv => whnf); (fail_if_success (fail_if_success (with_reducible first | apply kL | apply kC | apply kF | apply kM | refine Exists.intro ?_ ?_ | refine Both.mk ?_ ?_ | refine And.intro ?_ ?_ | refine Or.inl ?_ | intro _))))))
  · refine FinK.mk ⟨[0, 1], _, _, ⟨rfl, rfl⟩, ?_⟩; (repeat' (first | (refine And.intro ?_ ?_) | exact trivial | rfl | exact Nat.le_refl _ | exact (fun _ _ => rfl) | exact all_one (by rfl) | (simp only [Int.toNat_natCast, Nat.zero_add, Nat.add_zero]; done)))
    refine decide_eq_false (p := l = m) fun e => ?_
    subst e
    simp at hb
  · refine ⟨⟨k + 1, by omega, fun j hj => ?_⟩, [0, 1], by simp only; omega, ?_⟩
    · rcases Nat.lt_or_eq_of_le (Nat.le_of_lt_succ hj) with h | h
      · exact hno j h
      · subst h; exact Prod.ext hb.1 hb.2
    · (repeat' (first | (refine And.intro ?_ ?_) | exact trivial | rfl | exact Nat.le_refl _ | exact (fun _ _ => rfl) | exact all_one (by rfl) | (simp only [Int.toNat_natCast, Nat.zero_add, Nat.add_zero]; done)))
  · refine FinK.mk ⟨[0, 1], _, _, ⟨rfl, rfl⟩, ?_⟩; (repeat' (first | (refine And.intro ?_ ?_) | exact trivial | rfl | exact Nat.le_refl _ | exact (fun _ _ => rfl) | exact all_one (by rfl) | (simp only [Int.toNat_natCast, Nat.zero_add, Nat.add_zero]; done)))
    exact decide_eq_true (getD_ext (by omega) fun j hj => hno j (by omega))

deriving instance DecidableEq for Pkt

set_option maxRecDepth 20000 in
set_option maxHeartbeats 8000000 in
theorem csameP (ca cb : Nat) (wa wb : Bool) (x y : Pkt) (l m : List Int) (hl : l.length ≤ 1000000) :
    Ctr Try.prog 40 [.a (encP (msl 0 l.length ca) x), .a (encP (msl 1 m.length cb) y)] [.one (ints wa l ca), .one (ints wb m cb)]
      fun v h => v = .c (.b (decide (x = y ∧ l = m))) ∧ h = [.one (ints wa l ca), .one (ints wb m cb)] := by
  refine Ctr.mk' tbv mixed Try.func40 rfl rfl rfl (fun _ _ => by kernel_rfl) (by kernel_rfl) (by rfl) (by rfl) (by (repeat' (first | (refine And.intro ?_ ?_) | exact trivial | rfl | exact Nat.le_refl _ | exact (fun _ _ => rfl) | exact all_one (by rfl) | (simp only [Int.toNat_natCast, Nat.zero_add, Nat.add_zero]; done)))) ?_
  repeat' (first
    | ((fail_if_success (with_reducible first | apply kL | apply kC | apply kF | apply kM | refine Exists.intro ?_ ?_)); first
      | ((with_reducible refine And.intro (fun (hb : _ = true) => ?_) (fun (hb : _ = false) => ?_)) <;> (try simp only [n1, n2, n3, n4, n5, n6, n7, n8, n9, n10, n11, n12, n13, n14, n15, n16, reduceCtorEq, n17, n18, n19, n20, n21, n22] at hb) <;> (try (first | (exfalso; omega) | exact bff hb (by assumption) | exact bff (by assumption) hb)))
      | (with_reducible refine Both.mk ?_ ?_)
      | ((with_reducible refine And.intro ?_ ?_); (focus (first | rfl | omega | exact fun _ _ => rfl | assumption | (split <;> omega) | (and_intros <;> first | rfl | omega | (split <;> omega)) | (dsimp only [maxLen]; and_intros <;> omega) | (simp only [n21, n22, m9]; first | omega | (and_intros <;> omega)))))
      | ((with_reducible refine Or.inl ⟨?_, ?_, ?_⟩); (focus rfl); (focus (and_intros <;> first | rfl | omega)))
      | ((with_reducible refine Or.inr (Or.inl ⟨?_, ?_⟩)); focus (and_intros <;> first | rfl | omega))
      | ((with_reducible refine Or.inr (Or.inr (Or.inl ⟨?_, ?_⟩))); focus (and_intros <;> first | rfl | omega))
      | ((with_reducible refine Or.inr (Or.inr (Or.inr ⟨?_, ?_⟩))); focus (and_intros <;> first | rfl | omega))
      | (with_reducible intro hc; (try simp only [capsP, and_true] at hc); (try (exfalso; omega)))
      | ((fail_if_success (with_reducible first | refine And.intro ?_ ?_ | refine Or.inl ?_ | intro _)); (conv => whnf); (fail_if_success (fail_if_success (with_reducible first | apply kL | apply kC | apply kF | apply kM | refine Exists.intro ?_ ?_ | refine Both.mk ?_ ?_ | refine And.intro ?_ ?_ | refine Or.inl ?_ | intro _))))))
  all_goals try (
    refine FinK.mk ⟨[0, 1], _, _, ⟨rfl, rfl⟩, ?_⟩; (repeat' (first | (refine And.intro ?_ ?_) | exact trivial | rfl | exact Nat.le_refl _ | exact (fun _ _ => rfl) | exact all_one (by rfl) | (simp only [Int.toNat_natCast, Nat.zero_add, Nat.add_zero]; done)))
    first | exact decide_eq_false (fun e => hb (by rw [e.1])) | exact decide_eq_false (fun e => hb (by rw [e.2]))
    done)
  have hxy : x = y := by
    cases x; cases y
    simp only [Pkt.mk.injEq]
    simp_all
  have hlm : l.length = m.length := by omega
  refine LoopK.mk' {k : Nat // k ≤ l.length ∧ ∀ j, j < k → l.getD j default = m.getD j default}
    (fun ⟨k, _⟩ => ⟨[(2, .c (.p 2 0 0)), (3, .c (.p 3 0 0)), (5, .c (.i .i64 k))], [.one (ints wa l ca), .one (ints wb m cb), .one (.cells true (encP (msl 0 l.length ca) x)), .one (.cells true (encP (msl 1 m.length cb) y))]⟩) (fun k => l.length - k.1)
    ⟨⟨0, Nat.zero_le _, fun j hj => by omega⟩, [0, 1, 2, 3], ?_⟩ ?_
  · (repeat' (first | (refine And.intro ?_ ?_) | exact trivial | rfl | exact Nat.le_refl _ | exact (fun _ _ => rfl) | exact all_one (by rfl) | (simp only [Int.toNat_natCast, Nat.zero_add, Nat.add_zero]; done)))
  rintro ⟨k, hk, hno⟩
  repeat' (first
    | ((fail_if_success (with_reducible first | apply kL | apply kC | apply kF | apply kM | refine Exists.intro ?_ ?_)); first
      | ((with_reducible refine And.intro (fun (hb : _ = true) => ?_) (fun (hb : _ = false) => ?_)) <;> (try simp only [n1, n2, n3, n4, n5, n6, n7, n8, n9, n10, n11, n12, n13, n14, n15, n16, reduceCtorEq, n17, n18, n19, n20, n21, n22] at hb) <;> (try (first | (exfalso; omega) | exact bff hb (by assumption) | exact bff (by assumption) hb)))
      | (with_reducible refine Both.mk ?_ ?_)
      | ((with_reducible refine And.intro ?_ ?_); (focus (first | rfl | omega | exact fun _ _ => rfl | assumption | (split <;> omega) | (and_intros <;> first | rfl | omega | (split <;> omega)) | (dsimp only [maxLen]; and_intros <;> omega) | (simp only [n21, n22, m9]; first | omega | (and_intros <;> omega)))))
      | ((with_reducible refine Or.inl ⟨?_, ?_, ?_⟩); (focus rfl); (focus (and_intros <;> first | rfl | omega)))
      | ((with_reducible refine Or.inr (Or.inl ⟨?_, ?_⟩)); focus (and_intros <;> first | rfl | omega))
      | ((with_reducible refine Or.inr (Or.inr (Or.inl ⟨?_, ?_⟩))); focus (and_intros <;> first | rfl | omega))
      | ((with_reducible refine Or.inr (Or.inr (Or.inr ⟨?_, ?_⟩))); focus (and_intros <;> first | rfl | omega))
      | (with_reducible intro hc; (try simp only [capsP, and_true] at hc); (try (exfalso; omega)))
      | ((fail_if_success (with_reducible first | refine And.intro ?_ ?_ | refine Or.inl ?_ | intro _)); (conv => whnf); (fail_if_success (fail_if_success (with_reducible first | apply kL | apply kC | apply kF | apply kM | refine Exists.intro ?_ ?_ | refine Both.mk ?_ ?_ | refine And.intro ?_ ?_ | refine Or.inl ?_ | intro _))))))
  · refine FinK.mk ⟨[0, 1], _, _, ⟨rfl, rfl⟩, ?_⟩; (repeat' (first | (refine And.intro ?_ ?_) | exact trivial | rfl | exact Nat.le_refl _ | exact (fun _ _ => rfl) | exact all_one (by rfl) | (simp only [Int.toNat_natCast, Nat.zero_add, Nat.add_zero]; done)))
    exact decide_eq_false (fun e => hb (by rw [e.2]))
  · refine ⟨⟨k + 1, by omega, fun j hj => ?_⟩, [0, 1, 2, 3], by simp only; omega, ?_⟩
    · rcases Nat.lt_or_eq_of_le (Nat.le_of_lt_succ hj) with h | h
      · exact hno j h
      · subst h; exact hb
    · (repeat' (first | (refine And.intro ?_ ?_) | exact trivial | rfl | exact Nat.le_refl _ | exact (fun _ _ => rfl) | exact all_one (by rfl) | (simp only [Int.toNat_natCast, Nat.zero_add, Nat.add_zero]; done)))
  · refine FinK.mk ⟨[0, 1], _, _, ⟨rfl, rfl⟩, ?_⟩; (repeat' (first | (refine And.intro ?_ ?_) | exact trivial | rfl | exact Nat.le_refl _ | exact (fun _ _ => rfl) | exact all_one (by rfl) | (simp only [Int.toNat_natCast, Nat.zero_add, Nat.add_zero]; done)))
    exact decide_eq_true ⟨hxy, getD_ext hlm fun j hj => hno j (by omega)⟩

theorem ack_le (a : Option (Pkt × List Int)) : ackN a ≤ 1 := by cases a <;> simp [ackN]
theorem ack_eq {a b : Option (Pkt × List Int)} (h1 : ackN a = 1) (h2 : ackN b = 1) : a = b ↔ (ackK a = ackK b ∧ ackL a = ackL b) := by
  cases a with
  | none => cases h1
  | some p => cases b with
    | none => cases h2
    | some q => simp only [Option.some.injEq, ackK, ackL, Prod.ext_iff]
theorem ack_none {a b : Option (Pkt × List Int)} (h1 : ackN a = 0) (h2 : ackN b = 0) : a = b := by
  cases a with
  | some p => cases h1
  | none => cases b with
    | some q => cases h2
    | none => rfl
/-- What is answered is the same. -/
def sameA (a b : Option (Pkt × List Int)) : Bool := decide (a = b)
set_option maxRecDepth 20000 in
set_option maxHeartbeats 8000000 in
theorem csamePs (ca cb na nb : Nat) (wa wb va vb : Bool) (a b : Option (Pkt × List Int)) (hl : (ackL a).length ≤ 1000000) :
    Ctr Try.prog 20 [.c (.sl 0 0 11 0 (ackN a) ca), .c (.sl 2 0 11 0 (ackN b) cb)] [.one (pkts wa 1 (ackN a) ca (ackL a).length na (ackK a)), .one (ints va (ackL a) na), .one (pkts wb 3 (ackN b) cb (ackL b).length nb (ackK b)), .one (ints vb (ackL b) nb)]
      fun v h => v = .c (.b (sameA a b)) ∧ h = [.one (pkts wa 1 (ackN a) ca (ackL a).length na (ackK a)), .one (ints va (ackL a) na), .one (pkts wb 3 (ackN b) cb (ackL b).length nb (ackK b)), .one (ints vb (ackL b) nb)] := by
  refine Ctr.mk' tbv mixed Try.func20 rfl rfl rfl (fun _ _ => by kernel_rfl) (by kernel_rfl) (by rfl) (by rfl) (by (repeat' (first | (refine And.intro ?_ ?_) | exact trivial | rfl | exact Nat.le_refl _ | exact (fun _ _ => rfl) | exact all_one (by rfl) | (simp only [Int.toNat_natCast, Nat.zero_add, Nat.add_zero]; done)))) ?_
  repeat' (first
    | ((fail_if_success (with_reducible first | apply kL | apply kC | apply kF | apply kM | refine Exists.intro ?_ ?_)); first
      | ((with_reducible refine And.intro (fun (hb : _ = true) => ?_) (fun (hb : _ = false) => ?_)) <;> (try simp only [n1, n2, n3, n4, n5, n6, n7, n8, n9, n10, n11, n12, n13, n14, n15, n16, reduceCtorEq, n17, n18, n19, n20, n21, n22] at hb) <;> (try (first | (exfalso; omega) | exact bff hb (by assumption) | exact bff (by assumption) hb)))
      | (with_reducible refine Both.mk ?_ ?_)
      | ((with_reducible refine And.intro ?_ ?_); (focus (first | rfl | omega | exact fun _ _ => rfl | assumption | (split <;> omega) | (and_intros <;> first | rfl | omega | (split <;> omega)) | (dsimp only [maxLen]; and_intros <;> omega) | (simp only [n21, n22, m9]; first | omega | (and_intros <;> omega)))))
      | ((with_reducible refine Or.inl ⟨?_, ?_, ?_⟩); (focus rfl); (focus (and_intros <;> first | rfl | omega)))
      | ((with_reducible refine Or.inr (Or.inl ⟨?_, ?_⟩)); focus (and_intros <;> first | rfl | omega))
      | ((with_reducible refine Or.inr (Or.inr (Or.inl ⟨?_, ?_⟩))); focus (and_intros <;> first | rfl | omega))
      | ((with_reducible refine Or.inr (Or.inr (Or.inr ⟨?_, ?_⟩))); focus (and_intros <;> first | rfl | omega))
      | (with_reducible intro hc; (try simp only [capsP, and_true] at hc); (try (exfalso; omega)))
      | ((fail_if_success (with_reducible first | refine And.intro ?_ ?_ | refine Or.inl ?_ | intro _)); (conv => whnf); (fail_if_success (fail_if_success (with_reducible first | apply kL | apply kC | apply kF | apply kM | refine Exists.intro ?_ ?_ | refine Both.mk ?_ ?_ | refine And.intro ?_ ?_ | refine Or.inl ?_ | intro _))))))
  · refine FinK.mk ⟨[0, 1, 2, 3], _, _, ⟨rfl, rfl⟩, ?_⟩; (repeat' (first | (refine And.intro ?_ ?_) | exact trivial | rfl | exact Nat.le_refl _ | exact (fun _ _ => rfl) | exact all_one (by rfl) | (simp only [Int.toNat_natCast, Nat.zero_add, Nat.add_zero]; done)))
    exact decide_eq_false (fun e => hb (by rw [e]))
  have hab : ackN a = ackN b := by omega
  refine LoopK.mk' {k : Nat // k ≤ ackN a ∧ (k = 1 → a = b)}
    (fun ⟨k, _⟩ => ⟨[(0, .c (.sl 0 0 11 0 (ackN a) ca)), (1, .c (.sl 2 0 11 0 (ackN b) cb)), (5, .c (.i .i64 k))], [.one (pkts wa 1 (ackN a) ca (ackL a).length na (ackK a)), .one (ints va (ackL a) na), .one (pkts wb 3 (ackN b) cb (ackL b).length nb (ackK b)), .one (ints vb (ackL b) nb)]⟩) (fun k => ackN a - k.1)
    ⟨⟨0, Nat.zero_le _, fun h => by omega⟩, [0, 1, 2, 3], ?_⟩ ?_
  · (repeat' (first | (refine And.intro ?_ ?_) | exact trivial | rfl | exact Nat.le_refl _ | exact (fun _ _ => rfl) | exact all_one (by rfl) | (simp only [Int.toNat_natCast, Nat.zero_add, Nat.add_zero]; done)))
  rintro ⟨k, hk, hno⟩
  have ha1 := ack_le a
  repeat' (first
    | ((fail_if_success (with_reducible first | apply kL | apply kC | apply kF | apply kM | refine Exists.intro ?_ ?_)); first
      | ((with_reducible refine And.intro (fun (hb : _ = true) => ?_) (fun (hb : _ = false) => ?_)) <;> (try simp only [n1, n2, n3, n4, n5, n6, n7, n8, n9, n10, n11, n12, n13, n14, n15, n16, reduceCtorEq, n17, n18, n19, n20, n21, n22] at hb) <;> (try (first | (exfalso; omega) | exact bff hb (by assumption) | exact bff (by assumption) hb)))
      | (with_reducible refine Both.mk ?_ ?_)
      | ((with_reducible refine And.intro ?_ ?_); (focus (first | rfl | omega | exact fun _ _ => rfl | assumption | (split <;> omega) | (and_intros <;> first | rfl | omega | (split <;> omega)) | (dsimp only [maxLen]; and_intros <;> omega) | (simp only [n21, n22, m9]; first | omega | (and_intros <;> omega)))))
      | ((with_reducible refine Or.inl ⟨?_, ?_, ?_⟩); (focus rfl); (focus (and_intros <;> first | rfl | omega)))
      | ((with_reducible refine Or.inr (Or.inl ⟨?_, ?_⟩)); focus (and_intros <;> first | rfl | omega))
      | ((with_reducible refine Or.inr (Or.inr (Or.inl ⟨?_, ?_⟩))); focus (and_intros <;> first | rfl | omega))
      | ((with_reducible refine Or.inr (Or.inr (Or.inr ⟨?_, ?_⟩))); focus (and_intros <;> first | rfl | omega))
      | (with_reducible intro hc; (try simp only [capsP, and_true] at hc); (try (exfalso; omega)))
      | ((fail_if_success (with_reducible first | refine And.intro ?_ ?_ | refine Or.inl ?_ | intro _)); (conv => whnf); (fail_if_success (fail_if_success (with_reducible first | apply kL | apply kC | apply kF | apply kM | refine Exists.intro ?_ ?_ | refine Both.mk ?_ ?_ | refine And.intro ?_ ?_ | refine Or.inl ?_ | intro _))))))
  · have h1 : ackN a = 1 := by omega
    have h2 : ackN b = 1 := by omega
    have hk0 : k = 0 := by omega
    refine CallK.mk3 (σ := [.whole 1, .whole 3]) (nl := []) (csameP na nb va vb (ackK a) (ackK b) (ackL a) (ackL b) hl) rfl rfl (List.append_nil _) (by (try simp only [↓List.length_cons, ↓List.length_nil, Nat.reduceAdd]); rfl) (by (try simp only [↓List.length_cons, ↓List.length_nil, Nat.reduceAdd]); rfl) (by (try simp (maxSteps := 1000000) only [givesF, setF, updF, Fam.zeroth, Fam.rk, Ck.rk, C.rk, E.rk, T.rk, key, List.map_cons, List.map_nil, List.cons_append, List.nil_append, List.length_cons, List.length_nil, Option.map_some, Option.bind_some, Nat.reduceAdd, Nat.zero_add, Nat.add_zero, Nat.add_sub_cancel_left, Int.toNat_natCast, reps, List.all_cons, List.all_nil, C.flat, List.append_eq, Bool.not_true, Bool.and_true, Bool.or_false, Bool.or_self, Bool.not_false, List.append_nil, Bool.and_self, ↓mtG_rk, ↓winO_rk]); rfl) (by (repeat' (first | (refine And.intro ?_ ?_) | exact trivial | rfl | exact Nat.le_refl _ | exact (fun _ _ => rfl) | exact all_one (by rfl) | (simp only [Int.toNat_natCast, Nat.zero_add, Nat.add_zero]; done)))) ?_
    rintro v h' ⟨rfl, rfl⟩ hcaps
    refine ret_mk3 (by (try simp only [↓List.length_cons, ↓List.length_nil, Nat.reduceAdd]); rfl) (by (try simp (maxSteps := 1000000) only [givesF, setF, updF, Fam.zeroth, Fam.rk, Ck.rk, C.rk, E.rk, T.rk, key, List.map_cons, List.map_nil, List.cons_append, List.nil_append, List.length_cons, List.length_nil, Option.map_some, Option.bind_some, Nat.reduceAdd, Nat.zero_add, Nat.add_zero, Nat.add_sub_cancel_left, Int.toNat_natCast, reps, List.all_cons, List.all_nil, C.flat, List.append_eq, Bool.not_true, Bool.and_true, Bool.or_false, Bool.or_self, Bool.not_false, List.append_nil, Bool.and_self, ↓mtG_rk, ↓winO_rk, encP]); rfl) (by (try simp only [givesF, setF, updF, Fam.zeroth, Fam.rk, Ck.rk, C.rk, E.rk, T.rk, key, List.map_cons, List.map_nil, List.cons_append, List.nil_append, List.length_cons, List.length_nil, Option.map_some, Option.bind_some, Nat.reduceAdd, Nat.zero_add, Nat.add_zero, Nat.add_sub_cancel_left, Int.toNat_natCast, reps, List.all_cons, List.all_nil, C.flat, List.append_eq, Bool.not_true, Bool.and_true, Bool.or_false, Bool.or_self, Bool.not_false, List.append_nil, Bool.and_self, ↓mtG_rk, ↓winO_rk, encP]); rfl) ?_
    repeat' (first
      | ((fail_if_success (with_reducible first | apply kL | apply kC | apply kF | apply kM | refine Exists.intro ?_ ?_)); first
        | ((with_reducible refine And.intro (fun (hb : _ = true) => ?_) (fun (hb : _ = false) => ?_)) <;> (try simp only [n1, n2, n3, n4, n5, n6, n7, n8, n9, n10, n11, n12, n13, n14, n15, n16, reduceCtorEq, n17, n18, n19, n20, n21, n22] at hb) <;> (try (first | (exfalso; omega) | exact bff hb (by assumption) | exact bff (by assumption) hb)))
        | (with_reducible refine Both.mk ?_ ?_)
        | ((with_reducible refine And.intro ?_ ?_); (focus (first | rfl | omega | exact fun _ _ => rfl | assumption | (split <;> omega) | (and_intros <;> first | rfl | omega | (split <;> omega)) | (dsimp only [maxLen]; and_intros <;> omega) | (simp only [n21, n22, m9]; first | omega | (and_intros <;> omega)))))
        | ((with_reducible refine Or.inl ⟨?_, ?_, ?_⟩); (focus rfl); (focus (and_intros <;> first | rfl | omega)))
        | ((with_reducible refine Or.inr (Or.inl ⟨?_, ?_⟩)); focus (and_intros <;> first | rfl | omega))
        | ((with_reducible refine Or.inr (Or.inr (Or.inl ⟨?_, ?_⟩))); focus (and_intros <;> first | rfl | omega))
        | ((with_reducible refine Or.inr (Or.inr (Or.inr ⟨?_, ?_⟩))); focus (and_intros <;> first | rfl | omega))
        | (with_reducible intro hc; (try simp only [capsP, and_true] at hc); (try (exfalso; omega)))
        | ((fail_if_success (with_reducible first | refine And.intro ?_ ?_ | refine Or.inl ?_ | intro _)); (conv => whnf); (fail_if_success (fail_if_success (with_reducible first | apply kL | apply kC | apply kF | apply kM | refine Exists.intro ?_ ?_ | refine Both.mk ?_ ?_ | refine And.intro ?_ ?_ | refine Or.inl ?_ | intro _))))))
    · refine FinK.mk ⟨[0, 1, 2, 3], _, _, ⟨rfl, rfl⟩, ?_⟩; (repeat' (first | (refine And.intro ?_ ?_) | exact trivial | rfl | exact Nat.le_refl _ | exact (fun _ _ => rfl) | exact all_one (by rfl) | (simp only [Int.toNat_natCast, Nat.zero_add, Nat.add_zero]; done)))
      exact decide_eq_false (fun e => hb ((ack_eq h1 h2).1 e))
    · refine ⟨⟨k + 1, by omega, fun _ => (ack_eq h1 h2).2 hb⟩, [0, 1, 2, 3], by simp only; omega, ?_⟩
      (repeat' (first | (refine And.intro ?_ ?_) | exact trivial | rfl | exact Nat.le_refl _ | exact (fun _ _ => rfl) | exact all_one (by rfl) | (simp only [Int.toNat_natCast, Nat.zero_add, Nat.add_zero]; done)))
  · refine FinK.mk ⟨[0, 1, 2, 3], _, _, ⟨rfl, rfl⟩, ?_⟩; (repeat' (first | (refine And.intro ?_ ?_) | exact trivial | rfl | exact Nat.le_refl _ | exact (fun _ _ => rfl) | exact all_one (by rfl) | (simp only [Int.toNat_natCast, Nat.zero_add, Nat.add_zero]; done)))
    refine decide_eq_true ?_
    by_cases h : k = 1
    · exact hno h
    · exact ack_none (by omega) (by omega)

def dataP (n : Int) : Pkt := ⟨1, 0, 0, 1, 0, n, 0, 0, n, ⟨#[112]⟩⟩
set_option maxRecDepth 10000 in
theorem cdataP (n : Int) : Ctr Try.prog 19 [.c (.i .i64 n)] [] fun v h => v = .a (encP .nils (dataP n)) ∧ h = [] := by
  refine Ctr.mk' tbv mixed Try.func19 rfl rfl rfl (fun _ _ => by kernel_rfl) (by kernel_rfl) (by rfl) (by rfl) (by (repeat' (first | (refine And.intro ?_ ?_) | exact trivial | rfl | exact Nat.le_refl _ | exact (fun _ _ => rfl) | exact all_one (by rfl) | (simp only [Int.toNat_natCast, Nat.zero_add, Nat.add_zero]; done)))) ?_
  repeat' (first
    | ((fail_if_success (with_reducible first | apply kL | apply kC | apply kF | apply kM | refine Exists.intro ?_ ?_)); first
      | ((with_reducible refine And.intro (fun (hb : _ = true) => ?_) (fun (hb : _ = false) => ?_)) <;> (try simp only [n1, n2, n3, n4, n5, n6, n7, n8, n9, n10, n11, n12, n13, n14, n15, n16, reduceCtorEq, n17, n18, n19, n20, n21, n22] at hb) <;> (try (first | (exfalso; omega) | exact bff hb (by assumption) | exact bff (by assumption) hb)))
      | (with_reducible refine Both.mk ?_ ?_)
      | ((with_reducible refine And.intro ?_ ?_); (focus (first | rfl | omega | exact fun _ _ => rfl | assumption | (split <;> omega) | (and_intros <;> first | rfl | omega | (split <;> omega)) | (dsimp only [maxLen]; and_intros <;> omega) | (simp only [n21, n22, m9]; first | omega | (and_intros <;> omega)))))
      | ((with_reducible refine Or.inl ⟨?_, ?_, ?_⟩); (focus rfl); (focus (and_intros <;> first | rfl | omega)))
      | ((with_reducible refine Or.inr (Or.inl ⟨?_, ?_⟩)); focus (and_intros <;> first | rfl | omega))
      | ((with_reducible refine Or.inr (Or.inr (Or.inl ⟨?_, ?_⟩))); focus (and_intros <;> first | rfl | omega))
      | ((with_reducible refine Or.inr (Or.inr (Or.inr ⟨?_, ?_⟩))); focus (and_intros <;> first | rfl | omega))
      | (with_reducible intro hc; (try simp only [capsP, and_true] at hc); (try (exfalso; omega)))
      | ((fail_if_success (with_reducible first | refine And.intro ?_ ?_ | refine Or.inl ?_ | intro _)); (conv => whnf); (fail_if_success (fail_if_success (with_reducible first | apply kL | apply kC | apply kF | apply kM | refine Exists.intro ?_ ?_ | refine Both.mk ?_ ?_ | refine And.intro ?_ ?_ | refine Or.inl ?_ | intro _))))))
  refine FinK.mk ⟨[], _, _, ⟨rfl, rfl⟩, ?_⟩; (repeat' (first | (refine And.intro ?_ ?_) | exact trivial | rfl | exact Nat.le_refl _ | exact (fun _ _ => rfl) | exact all_one (by rfl) | (simp only [Int.toNat_natCast, Nat.zero_add, Nat.add_zero]; done)))

def relQ : Qos := ⟨true, false, true, 0, 0, 0, 0⟩
set_option maxRecDepth 10000 in
theorem crelQ : Ctr Try.prog 11 [] [] fun v h => v = .a (encQ relQ) ∧ h = [] := by
  refine Ctr.mk' tbv mixed Try.func11 rfl rfl rfl (fun _ _ => by kernel_rfl) (by kernel_rfl) (by rfl) (by rfl) (by (repeat' (first | (refine And.intro ?_ ?_) | exact trivial | rfl | exact Nat.le_refl _ | exact (fun _ _ => rfl) | exact all_one (by rfl) | (simp only [Int.toNat_natCast, Nat.zero_add, Nat.add_zero]; done)))) ?_
  repeat' (first
    | ((fail_if_success (with_reducible first | apply kL | apply kC | apply kF | apply kM | refine Exists.intro ?_ ?_)); first
      | ((with_reducible refine And.intro (fun (hb : _ = true) => ?_) (fun (hb : _ = false) => ?_)) <;> (try simp only [n1, n2, n3, n4, n5, n6, n7, n8, n9, n10, n11, n12, n13, n14, n15, n16, reduceCtorEq, n17, n18, n19, n20, n21, n22] at hb) <;> (try (first | (exfalso; omega) | exact bff hb (by assumption) | exact bff (by assumption) hb)))
      | (with_reducible refine Both.mk ?_ ?_)
      | ((with_reducible refine And.intro ?_ ?_); (focus (first | rfl | omega | exact fun _ _ => rfl | assumption | (split <;> omega) | (and_intros <;> first | rfl | omega | (split <;> omega)) | (dsimp only [maxLen]; and_intros <;> omega) | (simp only [n21, n22, m9]; first | omega | (and_intros <;> omega)))))
      | ((with_reducible refine Or.inl ⟨?_, ?_, ?_⟩); (focus rfl); (focus (and_intros <;> first | rfl | omega)))
      | ((with_reducible refine Or.inr (Or.inl ⟨?_, ?_⟩)); focus (and_intros <;> first | rfl | omega))
      | ((with_reducible refine Or.inr (Or.inr (Or.inl ⟨?_, ?_⟩))); focus (and_intros <;> first | rfl | omega))
      | ((with_reducible refine Or.inr (Or.inr (Or.inr ⟨?_, ?_⟩))); focus (and_intros <;> first | rfl | omega))
      | (with_reducible intro hc; (try simp only [capsP, and_true] at hc); (try (exfalso; omega)))
      | ((fail_if_success (with_reducible first | refine And.intro ?_ ?_ | refine Or.inl ?_ | intro _)); (conv => whnf); (fail_if_success (fail_if_success (with_reducible first | apply kL | apply kC | apply kF | apply kM | refine Exists.intro ?_ ?_ | refine Both.mk ?_ ?_ | refine And.intro ?_ ?_ | refine Or.inl ?_ | intro _))))))
  refine FinK.mk ⟨[], _, _, ⟨rfl, rfl⟩, ?_⟩; (repeat' (first | (refine And.intro ?_ ?_) | exact trivial | rfl | exact Nat.le_refl _ | exact (fun _ _ => rfl) | exact all_one (by rfl) | (simp only [Int.toNat_natCast, Nat.zero_add, Nat.add_zero]; done)))

def RdJ (q : Qos) : Rd := ⟨[], [], [(0, 1)], 1, fun y => if y = 1 then some ⟨3, 1, q.rel, [], 0⟩ else none⟩
theorem Rd0_ok : RdOk Rd0 := ⟨fun i hi => absurd hi (Nat.not_lt_zero i), fun x m h => by cases h⟩
theorem viol_self (q : Qos) (h : okQ q) : viol q q = 0 := by
  have h2 : 0 ≤ q.dead := h.1.1
  have h3 : 0 ≤ q.lease := h.2.2.1.1
  unfold viol wthn
  rw [if_neg (by rintro ⟨a, b⟩; rw [a] at b; cases b), if_neg (by rintro ⟨a, b⟩; rw [a] at b; cases b), if_neg (by omega), if_neg (by omega)]
theorem matchJ (q : Qos) (h : okQ q) : matchE q 1 3 q Rd0 = 0 := by
  unfold matchE
  rw [if_neg (by omega), if_neg (by simpa using h), if_neg (by simpa using viol_self q h)]
  rfl

theorem matchRJ (q : Qos) (h : okQ q) : matchR q 1 3 q Rd0 = RdJ q := by
  unfold matchR
  rw [if_pos (matchJ q h), Bool.and_self]
  rfl
theorem RdJ_ok (q : Qos) : RdOk (RdJ q) where
  a := fun i hi => by
    have : i = 0 := by simp [RdJ] at hi; exact hi
    subst this
    exact ⟨by simp [RdJ], _, rfl⟩
  b := fun x m h => by
    by_cases hx : x = 1
    · subst hx
      exact ⟨0, by simp [RdJ], by simp [RdJ], Nat.le_refl _⟩
    · simp [RdJ, hx] at h

set_option maxRecDepth 10000 in
set_option maxHeartbeats 4000000 in
theorem cjoined (q : Qos) (hq : okQ q) : Ctr Try.prog 10 [.a (encQ q)] [] fun v h => v = .c (.p 0 0 0) ∧ h = rdB 9 q (RdJ q) 0 0 := by
  refine Ctr.mk' tbv mixed Try.func10 rfl rfl rfl (fun _ _ => by kernel_rfl) (by kernel_rfl) (by rfl) (by rfl) (by (repeat' (first | (refine And.intro ?_ ?_) | exact trivial | rfl | exact Nat.le_refl _ | exact (fun _ _ => rfl) | exact all_one (by rfl) | (simp only [Int.toNat_natCast, Nat.zero_add, Nat.add_zero]; done)))) ?_
  repeat' (first
    | ((fail_if_success (with_reducible first | apply kL | apply kC | apply kF | apply kM | refine Exists.intro ?_ ?_)); first
      | ((with_reducible refine And.intro (fun (hb : _ = true) => ?_) (fun (hb : _ = false) => ?_)) <;> (try simp only [n1, n2, n3, n4, n5, n6, n7, n8, n9, n10, n11, n12, n13, n14, n15, n16, reduceCtorEq, n17, n18, n19, n20, n21, n22] at hb) <;> (try (first | (exfalso; omega) | exact bff hb (by assumption) | exact bff (by assumption) hb)))
      | (with_reducible refine Both.mk ?_ ?_)
      | ((with_reducible refine And.intro ?_ ?_); (focus (first | rfl | omega | exact fun _ _ => rfl | assumption | (split <;> omega) | (and_intros <;> first | rfl | omega | (split <;> omega)) | (dsimp only [maxLen]; and_intros <;> omega) | (simp only [n21, n22, m9]; first | omega | (and_intros <;> omega)))))
      | ((with_reducible refine Or.inl ⟨?_, ?_, ?_⟩); (focus rfl); (focus (and_intros <;> first | rfl | omega)))
      | ((with_reducible refine Or.inr (Or.inl ⟨?_, ?_⟩)); focus (and_intros <;> first | rfl | omega))
      | ((with_reducible refine Or.inr (Or.inr (Or.inl ⟨?_, ?_⟩))); focus (and_intros <;> first | rfl | omega))
      | ((with_reducible refine Or.inr (Or.inr (Or.inr ⟨?_, ?_⟩))); focus (and_intros <;> first | rfl | omega))
      | (with_reducible intro hc; (try simp only [capsP, and_true] at hc); (try (exfalso; omega)))
      | ((fail_if_success (with_reducible first | refine And.intro ?_ ?_ | refine Or.inl ?_ | intro _)); (conv => whnf); (fail_if_success (fail_if_success (with_reducible first | apply kL | apply kC | apply kF | apply kM | refine Exists.intro ?_ ?_ | refine Both.mk ?_ ?_ | refine And.intro ?_ ?_ | refine Or.inl ?_ | intro _))))))
  refine CallK.mk3 (σ := []) (nl := []) (cnew 9 q) rfl rfl (List.append_nil _) (by (try simp only [↓List.length_cons, ↓List.length_nil, Nat.reduceAdd]); rfl) (by (try simp only [↓List.length_cons, ↓List.length_nil, Nat.reduceAdd]); rfl) (by (try simp (maxSteps := 1000000) only [givesF, setF, updF, Fam.zeroth, Fam.rk, Ck.rk, C.rk, E.rk, T.rk, key, List.map_cons, List.map_nil, List.cons_append, List.nil_append, List.length_cons, List.length_nil, Option.map_some, Option.bind_some, Nat.reduceAdd, Nat.zero_add, Nat.add_zero, Nat.add_sub_cancel_left, Int.toNat_natCast, reps, List.all_cons, List.all_nil, C.flat, List.append_eq, Bool.not_true, Bool.and_true, Bool.or_false, Bool.or_self, Bool.not_false, List.append_nil, Bool.and_self, ↓mtG_rk, ↓winO_rk]); rfl) (by (repeat' (first | (refine And.intro ?_ ?_) | exact trivial | rfl | exact Nat.le_refl _ | exact (fun _ _ => rfl) | exact all_one (by rfl) | (simp only [Int.toNat_natCast, Nat.zero_add, Nat.add_zero]; done)))) ?_
  rintro v h' (⟨_, rfl, rfl⟩ | ⟨hn, _, _⟩) hcaps
  · refine ret_mk3 (by (try simp only [↓List.length_cons, ↓List.length_nil, Nat.reduceAdd]); rfl) (by (try simp (maxSteps := 1000000) only [givesF, setF, updF, Fam.zeroth, Fam.rk, Ck.rk, C.rk, E.rk, T.rk, key, List.map_cons, List.map_nil, List.cons_append, List.nil_append, List.length_cons, List.length_nil, Option.map_some, Option.bind_some, Nat.reduceAdd, Nat.zero_add, Nat.add_zero, Nat.add_sub_cancel_left, Int.toNat_natCast, reps, List.all_cons, List.all_nil, C.flat, List.append_eq, Bool.not_true, Bool.and_true, Bool.or_false, Bool.or_self, Bool.not_false, List.append_nil, Bool.and_self, ↓mtG_rk, ↓winO_rk, encQ]); rfl) (by (try simp only [givesF, setF, updF, Fam.zeroth, Fam.rk, Ck.rk, C.rk, E.rk, T.rk, key, List.map_cons, List.map_nil, List.cons_append, List.nil_append, List.length_cons, List.length_nil, Option.map_some, Option.bind_some, Nat.reduceAdd, Nat.zero_add, Nat.add_zero, Nat.add_sub_cancel_left, Int.toNat_natCast, reps, List.all_cons, List.all_nil, C.flat, List.append_eq, Bool.not_true, Bool.and_true, Bool.or_false, Bool.or_self, Bool.not_false, List.append_nil, Bool.and_self, ↓mtG_rk, ↓winO_rk, encQ]); rfl) ?_
    repeat' (first
      | ((fail_if_success (with_reducible first | apply kL | apply kC | apply kF | apply kM | refine Exists.intro ?_ ?_)); first
        | ((with_reducible refine And.intro (fun (hb : _ = true) => ?_) (fun (hb : _ = false) => ?_)) <;> (try simp only [n1, n2, n3, n4, n5, n6, n7, n8, n9, n10, n11, n12, n13, n14, n15, n16, reduceCtorEq, n17, n18, n19, n20, n21, n22] at hb) <;> (try (first | (exfalso; omega) | exact bff hb (by assumption) | exact bff (by assumption) hb)))
        | (with_reducible refine Both.mk ?_ ?_)
        | ((with_reducible refine And.intro ?_ ?_); (focus (first | rfl | omega | exact fun _ _ => rfl | assumption | (split <;> omega) | (and_intros <;> first | rfl | omega | (split <;> omega)) | (dsimp only [maxLen]; and_intros <;> omega) | (simp only [n21, n22, m9]; first | omega | (and_intros <;> omega)))))
        | ((with_reducible refine Or.inl ⟨?_, ?_, ?_⟩); (focus rfl); (focus (and_intros <;> first | rfl | omega)))
        | ((with_reducible refine Or.inr (Or.inl ⟨?_, ?_⟩)); focus (and_intros <;> first | rfl | omega))
        | ((with_reducible refine Or.inr (Or.inr (Or.inl ⟨?_, ?_⟩))); focus (and_intros <;> first | rfl | omega))
        | ((with_reducible refine Or.inr (Or.inr (Or.inr ⟨?_, ?_⟩))); focus (and_intros <;> first | rfl | omega))
        | (with_reducible intro hc; (try simp only [capsP, and_true] at hc); (try (exfalso; omega)))
        | ((fail_if_success (with_reducible first | refine And.intro ?_ ?_ | refine Or.inl ?_ | intro _)); (conv => whnf); (fail_if_success (fail_if_success (with_reducible first | apply kL | apply kC | apply kF | apply kM | refine Exists.intro ?_ ?_ | refine Both.mk ?_ ?_ | refine And.intro ?_ ?_ | refine Or.inl ?_ | intro _))))))
    refine CallK.mk3 (σ := [.whole 1, .name 2, .whole 3, .name 4, .whole 6, .whole 7]) (nl := []) (cmatch 9 q Rd0 0 0 0 0 1 3 q Rd0_ok) rfl rfl (List.append_nil _) (by (try simp only [↓List.length_cons, ↓List.length_nil, Nat.reduceAdd]); rfl) (by (try simp only [↓List.length_cons, ↓List.length_nil, Nat.reduceAdd]); rfl) (by (try simp (maxSteps := 1000000) only [givesF, setF, updF, Fam.zeroth, Fam.rk, Ck.rk, C.rk, E.rk, T.rk, key, List.map_cons, List.map_nil, List.cons_append, List.nil_append, List.length_cons, List.length_nil, Option.map_some, Option.bind_some, Nat.reduceAdd, Nat.zero_add, Nat.add_zero, Nat.add_sub_cancel_left, Int.toNat_natCast, reps, List.all_cons, List.all_nil, C.flat, List.append_eq, Bool.not_true, Bool.and_true, Bool.or_false, Bool.or_self, Bool.not_false, List.append_nil, Bool.and_self, ↓mtG_rk, ↓winO_rk]); rfl) (by (repeat' (first | (refine And.intro ?_ ?_) | exact trivial | rfl | exact Nat.le_refl _ | exact (fun _ _ => rfl) | exact all_one (by rfl) | (simp only [Int.toNat_natCast, Nat.zero_add, Nat.add_zero]; done))) <;> (first | exact fun _ => trivial | exact fun x => mtO_le rfl | exact fun x => winO_le | exact fun x => mtO_bel rfl | exact fun x => winO_bel | exact fun x => mtR_bel rfl rfl | exact fun x => winR_bel)) ?_
    rintro v h' ⟨rfl, rfl⟩ hcaps
    refine ret_mk3 (by (try simp only [↓List.length_cons, ↓List.length_nil, Nat.reduceAdd]); rfl) (by (try simp (maxSteps := 1000000) only [givesF, setF, updF, Fam.zeroth, Fam.rk, Ck.rk, C.rk, E.rk, T.rk, key, List.map_cons, List.map_nil, List.cons_append, List.nil_append, List.length_cons, List.length_nil, Option.map_some, Option.bind_some, Nat.reduceAdd, Nat.zero_add, Nat.add_zero, Nat.add_sub_cancel_left, Int.toNat_natCast, reps, List.all_cons, List.all_nil, C.flat, List.append_eq, Bool.not_true, Bool.and_true, Bool.or_false, Bool.or_self, Bool.not_false, List.append_nil, Bool.and_self, ↓mtG_rk, ↓winO_rk, encQ]); rfl) (by (try simp only [givesF, setF, updF, Fam.zeroth, Fam.rk, Ck.rk, C.rk, E.rk, T.rk, key, List.map_cons, List.map_nil, List.cons_append, List.nil_append, List.length_cons, List.length_nil, Option.map_some, Option.bind_some, Nat.reduceAdd, Nat.zero_add, Nat.add_zero, Nat.add_sub_cancel_left, Int.toNat_natCast, reps, List.all_cons, List.all_nil, C.flat, List.append_eq, Bool.not_true, Bool.and_true, Bool.or_false, Bool.or_self, Bool.not_false, List.append_nil, Bool.and_self, ↓mtG_rk, ↓winO_rk, encQ]); rfl) ?_
    rw [matchJ q hq]
    repeat' (first
      | ((fail_if_success (with_reducible first | apply kL | apply kC | apply kF | apply kM | refine Exists.intro ?_ ?_)); first
        | ((with_reducible refine And.intro (fun (hb : _ = true) => ?_) (fun (hb : _ = false) => ?_)) <;> (try simp only [n1, n2, n3, n4, n5, n6, n7, n8, n9, n10, n11, n12, n13, n14, n15, n16, reduceCtorEq, n17, n18, n19, n20, n21, n22] at hb) <;> (try (first | (exfalso; omega) | exact bff hb (by assumption) | exact bff (by assumption) hb)))
        | (with_reducible refine Both.mk ?_ ?_)
        | ((with_reducible refine And.intro ?_ ?_); (focus (first | rfl | omega | exact fun _ _ => rfl | assumption | (split <;> omega) | (and_intros <;> first | rfl | omega | (split <;> omega)) | (dsimp only [maxLen]; and_intros <;> omega) | (simp only [n21, n22, m9]; first | omega | (and_intros <;> omega)))))
        | ((with_reducible refine Or.inl ⟨?_, ?_, ?_⟩); (focus rfl); (focus (and_intros <;> first | rfl | omega)))
        | ((with_reducible refine Or.inr (Or.inl ⟨?_, ?_⟩)); focus (and_intros <;> first | rfl | omega))
        | ((with_reducible refine Or.inr (Or.inr (Or.inl ⟨?_, ?_⟩))); focus (and_intros <;> first | rfl | omega))
        | ((with_reducible refine Or.inr (Or.inr (Or.inr ⟨?_, ?_⟩))); focus (and_intros <;> first | rfl | omega))
        | (with_reducible intro hc; (try simp only [capsP, and_true] at hc); (try (exfalso; omega)))
        | ((fail_if_success (with_reducible first | refine And.intro ?_ ?_ | refine Or.inl ?_ | intro _)); (conv => whnf); (fail_if_success (fail_if_success (with_reducible first | apply kL | apply kC | apply kF | apply kM | refine Exists.intro ?_ ?_ | refine Both.mk ?_ ?_ | refine And.intro ?_ ?_ | refine Or.inl ?_ | intro _))))))
    rw [matchRJ q hq]
    refine FinK.mk ⟨[1, 2, 3, 4, 5, 9, 10, 98], _, _, ⟨rfl, rfl⟩, ?_⟩
    (repeat' (first | (refine And.intro ?_ ?_) | exact trivial | rfl | exact Nat.le_refl _ | exact (fun _ _ => rfl) | exact all_one (by rfl) | (simp only [Int.toNat_natCast, Nat.zero_add, Nat.add_zero]; done)))
    all_goals (first | exact fun _ => trivial | exact fun x => mtO_le rfl | exact fun x => winO_le | exact fun x => mtO_bel rfl | exact fun x => winO_bel | exact fun x => mtR_bel rfl rfl | exact fun x => winR_bel)
  · exact absurd ⟨by omega, hq⟩ hn
end Go.Proofs.Ytgcofipbdidhmaa

namespace Go.Proofs.Ytgcofipbdidhmaa
open Go.X
set_option linter.unusedVariables false

/-! ### What holds of a reader at all times -/
theorem nodup_lt : ∀ (n : Nat) (l : List Nat), l.Nodup → (∀ x ∈ l, x < n) → l.length ≤ n
  | 0, l, _, h => by
    cases l with
    | nil => simp
    | cons a l => exact absurd (h a (by simp)) (by omega)
  | n + 1, l, hd, h => by
    by_cases hn : n ∈ l
    · have h1 := nodup_lt n (l.erase n) (hd.erase n) (fun x hx => by
        have h2 := (hd.mem_erase_iff).1 hx
        have := h x h2.2
        omega)
      rw [List.length_erase_of_mem hn] at h1
      omega
    · have := nodup_lt n l hd (fun x hx => by
        have h2 := h x hx
        have : x ≠ n := fun e => hn (e ▸ hx)
        omega)
      omega
theorem WOk.len {W : Win} {ex : Int} (h : WOk W ex) : W.length ≤ 256 := by
  have h1 : ((W.map (·.2.1)).map fun k => (k - ex).toNat).Nodup := by
    rw [List.nodup_iff_pairwise_ne, List.pairwise_map]
    have h2 := List.nodup_iff_pairwise_ne.1 h.nd
    refine List.Pairwise.imp_of_mem (fun {a b} ha hb hab e => hab ?_) h2
    obtain ⟨x, hx, rfl⟩ := List.mem_map.1 ha
    obtain ⟨y, hy, rfl⟩ := List.mem_map.1 hb
    have := h.rg x hx
    have := h.rg y hy
    omega
  have := nodup_lt 256 _ h1 (fun x hx => by
    obtain ⟨k, hk, rfl⟩ := List.mem_map.1 hx
    obtain ⟨e, he, rfl⟩ := List.mem_map.1 hk
    have := h.rg e he
    omega)
  simpa using this

structure MOk (m : Mx) : Prop where
  ok : WOk m.W m.ex
  lo : 1 ≤ m.ex
  hi : m.ex ≤ 1099511627777
  un : m.rel = false → m.W = []
structure RdI (R : Rd) (B : Nat) : Prop where
  ok : RdOk R
  m : ∀ x m, R.D x = some m → MOk m
  l : R.l.length ≤ 256
  ls : R.ls.length ≤ B
theorem RdI.all {R : Rd} {B : Nat} (h : RdI R B) (hB : B ≤ 600000) : AllInv R 800000 700000 := fun x m hm => by
  have h1 := h.m x m hm
  have := h1.ok.len
  have := h.l
  have := h.ls
  exact ⟨h1.ok, h1.lo, h1.hi, by simp only [Rd.rs]; omega, by simp only [Rd.rs]; omega⟩

/-- The same of one writer's state. -/
structure RsI (r : Rs) (B : Nat) : Prop where
  ok : WOk r.W r.ex
  lo : 1 ≤ r.ex
  hi : r.ex ≤ 1099511627777
  l : r.l.length ≤ 256
  ls : r.ls.length ≤ B

theorem new_le' (q : Qos) (l : List Smp) (x : Smp) (h : l.length ≤ 256) : (newS q l x).length ≤ 256 := by
  unfold newS
  split
  · rename_i h0
    unfold addL
    split
    · rename_i ho
      have : ¬ 256 ≤ l.length := by
        intro h1
        unfold addE at h0
        split at h0
        · omega
        · split at h0
          · omega
          · split at h0
            · omega
            · rw [if_pos ⟨ho, h1⟩] at h0; omega
      simp; omega
    · rename_i ho
      have h1 := old_lt q l x.w
      have h2 : (oldI q l x.w).toNat < l.length := by omega
      rw [List.length_append, List.length_eraseIdx_of_lt h2]
      simp; omega
  · exact h

theorem mv_I (q : Qos) (w : Int) {B : Nat} : ∀ (n : Nat) (r : Rs), RsI r B → RsI (mv q w n r) (B + 2 * n) ∧ r.ex ≤ (mv q w n r).ex
  | 0, r, h => ⟨h, Int.le_refl _⟩
  | n + 1, r, h => by
    unfold mv
    cases hg : wget r.W r.ex with
    | none => exact ⟨⟨h.ok, h.lo, h.hi, h.l, by have := h.ls; simp only; omega⟩, Int.le_refl _⟩
    | some s =>
      obtain ⟨i, hi, hk, rfl⟩ := get_find hg
      have hmx : r.ex ≤ 1099511627776 := by
        rw [← hk, getD_at hi]
        exact h.ok.mx _ (List.getElem_mem hi)
      have hn := new_le' q r.l (r.W.getD i default).2.2.x h.l
      have hd := dlv_le q r.l r.ls (r.W.getD i default).2.2.x
      have h1 := h.lo
      have h2 := h.l
      have h3 := h.ls
      have hs : RsI (mvStep q w (r.W.getD i default).2.2 r) (B + 2) := by
        refine ⟨ne_ok h.ok, by simp only [mvStep]; omega, by simp only [mvStep]; omega, ?_, ?_⟩
        · simp only [mvStep]
          split <;> omega
        · simp only [mvStep]
          split
          · omega
          · split
            · simp; omega
            · omega
      obtain ⟨i1, i2⟩ := mv_I q w n _ hs
      have e : B + 2 + 2 * n = B + 2 * (n + 1) := by omega
      rw [e] at i1
      refine ⟨i1, ?_⟩
      have : (mvStep q w (r.W.getD i default).2.2 r).ex = r.ex + 1 := rfl
      show r.ex ≤ (mv q w n (mvStep q w (r.W.getD i default).2.2 r)).ex
      omega

theorem RsI.mono {r : Rs} {B C : Nat} (h : RsI r B) (hB : B ≤ C) : RsI r C := ⟨h.ok, h.lo, h.hi, h.l, Nat.le_trans h.ls hB⟩
theorem put_I {r : Rs} {n : Int} {s : Slt} {B : Nat} (h : RsI r B) (ho : openB r n) (hn : n ≤ 1099511627776) : RsI (putW n s r) B :=
  ⟨put_ok h.ok ho hn, h.lo, h.hi, h.l, h.ls⟩
theorem jump_I {r : Rs} {n : Int} {B : Nat} (h : RsI r B) (h1 : r.ex ≤ n) (h2 : n ≤ 1099511627777) : RsI (jumpF n r) B :=
  ⟨jump_ok h.ok h1, by have := h.lo; simp only [jumpF]; omega, h2, h.l, h.ls⟩
theorem fill_I {r : Rs} {B : Nat} (h : RsI r B) (st n : Int) (k : Nat) (hn : n + k ≤ 1099511627777) : RsI (fillW st k n r) B := by
  have hf := fill_ok h.ok st n k hn
  exact ⟨hf.ok, by rw [hf.ex]; exact h.lo, by rw [hf.ex]; exact h.hi, by rw [hf.l]; exact h.l, by rw [hf.ls]; exact h.ls⟩

theorem nil_ok (ex : Int) : WOk [] ex := ⟨List.nodup_nil, (fun e he => by cases he), (fun e he => by cases he)⟩
theorem gap_of {x : Pkt} (h : checkP x = 0) (hk : x.k = 4) : (x.q = 0 ∨ x.q = 1) ∧ (1 ≤ x.f ∧ x.f ≤ 1099511627776) ∧ x.f - 1 ≤ x.la ∧ x.la ≤ 1099511627776 := by
  unfold checkP okN at h
  rw [if_neg (by omega), if_pos hk] at h
  split at h
  · assumption
  · omega
theorem hb_of {x : Pkt} (h : checkP x = 0) (hk : x.k = 2) : (1 ≤ x.f ∧ x.f ≤ 1099511627776) ∧ x.f - 1 ≤ x.la ∧ x.la ≤ 1099511627776 := by
  unfold checkP okN at h
  rw [if_neg (by omega), if_neg (by omega), if_pos hk] at h
  split at h
  · assumption
  · omega

theorem step_I {q : Qos} {x : Pkt} {m : Mx} {r : Rs} {B : Nat} (h : RsI r B) (hx : checkP x = 0) (hu : m.rel = false → r.W = []) :
    RsI (stepF q x m r) (B + 1000) ∧ r.ex ≤ (stepF q x m r).ex ∧ (m.rel = false → (stepF q x m r).W = []) := by
  have hlen := h.ok.len
  have hlo := h.lo
  have hls := h.ls
  unfold stepF
  split
  · rename_i hk
    have hq := okN_of hx hk
    unfold okN at hq
    unfold dataF
    split
    · exact ⟨h.mono (by omega), Int.le_refl _, hu⟩
    · split
      · rename_i hr
        have hl := lap_len x.w r.ex x.q
        have hd := dlv_le q r.l (r.ls ++ lapL x.w r.ex x.q) (smpOf x)
        have hn := new_le' q r.l (smpOf x) h.l
        simp only [List.length_append] at hd
        exact ⟨⟨by simp only [hu hr]; exact nil_ok _, by simp only; omega, by simp only; omega, hn, by simp only; omega⟩, by simp only; omega, fun _ => hu hr⟩
      · rename_i hr
        split
        · rename_i ho
          have := mv_I q x.w (r.W.length + 1) _ (put_I (s := ⟨1, smpOf x⟩) h ho hq.2)
          exact ⟨this.1.mono (by omega), this.2, fun e => absurd e hr⟩
        · exact ⟨h.mono (by omega), Int.le_refl _, hu⟩
  · split
    · rename_i hk
      have hg := gap_of hx hk
      unfold gapF
      split
      · exact ⟨h.mono (by omega), Int.le_refl _, hu⟩
      · split
        · rename_i hr
          split
          · have hl := lap_len x.w r.ex (x.la + 1)
            refine ⟨⟨by simp only [hu hr]; exact nil_ok _, by simp only; omega, by simp only; omega, h.l, ?_⟩, by simp only; omega, fun _ => hu hr⟩
            simp only
            split
            · simp only [List.length_append]; omega
            · omega
          · exact ⟨h.mono (by omega), Int.le_refl _, hu⟩
        · rename_i hr
          split
          · have hj := jump_I (n := x.la + 1) h (by omega) (by omega)
            have hjl := hj.ok.len
            have := mv_I q x.w (jumpF (x.la + 1) r).W.length _ hj
            refine ⟨this.1.mono (by omega), Int.le_trans ?_ this.2, fun e => absurd e hr⟩
            show r.ex ≤ x.la + 1
            omega
          · have hf := fill_I h (if x.q = 1 then 3 else 2) (max x.f r.ex) (min x.la (r.ex + 255) - max x.f r.ex + 1).toNat (by omega)
            have he := (fill_ok h.ok (if x.q = 1 then 3 else 2) (max x.f r.ex) (min x.la (r.ex + 255) - max x.f r.ex + 1).toNat (by omega)).ex
            have hfl := hf.ok.len
            generalize fillW (if x.q = 1 then 3 else 2) (min x.la (r.ex + 255) - max x.f r.ex + 1).toNat (max x.f r.ex) r = r' at *
            have := mv_I q x.w r'.W.length r' hf
            exact ⟨this.1.mono (by omega), by rw [← he]; exact this.2, fun e => absurd e hr⟩
    · rename_i h1 h2
      have hg := hb_of hx (kind_of hx h1 h2)
      unfold hbF
      split
      · exact ⟨h.mono (by omega), Int.le_refl _, hu⟩
      · rename_i hr
        split
        · have hj := jump_I (n := x.f) h (by omega) (by omega)
          have hjl := hj.ok.len
          have := mv_I q x.w (jumpF x.f r).W.length _ hj
          refine ⟨this.1.mono (by omega), Int.le_trans ?_ this.2, fun e => absurd e hr⟩
          show r.ex ≤ x.f
          omega
        · exact ⟨h.mono (by omega), Int.le_refl _, hu⟩

theorem upd_ok {R : Rd} (h : RdOk R) {w : Int} {m : Mx} (hm : R.get w = some m) (r : Rs) : RdOk (upd R w m r) := by
  have h1 : 1 ≤ w ∧ R.D w.toNat = some m := by
    unfold Rd.get at hm
    split at hm
    · exact ⟨by assumption, hm⟩
    · cases hm
  refine ⟨fun i hi => ?_, fun x m' hx => ?_⟩
  · obtain ⟨a1, m', a2⟩ := h.a i hi
    refine ⟨a1, ?_⟩
    show ∃ m', (if (R.M.getD i default).2.toNat = w.toNat then _ else _) = some m'
    split
    · exact ⟨_, rfl⟩
    · exact ⟨_, a2⟩
  · have hx : (if x = w.toNat then _ else R.D x) = some m' := hx
    split at hx
    · rename_i e
      subst e
      exact h.b _ _ h1.2
    · exact h.b _ _ hx

theorem recv_I {q : Qos} {x : Pkt} {R : Rd} {B : Nat} (h : RdI R B) : RdI (recvR q x R) (B + 1000) := by
  unfold recvR
  cases hm : R.get x.w with
  | none => exact ⟨h.ok, h.m, h.l, by have := h.ls; simp only; omega⟩
  | some m =>
    simp only
    split
    · rename_i hx
      have hD : 1 ≤ x.w ∧ R.D x.w.toNat = some m := by
        unfold Rd.get at hm
        split at hm
        · exact ⟨by assumption, hm⟩
        · cases hm
      have hk := h.m _ _ hD.2
      obtain ⟨s1, s2, s3⟩ := step_I (q := q) (m := m) (r := R.rs m) (B := B) ⟨hk.ok, hk.lo, hk.hi, h.l, h.ls⟩ hx hk.un
      refine ⟨upd_ok h.ok hm _, fun y m' hy => ?_, s1.l, s1.ls⟩
      have hy : (if y = x.w.toNat then _ else R.D y) = some m' := hy
      split at hy
      · cases hy
        exact ⟨s1.ok, s1.lo, s1.hi, s3⟩
      · exact h.m _ _ hy
    · exact ⟨h.ok, h.m, h.l, by have := h.ls; omega⟩

theorem RdJ_I (q : Qos) : RdI (RdJ q) 0 := by
  refine ⟨RdJ_ok q, fun x m h => ?_, by simp [RdJ], by simp [RdJ]⟩
  by_cases hx : x = 1
  · simp [RdJ, hx] at h
    subst h
    exact ⟨nil_ok _, by simp, by simp, fun _ => rfl⟩
  · simp [RdJ, hx] at h
end Go.Proofs.Ytgcofipbdidhmaa
