/- Part 6 of the texts that a walk of this program rests on: an abstract machine, its soundness, contracts of functions. No statement of the seat is proved in this file. -/
import Derived.Test.YtofcadbfjbefkaaGreatZ5
namespace Go.Proofs.YtofcadbfjbefkaaGreat
open Go.X
set_option linter.unusedSimpArgs false
set_option linter.unusedVariables false
def akSR (p : Pr) (n : Int) : Pr := if n < p.st then ⟨p.nd, p.rel, p.st, p.ac, p.se, p.rq, true, p.bt⟩ else if n ≤ p.se then ⟨p.nd, p.rel, p.st, p.ac, p.se, p.rq ++ [n], p.bg, p.bt⟩ else p
def akPR (x : Pk) (p : Pr) : Pr := if p.rel = false then p else x.m.foldl akSR (akC p x.f)
def setR (R : Rw) (r : Int) (p : Pr) : Rw := ⟨R.l, R.la, R.S, fun y => if y = r.toNat then some p else R.D y⟩
def akRr (id : Int) (x : Pk) (R : Rw) : Rw := if akE id x R.W = 0 then (match R.W.get x.r with | some p => setR R x.r (akPR x p) | none => R) else R
theorem akR_len (m : List Int) (p : Pr) (f : Int) : ∀ k, ((m.take k).foldl akSR (akC p f)).rq.length ≤ p.rq.length + m.length := by
  have h : ∀ (t : List Int) (a : Pr), (t.foldl akSR a).rq.length ≤ a.rq.length + t.length := by
    intro t
    induction t with
    | nil => intro a; exact Nat.le_refl _
    | cons n t ih =>
      intro a
      refine Nat.le_trans (ih _) ?_
      unfold akSR
      split
      · simp only [List.length_cons]; omega
      · split
        · simp only [List.length_cons, List.length_append, List.length_nil]; omega
        · simp only [List.length_cons]; omega
  intro k
  have := h (m.take k) (akC p f)
  have h2 : (m.take k).length ≤ m.length := by rw [List.length_take]; omega
  have h3 : (akC p f).rq = p.rq := rfl
  rw [h3] at this
  omega
/-- One reader's row with another state in its place. -/
theorem rd_upd {F G k : Nat} {R : Rw} {cf : Nat → Nat} {p : Pr} {r : Int} {c : Nat} {L : List C} {σ : List Sg} {N : Nat} (hR : ROk R) (hk : k < R.S.length) (hr : ((R.S.getD k default : Nat) : Int) = r)
    (h3 : ∀ x, x ≠ r.toNat → key σ N F x = (G, x))
    (hL : L = encPr (key σ N F r.toNat).1 (key σ N F r.toNat).2 r.toNat p c) (i : Nat) (hi : i < R.S.length) :
    (if i = k then L else encRd G R cf i) = List.map (C.rk σ N) (encRd F (setR R r p) (updC cf r c) i) := by
  have hr2 : R.S.getD k default = r.toNat := by omega
  rw [rd_rk, show (setR R r p).S = R.S from rfl]
  by_cases e : i = k
  · subst e
    rw [if_pos rfl, hL, hr2]
    have h1 : (setR R r p).D r.toNat = some p := if_pos rfl
    have h2 : updC cf r c r.toNat = c := if_pos rfl
    rw [h1]
    simp only [h2]
    rfl
  · have hn : R.S.getD i default ≠ r.toNat := by rw [← hr2]; exact nd_S hR hi hk e
    rw [if_neg e]
    have h1 : (setR R r p).D (R.S.getD i default) = R.D (R.S.getD i default) := if_neg hn
    have h2 : updC cf r c (R.S.getD i default) = cf (R.S.getD i default) := if_neg hn
    rw [h1]
    unfold encRd
    cases R.D (R.S.getD i default) with
    | none => rfl
    | some m2 =>
      simp only [h2, h3 _ hn]
      rfl
theorem rq_updC {R : Rw} {r : Int} {p : Pr} {c : Nat} {cf : Nat → Nat} {N N' : Nat} {σ : List Sg} (y : Nat) (h : y ≠ r.toNat) : (rqO (R.D y) (cf y)).leK N ((rqO ((setR R r p).D y) (updC cf r c y)).rk σ N') True := by
  have e1 : (setR R r p).D y = R.D y := if_neg h
  have e2 : updC cf r c y = cf y := if_neg h
  rw [e1, e2]
  exact rqO_le
def bxC (F X y : Nat) (A : Pr) (n cq : Nat) : List C := [.i .i64 X, .i .i64 A.nd, .b A.rel, .i .i64 A.st, .i .i64 A.ac, .i .i64 A.se, .sl F y 1 0 n cq, .b A.bg, .i .i64 A.bt]
abbrev rK (id per : Int) (q : Qos) (R : Rw) (cM : Nat) (cf : Nat → Nat) (wa : Bool) (m : List Int) (cm : Nat) : List Fam :=
  [.one (wrr 1 2 id per R.la q R.S.length cM), .one .no, .one (rdR 6 R cM cf), .one .no, .one .no, .one (ints wa m cm), rqs R.D cf]
theorem rH18ziF0 {σ : List Sg} {H h' : List Fam} {v : T} {K : T → List Fam → Prop} {H' : List Fam} {v' : T} {N : Nat} (hk : K v' H') (hN : H.length = N := by (try simp only [↓List.length_cons, ↓List.length_nil, Nat.reduceAdd]) <;> rfl) (h : givesF σ N H σ h' = some H' := by (try simp (maxSteps := 1000000) only [givesF, setF, updF, Fam.zeroth, Fam.rk, Ck.rk, C.rk, E.rk, T.rk, key, List.map_cons, List.map_nil, List.cons_append, List.nil_append, List.length_cons, List.length_nil, Option.map_some, Option.bind_some, Nat.reduceAdd, Nat.zero_add, Nat.add_zero, Nat.add_sub_cancel_left, Int.toNat_natCast, reps, List.all_cons, List.all_nil, C.flat, List.append_eq, Bool.not_true, Bool.and_true, Bool.or_false, Bool.or_self, Bool.not_false, List.append_nil, Bool.and_self, ↓rqO_rk, encP]) <;> rfl) (hv : v.rk σ N = v' := by (try simp only [givesF, setF, updF, Fam.zeroth, Fam.rk, Ck.rk, C.rk, E.rk, T.rk, key, List.map_cons, List.map_nil, List.cons_append, List.nil_append, List.length_cons, List.length_nil, Option.map_some, Option.bind_some, Nat.reduceAdd, Nat.zero_add, Nat.add_zero, Nat.add_sub_cancel_left, Int.toNat_natCast, reps, List.all_cons, List.all_nil, C.flat, List.append_eq, Bool.not_true, Bool.and_true, Bool.or_false, Bool.or_self, Bool.not_false, List.append_nil, Bool.and_self, ↓rqO_rk, encP]) <;> rfl) : RetG σ H h' v K := ret_mk3 hN h hv hk
theorem cH18ziF1 {P : Program} {F : Nat} {args : List T} {H : List Fam} {K : T → List Fam → Prop} {σ : List Sg} {nl : List Fam} {args0 : List T} {h0 : List Fam} {Q : T → List Fam → Prop} {H2 H1 : List Fam} {N n : Nat} (hc : Ctr P F args0 h0 Q) (hk : ∀ v h', Q v h' → capsP h' → RetG σ H2 h' v K) (hap : apart σ = true := by rfl) (hnl : nl.all nilB = true := by rfl) (h1 : H ++ nl = H1 := by first | exact List.append_nil _ | ((try simp only [List.cons_append, List.nil_append]) <;> rfl)) (hN : H1.length = N := by (try simp only [↓List.length_cons, ↓List.length_nil, Nat.reduceAdd]) <;> rfl) (hn : H.length = n := by (try simp only [↓List.length_cons, ↓List.length_nil, Nat.reduceAdd]) <;> rfl) (hH : givesF σ N H1 σ h0 = some H2 := by (try simp (maxSteps := 1000000) only [givesF, setF, updF, Fam.zeroth, Fam.rk, Ck.rk, C.rk, E.rk, T.rk, key, List.map_cons, List.map_nil, List.cons_append, List.nil_append, List.length_cons, List.length_nil, Option.map_some, Option.bind_some, Nat.reduceAdd, Nat.zero_add, Nat.add_zero, Nat.add_sub_cancel_left, Int.toNat_natCast, reps, List.all_cons, List.all_nil, C.flat, List.append_eq, Bool.not_true, Bool.and_true, Bool.or_false, Bool.or_self, Bool.not_false, List.append_nil, Bool.and_self, ↓rqO_rk]) <;> rfl) (hle : leS n H1 σ N σ h0 (belsK N (h0.map (Fam.rk σ N)) (argsK n args (args0.map (T.rk σ N)) True)) := by repeat' first | refine And.intro ?_ ?_ | exact xeC | fail) : CallK P F args H K := CallK.mk3 hc hap hnl h1 hN hn hH hle hk
set_option maxRecDepth 10000 in
set_option maxHeartbeats 16000000 in
theorem rack (id per : Int) (q : Qos) (R : Rw) (cM : Nat) (cf : Nat → Nat) (x : Pk) (wa : Bool) (cm : Nat) (at' : Int) (hR : ROk R) (hS : R.S.length ≤ 1000000) (hla : 0 ≤ R.la ∧ R.la ≤ 1000000) (hp : x.p.length ≤ 1000000) (hm : x.m.length ≤ 1000000) (hrq : ∀ y p, R.D y = some p → p.rq.length ≤ 100000) :
    Ctr Tryz.prog 16 [.c (.p 0 0 0), .a (encP (.sl 5 0 1 0 x.m.length cm) x), .c (.i .i64 at')] [.one (wrr 1 2 id per R.la q R.S.length cM), .one .no, .one (rdR 4 R cM cf), .one .no, rqs R.D cf, .one (ints wa x.m cm)]
      fun v h => ∃ cf', v = .c (.i .i64 (akE id x R.W)) ∧ h = rK id per q (akRr id x R) cM cf' wa x.m cm := by
  refine Ctr.mk' tbv mixed Tryz.func16 rfl rfl rfl (fun _ _ => by kernel_rfl) (by kernel_rfl) (by rfl) (by rfl) (by (repeat' first | refine And.intro ?_ ?_ | exact xeC | fail) <;> exact xmI) ?_
  repeat' (first | (fail_if_success (with_reducible refine xstp ?_)); first | (with_reducible intro hc; (try simp only [capsP, and_true] at hc); (try exact xfC)) | ((fail_if_success (with_reducible first | refine xgon ?_ | intro _)); (conv => whnf); (fail_if_success (fail_if_success (with_reducible first | refine xstp ?_ | refine xgon ?_ | intro _)))))
  refine cH18ziF1 (σ := [.whole 5]) (nl := []) (cCheckR x wa cm hp hm) ?_
  rintro v h' ⟨rfl, rfl⟩ hcaps
  refine rH18ziF0 ?_
  repeat' (first | (fail_if_success (with_reducible refine xstp ?_)); first | ((with_reducible refine And.intro (fun (hb : _ = true) => ?_) (fun (hb : _ = false) => ?_)) <;> replace hb := xnC hb <;> (try first | exact xfC | exact bff hb (by assumption) | exact bff (by assumption) hb)) | ((with_reducible refine And.intro ?_ ?_); focus exact xoC) | ((fail_if_success (with_reducible first | refine xgon ?_ | intro _)); (conv => whnf); (fail_if_success (fail_if_success (with_reducible first | refine xstp ?_ | refine xgon ?_ | intro _)))))
  all_goals try (
    have e1 : akE id x R.W = 4 := by
      unfold akE
      rw [if_pos (by show _ ∨ _ ∨ _ ∨ R.la + 1 < x.f; omega)]
    have e2 : akRr id x R = R := by unfold akRr; rw [e1]; rfl
    rw [e1, e2]
    refine FinK.mk ⟨[0, 1, 2, 3, 4, 5, 4], _, _, ⟨cf, rfl, rfl⟩, ?_⟩
    (repeat' first | refine And.intro ?_ ?_ | exact xeC | fail)
    all_goals exact xmI
    done)
  have hA : ¬ (chk x ≠ 0 ∨ x.k ≠ 3 ∨ x.w ≠ id ∨ R.W.la + 1 < x.f) := by
    show ¬ (_ ∨ _ ∨ _ ∨ R.la + 1 < x.f)
    omega
  refine LoopK.mk' {k : Nat // k ≤ x.m.length ∧ ∀ j, j < k → x.m.getD j default ≤ R.la}
    (fun ⟨k, _⟩ => ⟨[(0, .c (.p 0 0 0)), (4, .c (.p 6 0 0)), (7, .c (.i .i64 k))],
      [.one (wrr 1 2 id per R.la q R.S.length cM), .one .no, .one (rdR 4 R cM cf), .one .no, rqs R.D cf, .one (ints wa x.m cm), .one (.cells true (encP (.sl 5 0 1 0 x.m.length cm) x))]⟩)
    (fun k => x.m.length - k.1)
    ⟨⟨0, Nat.zero_le _, fun j h => absurd h (Nat.not_lt_zero j)⟩, [0, 1, 2, 3, 4, 5, 6], ?_⟩ ?_
  · (repeat' first | refine And.intro ?_ ?_ | exact xeC | fail)
    all_goals exact xmI
  rintro ⟨k, hk, hno⟩
  repeat' (first | (fail_if_success (with_reducible refine xstp ?_)); first | ((with_reducible refine And.intro (fun (hb : _ = true) => ?_) (fun (hb : _ = false) => ?_)) <;> replace hb := xnC hb <;> (try first | exact xfC | exact bff hb (by assumption) | exact bff (by assumption) hb)) | ((with_reducible refine And.intro ?_ ?_); focus exact xoC) | (with_reducible intro hc; (try simp only [capsP, and_true] at hc); (try exact xfC)) | ((fail_if_success (with_reducible first | refine xgon ?_ | intro _)); (conv => whnf); (fail_if_success (fail_if_success (with_reducible first | refine xstp ?_ | refine xgon ?_ | intro _)))))
  · have hlt : R.la < x.m.getD k default := by simpa [Go.X.encI] using hb
    have e1 : akE id x R.W = 4 := by
      unfold akE
      rw [if_neg hA, if_pos ⟨x.m.getD k default, by rw [getD_at (by omega)]; exact List.getElem_mem _, hlt⟩]
    have e2 : akRr id x R = R := by unfold akRr; rw [e1]; rfl
    rw [e1, e2]
    refine FinK.mk ⟨[0, 1, 2, 3, 4, 5, 4], _, _, ⟨cf, rfl, rfl⟩, ?_⟩
    (repeat' first | refine And.intro ?_ ?_ | exact xeC | fail)
    all_goals exact xmI
  · have hle : x.m.getD k default ≤ R.la := by simpa [Go.X.encI] using hb
    refine ⟨⟨k + 1, by omega, fun j hj => ?_⟩, [0, 1, 2, 3, 4, 5, 6], by simp only; omega, ?_⟩
    · rcases (by omega : j < k ∨ j = k) with h | rfl
      · exact hno j h
      · exact hle
    · (repeat' first | refine And.intro ?_ ?_ | exact xeC | fail)
      all_goals exact xmI
  have hB : ¬ ∃ n ∈ x.m, R.W.la < n := fun ⟨n, hn, h⟩ => by
    obtain ⟨j, hj, rfl⟩ := List.mem_iff_getElem.1 hn
    have := hno j (by omega)
    rw [getD_at hj] at this
    have h : R.la < x.m[j] := h
    omega
  refine cH18ziF1 (σ := [.whole 0, .name 1, .whole 2, .name 3, .name 4]) (nl := []) (rplace id per R.la q R cM cf x.r hR hS) ?_ (hle := by (repeat' first | refine And.intro ?_ ?_ | exact xeC | fail) <;> exact xmI)
  rcases fnd_s hR x.r with ⟨h1, hn⟩ | ⟨k2, p, h1, hk2, hr, hp2, hg, hr1⟩
  · rw [h1, show idxO none = (-1 : Int) from rfl]
    rintro v h' ⟨rfl, rfl⟩ hcaps
    refine rH18ziF0 ?_
    rw [rd_fun (G := 4) (fun x => rfl)]
    repeat' (first | (fail_if_success (with_reducible refine xstp ?_)); first | ((with_reducible refine And.intro (fun (hb : _ = true) => ?_) (fun (hb : _ = false) => ?_)) <;> replace hb := xnC hb <;> (try first | exact xfC | exact bff hb (by assumption) | exact bff (by assumption) hb)) | ((fail_if_success (with_reducible first | refine xgon ?_ | intro _)); (conv => whnf); (fail_if_success (fail_if_success (with_reducible first | refine xstp ?_ | refine xgon ?_ | intro _)))))
    have e1 : akE id x R.W = 6 := by
      unfold akE
      rw [if_neg hA, if_neg hB, hn]
      rfl
    have e2 : akRr id x R = R := by unfold akRr; rw [e1]; rfl
    rw [e1, e2]
    refine FinK.mk ⟨[0, 1, 2, 3, 4, 5, 4], _, _, ⟨cf, rfl, rfl⟩, ?_⟩
    (repeat' first | refine And.intro ?_ ?_ | exact xeC | fail)
    all_goals exact xmI
  rw [h1, show idxO (some k2) = (k2 : Nat) from rfl]
  rintro v h' ⟨rfl, rfl⟩ hcaps
  refine rH18ziF0 ?_
  rw [rd_fun (G := 4) (fun x => rfl)]
  have hX : R.S.getD k2 default = x.r.toNat := by omega
  have he : encRd 4 R cf k2 = encPr 4 x.r.toNat x.r.toNat p (cf x.r.toNat) := by rw [rd_at hp2, hX]
  rw [hX] at hp2
  have e3 : 0 + ((k2 : Nat) : Int).toNat = k2 := by omega
  unfold encPr at he
  have e1 : akE id x R.W = 0 := by
    unfold akE
    rw [if_neg hA, if_neg hB, hg]
    rfl
  have e2 : akRr id x R = setR R x.r (akPR x p) := by unfold akRr; rw [if_pos e1, hg]
  repeat' (first | (fail_if_success (with_reducible refine xstp ?_)); first | ((with_reducible refine And.intro (fun (hb : _ = true) => ?_) (fun (hb : _ = false) => ?_)) <;> replace hb := xnC hb <;> (try first | exact xfC | exact bff hb (by assumption) | exact bff (by assumption) hb)) | ((with_reducible refine And.intro ?_ ?_); focus exact xoC) | ((fail_if_success (with_reducible first | refine xgon ?_ | intro _)); (conv => whnf); (fail_if_success (fail_if_success (with_reducible first | refine xstp ?_ | refine xgon ?_ | intro _)))))
  rw [e3, he]
  repeat' (first | (fail_if_success (with_reducible refine xstp ?_)); first | ((with_reducible refine And.intro (fun (hb : _ = true) => ?_) (fun (hb : _ = false) => ?_)) <;> replace hb := xnC hb <;> (try first | exact xfC | exact bff hb (by assumption) | exact bff (by assumption) hb)) | ((fail_if_success (with_reducible first | refine xgon ?_ | intro _)); (conv => whnf); (fail_if_success (fail_if_success (with_reducible first | refine xstp ?_ | refine xgon ?_ | intro _)))))
  · have hrel : p.rel = false := by assumption
    have e4 : akPR x p = p := if_pos hrel
    have e5 : setR R x.r p = R := by
      have : (fun y => if y = x.r.toNat then some p else R.D y) = R.D := by
        funext y
        by_cases h : y = x.r.toNat
        · rw [if_pos h, h]; exact hp2.symm
        · rw [if_neg h]
      unfold setR
      rw [this]
    rw [e1, e2, e4, e5]
    refine FinK.mk ⟨[0, 1, 2, 3, 4, 5, 4], _, _, ⟨cf, rfl, rfl⟩, ?_⟩
    (repeat' first | refine And.intro ?_ ?_ | exact xeC | fail)
    all_goals exact xmI
  have hf := chk_f (x := x) (by omega) (by omega)
  have hP0 : akPR x p = x.m.foldl akSR (akC p x.f) := if_neg (by simp [*])
  have hpl := hrq _ _ hp2
  have hrow : rqO (R.D x.r.toNat) (cf x.r.toNat) = ints true p.rq (cf x.r.toNat) := by rw [hp2]; rfl
  repeat' (first | (fail_if_success (with_reducible refine xstp ?_)); first | ((with_reducible refine And.intro (fun (hb : _ = true) => ?_) (fun (hb : _ = false) => ?_)) <;> replace hb := xnC hb <;> (try first | exact xfC | exact bff hb (by assumption) | exact bff (by assumption) hb)) | ((with_reducible refine And.intro ?_ ?_); focus exact xoC) | ((fail_if_success (with_reducible first | refine xgon ?_ | intro _)); (conv => whnf); (fail_if_success (fail_if_success (with_reducible first | refine xstp ?_ | refine xgon ?_ | intro _)))))
  all_goals (
    refine ManyK.mk ⟨_, hrow, ?_⟩
    repeat' (first | (fail_if_success (with_reducible refine xstp ?_)); first | ((with_reducible refine And.intro ?_ ?_); focus exact xoC) | ((with_reducible refine Or.inl ⟨?_, ?_, ?_⟩); (focus rfl); focus exact xaC) | (with_reducible intro hc; (try simp only [capsP, and_true] at hc); (try exact xfC)) | ((fail_if_success (with_reducible first | refine xgon ?_ | intro _)); (conv => whnf); (fail_if_success (fail_if_success (with_reducible first | refine xstp ?_ | refine xgon ?_ | intro _)))))
    rename_i c0
    refine LoopK.mk' ({t : Nat × Pr // t.1 ≤ x.m.length ∧ t.2 = (x.m.take t.1).foldl akSR (akC p x.f)} × Nat)
      (fun ⟨⟨(k, A), _⟩, cc⟩ => ⟨[(0, .c (.p 0 0 0)), (4, .c (.p 6 0 0)), (8, .c (.i .i64 k2)), (9, .c (.p 7 0 0)), (10, .c (.sl 8 0 1 0 A.rq.length cc)), (11, .c (.i .i64 k))],
        [.one (wrr 1 2 id per R.la q R.S.length cM), .one .no, .one (rdR 4 R cM cf), .one .no, rqs R.D cf, .one (ints wa x.m cm), .one (.cells true (encP (.sl 5 0 1 0 x.m.length cm) x)), .one (.cells true (bxC 4 x.r.toNat x.r.toNat A p.rq.length (cf x.r.toNat))), .one (ints true A.rq cc)]⟩)
      (fun k => x.m.length - k.1.1.1)
      ⟨⟨⟨(0, akC p x.f), Nat.zero_le _, rfl⟩, c0⟩, [0, 1, 2, 3, 4, 5, 6, 7, 9], ?_⟩ ?_
    · (repeat' first | refine And.intro ?_ ?_ | exact xeC | fail)
      all_goals first
        | exact xmI
        | (show _ = max p.ac (x.f - 1); omega)
        | (show p.rq.length ≤ 0 + p.rq.length; omega)
        | (show 0 + p.rq.length = p.rq.length; omega)
        | (intro i hi
           show appF 0 _ 0 (Go.X.rowOf Go.X.encI p.rq) i = Go.X.rowOf Go.X.encI p.rq i
           unfold appF
           rw [if_neg (by omega), Nat.sub_zero, Nat.zero_add])
        | skip
      all_goals trace_state
    rintro ⟨⟨⟨k, A⟩, hk, hAk⟩, cc⟩
    simp only at hk hAk
    have hPl := akR_len x.m p x.f k
    rw [← hAk] at hPl
    have hm32 := chk_m (x := x) (by omega)
    rcases Nat.lt_or_ge k x.m.length with hlt | hge
    · have hsk : akSR A (x.m.getD k default) = (x.m.take (k + 1)).foldl akSR (akC p x.f) := by
        rw [← List.take_append_getElem hlt, List.foldl_append, getD_at hlt, hAk]
        rfl
      repeat' (first | (fail_if_success (with_reducible refine xstp ?_)); first | ((with_reducible refine And.intro (fun (hb : _ = true) => ?_) (fun (hb : _ = false) => ?_)) <;> replace hb := xnC hb <;> (try first | exact xfC | exact bff hb (by assumption) | exact bff (by assumption) hb)) | ((with_reducible refine And.intro ?_ ?_); focus exact xoC) | ((with_reducible refine Or.inl ⟨?_, ?_, ?_⟩); (focus rfl); focus exact xaC) | (with_reducible intro hc; (try simp only [capsP, and_true] at hc); (try exact xfC)) | ((fail_if_success (with_reducible first | refine xgon ?_ | intro _)); (conv => whnf); (fail_if_success (fail_if_success (with_reducible first | refine xstp ?_ | refine xgon ?_ | intro _)))))
      · have e3 : akSR A (x.m.getD k default) = ⟨A.nd, A.rel, A.st, A.ac, A.se, A.rq, true, A.bt⟩ := if_pos (by assumption)
        rw [e3] at hsk
        refine ⟨⟨⟨(k + 1, ⟨A.nd, A.rel, A.st, A.ac, A.se, A.rq, true, A.bt⟩), by simp only; omega, hsk⟩, cc⟩, [0, 1, 2, 3, 4, 5, 6, 7, 8], by simp only; omega, ?_⟩
        (repeat' first | refine And.intro ?_ ?_ | exact xeC | fail)
        all_goals first | exact xmI | skip
        all_goals trace_state
      · have e3 : akSR A (x.m.getD k default) = ⟨A.nd, A.rel, A.st, A.ac, A.se, A.rq ++ [x.m.getD k default], A.bg, A.bt⟩ := by
          unfold akSR
          rw [if_neg (by omega), if_pos (by assumption)]
        rw [e3] at hsk
        rename_i c3
        have hl1 : (A.rq ++ [x.m.getD k default]).length = A.rq.length + 1 := by rw [List.length_append]; rfl
        refine ⟨⟨⟨(k + 1, ⟨A.nd, A.rel, A.st, A.ac, A.se, A.rq ++ [x.m.getD k default], A.bg, A.bt⟩), by simp only; omega, hsk⟩, c3⟩, [0, 1, 2, 3, 4, 5, 6, 7, 10], by simp only; omega, ?_⟩
        (repeat' first | refine And.intro ?_ ?_ | exact xeC | fail)
        all_goals first | exact xmI | exact hl1.symm | exact Nat.le_of_eq hl1 | (rw [show 0 + ((k : Nat) : Int).toNat = k by omega]; intro i2 hi2; exact app_rowG Go.X.encI A.rq (x.m.getD k default) _ rfl i2 hi2) | skip
        all_goals trace_state
      · have e3 : akSR A (x.m.getD k default) = A := by
          unfold akSR
          rw [if_neg (by omega), if_neg (by omega)]
        rw [e3] at hsk
        refine ⟨⟨⟨(k + 1, A), by simp only; omega, hsk⟩, cc⟩, [0, 1, 2, 3, 4, 5, 6, 7, 8], by simp only; omega, ?_⟩
        (repeat' first | refine And.intro ?_ ?_ | exact xeC | fail)
        all_goals first | exact xmI | skip
        all_goals trace_state
    · have ek : x.m.take k = x.m := List.take_of_length_le hge
      rw [ek] at hAk
      rw [e1, e2, hP0, ← hAk]
      repeat' (first | (fail_if_success (with_reducible refine xstp ?_)); first | ((with_reducible refine And.intro (fun (hb : _ = true) => ?_) (fun (hb : _ = false) => ?_)) <;> replace hb := xnC hb <;> (try first | exact xfC | exact bff hb (by assumption) | exact bff (by assumption) hb)) | ((with_reducible refine And.intro ?_ ?_); focus exact xoC) | (with_reducible intro hc; (try simp only [capsP, and_true] at hc); (try exact xfC)) | ((fail_if_success (with_reducible first | refine xgon ?_ | intro _)); (conv => whnf); (fail_if_success (fail_if_success (with_reducible first | refine xstp ?_ | refine xgon ?_ | intro _)))))
      rw [e3, he]
      repeat' (first | (fail_if_success (with_reducible refine xstp ?_)); first | ((fail_if_success (with_reducible first | refine xgon ?_ | intro _)); (conv => whnf); (fail_if_success (fail_if_success (with_reducible first | refine xstp ?_ | refine xgon ?_ | intro _)))))
      have hki : ∀ y N, key [0, 1, 2, 3, 4, 5, .adopt 4 x.r.toNat 8] N 6 y = (if y = x.r.toNat then 8 else 4, if y = x.r.toNat then 0 else y) := fun y N => rfl
      refine FinK.mk ⟨[0, 1, 2, 3, 4, 5, .adopt 4 x.r.toNat 8], _, _, ⟨updC cf x.r cc, rfl, rfl⟩, ?_⟩
      (repeat' first | refine And.intro ?_ ?_ | exact xeC | fail)
      all_goals first
        | exact xmI
        | exact fun i hi => rd_upd hR hk2 hr (fun y hy => by rw [hki, if_neg hy, if_neg hy]) (by rw [hki, if_pos rfl, if_pos rfl]; rfl) i hi
        | exact fun y hy => rq_updC y hy
        | skip
      refine leK_cong (q'' := ints true A.rq cc) (by show Ck.rk _ _ (rqO ((setR R x.r A).D x.r.toNat) (updC cf x.r cc x.r.toNat)) = _; rw [show (setR R x.r A).D x.r.toNat = some A from if_pos rfl, show updC cf x.r cc x.r.toNat = cc from if_pos rfl]; rfl) ?_
      (repeat' first | refine And.intro ?_ ?_ | exact xeC | fail)
      all_goals first | exact xmI | skip
      all_goals trace_state
      skip)
end Go.Proofs.YtofcadbfjbefkaaGreat


namespace Go.Proofs.YtofcadbfjbefkaaGreat
open Go.X
set_option linter.unusedSimpArgs false
set_option linter.unusedVariables false
def polA1 (id : Int) (l : List Smp) (X : Nat) (p : Pr) (at' n : Int) : List Pk := if n ∈ p.rq then datR id l X p at' n true else []
def polA (id : Int) (l : List Smp) (X : Nat) (p : Pr) (at' : Int) (k : Nat) : List Pk := (List.range k).flatMap fun (i : Nat) => polA1 id l X p at' (p.st + (i : Int))
def nA (p : Pr) : Nat := (p.se + 1 - p.st).toNat
def polLr (id : Int) (l : List Smp) (X : Nat) (p : Pr) (la at' : Int) : List Pk := polB id X p at' ++ polA id l X p at' (nA p) ++ polN id l X p at' (la - p.se).toNat ++ polH id X p la at'
theorem datR_rel (id : Int) (l : List Smp) (X : Nat) (p : Pr) (at' n : Int) : datR id l X p at' n p.rel = polN1 id l X p at' n := by
  unfold datR polN1 dat
  by_cases h : (getS l id n).2 = true
  · rw [if_pos h, if_pos h, if_pos (.inr rfl)]
  · rw [if_neg h, if_neg h]
    by_cases h2 : p.rel = true
    · rw [if_pos h2, if_pos (.inl h2)]
    · rw [if_neg h2, if_neg]
      intro h3
      rcases h3 with h3 | h3
      · exact h2 h3
      · exact absurd (show (4 : Int) = 1 from h3) (by decide)
theorem datR_le (id : Int) (l : List Smp) (X : Nat) (p : Pr) (at' n : Int) (g : Bool) : (datR id l X p at' n g).length ≤ 1 := by
  unfold datR
  split
  · exact Nat.le_refl _
  · split <;> simp
theorem polA_succ (id : Int) (l : List Smp) (X : Nat) (p : Pr) (at' : Int) (k : Nat) : polA id l X p at' (k + 1) = polA id l X p at' k ++ polA1 id l X p at' (p.st + (k : Int)) := by
  unfold polA
  rw [List.range_succ, List.flatMap_append, List.flatMap_cons, List.flatMap_nil, List.append_nil]
theorem polA_le (id : Int) (l : List Smp) (X : Nat) (p : Pr) (at' : Int) : ∀ k, (polA id l X p at' k).length ≤ k
  | 0 => Nat.le_refl _
  | k + 1 => by
    have h1 := polA_le id l X p at' k
    have h2 : (polA1 id l X p at' (p.st + (k : Int))).length ≤ 1 := by
      unfold polA1
      split
      · exact datR_le _ _ _ _ _ _ _
      · exact Nat.zero_le _
    rw [polA_succ, List.length_append]
    omega
def polFr1 (id : Int) (l : List Smp) (la at' : Int) (D : Nat → Option Pr) (x : Nat) : List Pk := match D x with | some p => polLr id l x p la at' | none => []
def polFr (id : Int) (l : List Smp) (la at' : Int) (D : Nat → Option Pr) (L : List Nat) : List Pk := L.flatMap (polFr1 id l la at' D)
theorem polFr_succ (id : Int) (l : List Smp) (la at' : Int) (D : Nat → Option Pr) (L : List Nat) {k : Nat} (hk : k < L.length) : polFr id l la at' D (L.take (k + 1)) = polFr id l la at' D (L.take k) ++ polFr1 id l la at' D (L.getD k default) := by
  unfold polFr
  rw [← List.take_append_getElem hk, List.flatMap_append, getD_at hk]
  simp
theorem polLr_le {id : Int} {l : List Smp} {X : Nat} {p : Pr} {la at' : Int} (hp : PrOk la p) (hla : 0 ≤ la ∧ la ≤ 1000000) : (polLr id l X p la at').length ≤ 2000004 := by
  have h1 := polB_le id X p at'
  have h2 := polA_le id l X p at' (nA p)
  have h3 := polN_le id l X p at' (la - p.se).toNat
  have h4 : (polH id X p la at').length ≤ 1 := by unfold polH; split <;> simp
  have h6 := hp.se
  have h7 := hp.st
  have h8 : nA p ≤ 1000001 := by unfold nA; omega
  unfold polLr
  simp only [List.length_append]
  omega
theorem polFr_le {id : Int} {l : List Smp} {la at' : Int} {D : Nat → Option Pr} (hD : ∀ y p, D y = some p → PrOk la p) (hla : 0 ≤ la ∧ la ≤ 1000000) : ∀ L : List Nat, (polFr id l la at' D L).length ≤ 2000004 * L.length
  | [] => Nat.le_refl _
  | x :: L => by
    have ih := polFr_le (id := id) (l := l) (at' := at') hD hla L
    have h1 : (polFr1 id l la at' D x).length ≤ 2000004 := by
      unfold polFr1
      cases h : D x with
      | none => exact Nat.zero_le _
      | some p => exact polLr_le (hD x p h) hla
    unfold polFr at ih ⊢
    rw [List.flatMap_cons, List.length_append, List.length_cons]
    omega
/-- What Poll sends, and leaves. -/
def poLr (id : Int) (q : Qos) (at' : Int) (R : Rw) : List Pk := if atOk at' then polFr id (stay q R.l at') R.la at' R.D R.S else []
def poRr (per : Int) (q : Qos) (at' : Int) (R : Rw) : Rw := if atOk at' then ⟨stay q R.l at', R.la, R.S, polD per R.la at' R.D R.S⟩ else R
theorem polD_ne {per la at' : Int} {D : Nat → Option Pr} {L : List Nat} {x y : Nat} (hy : y ≠ x) : polD per la at' D (L ++ [x]) y = polD per la at' D L y := by unfold polD; simp [hy]
theorem polC_ne {cf : Nat → Nat} {L : List Nat} {x y : Nat} (hy : y ≠ x) : polC cf (L ++ [x]) y = polC cf L y := by unfold polC; simp [hy]
theorem polD_new {per la at' : Int} {D : Nat → Option Pr} {L : List Nat} {x : Nat} {p : Pr} (hp : D x = some p) : polD per la at' D (L ++ [x]) x = some (polP per p la at') := by unfold polD; simp [hp]
theorem polC_new {cf : Nat → Nat} {L : List Nat} {x : Nat} : polC cf (L ++ [x]) x = 0 := by unfold polC; simp
/-- The readers in the midst of a poll. -/
def midR (per at' : Int) (R : Rw) (L : List Nat) : Rw := ⟨R.l, R.la, R.S, polD per R.la at' R.D L⟩
theorem rd_loose {F G k X : Nat} {R R' : Rw} {cf cf' : Nat → Nat} {p' : Pr} {σ : List Sg} {N N' : Nat} {L : List C} (hS : R'.S = R.S) (hnd : ∀ i, i < R.S.length → i ≠ k → R.S.getD i default ≠ X) (hX : R.S.getD k default = X)
    (hD : ∀ y, y ≠ X → R'.D y = R.D y) (hc : ∀ y, y ≠ X → cf' y = cf y) (hp : R'.D X = some p') (hrq : p'.rq = []) (hbg : p'.bg = false) (hcX : cf' X = 0)
    (h3 : ∀ x, key σ N F x = (if x = X then 99 else G, if x = X then 0 else x)) (hN : N' ≤ 99)
    (hL : L = [.i .i64 X, .i .i64 p'.nd, .b p'.rel, .i .i64 p'.st, .i .i64 p'.ac, .i .i64 p'.se, .nils, .ff, .i .i64 p'.bt]) (i : Nat) (hi : i < R.S.length) :
    (if i = k then L else encRd G R cf i) = List.map (C.rk σ N) (encRd F R' cf' i) ∨ eqL N' (if i = k then L else encRd G R cf i) (List.map (C.rk σ N) (encRd F R' cf' i)) True := by
  rw [rd_rk, hS]
  by_cases e : i = k
  · subst e
    right
    have hle : Nat.ble N' 99 = true := Nat.ble_eq_true_of_le hN
    rw [if_pos rfl, hX, hp, hL, h3]
    simp only [hcX, hrq, hbg, if_true]
    simp [eqL, C.eqK, sameK, ifB, kNat, hle]
  · left
    have hn := hnd i hi e
    rw [if_neg e, hD _ hn, h3, if_neg hn, if_neg hn, hc _ hn]
    rfl
theorem rq_same2 {D D' : Nat → Option Pr} {cf cf' : Nat → Nat} {N N' : Nat} {σ : List Sg} {y : Nat} (hD : D' y = D y) (hc : cf' y = cf y) : (rqO (D y) (cf y)).leK N ((rqO (D' y) (cf' y)).rk σ N') True := by
  rw [hD, hc]
  exact rqO_le
theorem rq_back {f : Nat → Ck} {x : Nat} {c : Ck} (h : f x = c) : (fun y => if y = x then c else if y = x then c else f y) = f := by
  funext y
  by_cases e : y = x
  · rw [if_pos e, e]; exact h.symm
  · rw [if_neg e, if_neg e]
abbrev rP18 (id per : Int) (q : Qos) (R : Rw) (cM c : Nat) (cf : Nat → Nat) (o : List Pk) (co : Nat) : List Fam :=
  [.one (wrr 1 7 id per R.la q R.S.length cM), .one (hist 5 q R.l.length c), .one .no, .one .no, .one .no, .one (smps true R.l c), .one (pkR true o co), .one (rdR 8 R cM cf), rqs R.D cf]
theorem rH18ziG0 {σ : List Sg} {H h' : List Fam} {v : T} {K : T → List Fam → Prop} {H' : List Fam} {v' : T} {N : Nat} (hk : K v' H') (hN : H.length = N := by (try simp only [↓List.length_cons, ↓List.length_nil, Nat.reduceAdd]) <;> rfl) (h : givesF σ N H σ h' = some H' := by (try simp (maxSteps := 1000000) only [givesF, setF, updF, Fam.zeroth, Fam.rk, Ck.rk, C.rk, E.rk, T.rk, key, List.map_cons, List.map_nil, List.cons_append, List.nil_append, List.length_cons, List.length_nil, Option.map_some, Option.bind_some, Nat.reduceAdd, Nat.zero_add, Nat.add_zero, Nat.add_sub_cancel_left, Int.toNat_natCast, reps, List.all_cons, List.all_nil, C.flat, List.append_eq, Bool.not_true, Bool.and_true, Bool.or_false, Bool.or_self, Bool.not_false, List.append_nil, Bool.and_self, ↓rqO_rk]) <;> rfl) (hv : v.rk σ N = v' := by (try simp only [givesF, setF, updF, Fam.zeroth, Fam.rk, Ck.rk, C.rk, E.rk, T.rk, key, List.map_cons, List.map_nil, List.cons_append, List.nil_append, List.length_cons, List.length_nil, Option.map_some, Option.bind_some, Nat.reduceAdd, Nat.zero_add, Nat.add_zero, Nat.add_sub_cancel_left, Int.toNat_natCast, reps, List.all_cons, List.all_nil, C.flat, List.append_eq, Bool.not_true, Bool.and_true, Bool.or_false, Bool.or_self, Bool.not_false, List.append_nil, Bool.and_self, ↓rqO_rk]) <;> rfl) : RetG σ H h' v K := ret_mk3 hN h hv hk
theorem cH18ziG1 {P : Program} {F : Nat} {args : List T} {H : List Fam} {K : T → List Fam → Prop} {σ : List Sg} {nl : List Fam} {args0 : List T} {h0 : List Fam} {Q : T → List Fam → Prop} {H2 H1 : List Fam} {N n : Nat} (hc : Ctr P F args0 h0 Q) (hk : ∀ v h', Q v h' → capsP h' → RetG σ H2 h' v K) (hap : apart σ = true := by rfl) (hnl : nl.all nilB = true := by rfl) (h1 : H ++ nl = H1 := by first | exact List.append_nil _ | ((try simp only [List.cons_append, List.nil_append]) <;> rfl)) (hN : H1.length = N := by (try simp only [↓List.length_cons, ↓List.length_nil, Nat.reduceAdd]) <;> rfl) (hn : H.length = n := by (try simp only [↓List.length_cons, ↓List.length_nil, Nat.reduceAdd]) <;> rfl) (hH : givesF σ N H1 σ h0 = some H2 := by (try simp (maxSteps := 1000000) only [givesF, setF, updF, Fam.zeroth, Fam.rk, Ck.rk, C.rk, E.rk, T.rk, key, List.map_cons, List.map_nil, List.cons_append, List.nil_append, List.length_cons, List.length_nil, Option.map_some, Option.bind_some, Nat.reduceAdd, Nat.zero_add, Nat.add_zero, Nat.add_sub_cancel_left, Int.toNat_natCast, reps, List.all_cons, List.all_nil, C.flat, List.append_eq, Bool.not_true, Bool.and_true, Bool.or_false, Bool.or_self, Bool.not_false, List.append_nil, Bool.and_self, ↓rqO_rk]) <;> rfl) (hle : leS n H1 σ N σ h0 (belsK N (h0.map (Fam.rk σ N)) (argsK n args (args0.map (T.rk σ N)) True)) := by repeat' first | refine And.intro ?_ ?_ | exact xeC | fail) : CallK P F args H K := CallK.mk3 hc hap hnl h1 hN hn hH hle hk
set_option maxRecDepth 10000 in
set_option maxHeartbeats 16000000 in
theorem rpollW (id per : Int) (q : Qos) (R : Rw) (cM c : Nat) (cf : Nat → Nat) (at' : Int) (hR : ROk R) (hS : R.S.length ≤ 12) (hl : R.l.length ≤ 1000000) (hla : 0 ≤ R.la ∧ R.la ≤ 1000000) (hD : ∀ y p, R.D y = some p → PrOk R.la p) (hper : 1 ≤ per ∧ per ≤ 1099511627776) (hlt : ∀ x ∈ R.l, 0 ≤ x.t ∧ x.t ≤ 1099511627776) (hq : q.life ≤ 1099511627776) :
    Ctr Tryz.prog 19 [.c (.p 0 0 0), .c (.i .i64 at')] (rB id per q R cM c cf)
      fun v h => ∃ c' cf' co, v = .c (.sl 6 0 11 0 (poLr id q at' R).length co) ∧ h = rP18 id per q (poRr per q at' R) cM c' cf' (poLr id q at' R) co := by
  refine Ctr.mk' tbv mixed Tryz.func19 rfl rfl rfl (fun _ _ => by kernel_rfl) (by kernel_rfl) (by rfl) (by rfl) (by (repeat' first | refine And.intro ?_ ?_ | exact xeC | fail) <;> exact xmI) ?_
  repeat' (first | (fail_if_success (with_reducible refine xstp ?_)); first | (with_reducible intro hc; (try simp only [capsP, and_true] at hc); (try exact xfC)) | ((fail_if_success (with_reducible first | refine xgon ?_ | intro _)); (conv => whnf); (fail_if_success (fail_if_success (with_reducible first | refine xstp ?_ | refine xgon ?_ | intro _)))))
  refine cH18ziG1 (σ := []) (nl := []) (rtime18 at') ?_
  rintro v h' ⟨rfl, rfl⟩ hcaps
  refine rH18ziG0 ?_
  repeat' (first | (fail_if_success (with_reducible refine xstp ?_)); first | ((with_reducible refine And.intro (fun (hb : _ = true) => ?_) (fun (hb : _ = false) => ?_)) <;> replace hb := xnC hb <;> (try first | exact xfC | exact bff hb (by assumption) | exact bff (by assumption) hb)) | ((fail_if_success (with_reducible first | refine xgon ?_ | intro _)); (conv => whnf); (fail_if_success (fail_if_success (with_reducible first | refine xstp ?_ | refine xgon ?_ | intro _)))))
  · have hat : ¬ atOk at' := by unfold atOk; omega
    have e1 : poLr id q at' R = [] := if_neg hat
    have e2 : poRr per q at' R = R := if_neg hat
    rw [e1, e2]
    refine FinK.mk ⟨[0, 1, 2, 3, 4, 3, 99, 2, 4], _, _, ⟨c, cf, 0, rfl, rfl⟩, ?_⟩
    (repeat' first | refine And.intro ?_ ?_ | exact xeC | fail)
    all_goals first | exact xmI | (intro i hi; exact absurd hi (Nat.not_lt_zero i)) | skip
    all_goals trace_state
  have hat : atOk at' := by unfold atOk; omega
  have hat2 : 0 ≤ at' ∧ at' ≤ 1099511627776 := hat
  have hsl := stay_le q R.l at'
  have hol := polFr_le (id := id) (l := stay q R.l at') (at' := at') hD hla
  have e1 : poLr id q at' R = polFr id (stay q R.l at') R.la at' R.D R.S := if_pos hat
  have e2 : poRr per q at' R = ⟨stay q R.l at', R.la, R.S, polD per R.la at' R.D R.S⟩ := if_pos hat
  rw [e1, e2]
  refine cH18ziG1 (σ := [.whole 1, .whole 3]) (nl := []) (rexpire q R.l c at' hl (fun k hk => by rw [getD_at hk]; exact hlt _ (List.getElem_mem _)) hq) ?_
  rintro v h' ⟨cg, cs, rfl, rfl⟩ hcaps
  refine rH18ziG0 ?_
  repeat' (first | (fail_if_success (with_reducible refine xstp ?_)); first | ((fail_if_success (with_reducible first | refine xgon ?_ | intro _)); (conv => whnf); (fail_if_success (fail_if_success (with_reducible first | refine xstp ?_ | refine xgon ?_ | intro _)))))
  refine LoopK.mk' ({k : Nat // k ≤ R.S.length} × Nat)
    (fun ⟨⟨k, _⟩, co⟩ => ⟨[(0, .c (.p 0 0 0)), (1, .c (.i .i64 at')), (5, .c (.sl 6 0 11 0 (polFr id (stay q R.l at') R.la at' R.D (R.S.take k)).length co)), (6, .c (.i .i64 k))],
      [.one (wrr 1 7 id per R.la q R.S.length cM), .one (hist 5 q (stay q R.l at').length cs), .one .no, .one .no, .one .no, .one (smps true (stay q R.l at') cs), .one (pkR true (polFr id (stay q R.l at') R.la at' R.D (R.S.take k)) co), .one (.row true true 80 9 R.S.length cM (encRd 8 (midR per at' R (R.S.take k)) (polC cf (R.S.take k)))), rqs (midR per at' R (R.S.take k)).D (polC cf (R.S.take k))]⟩)
    (fun k => R.S.length - k.1.1)
    ⟨⟨⟨0, Nat.zero_le _⟩, 0⟩, [0, 1, 2, 3, 4, 5, 99, 2, 4], ?_⟩ ?_
  · (repeat' first | refine And.intro ?_ ?_ | exact xeC | fail)
    all_goals first | exact xmI | (intro i hi; exact absurd hi (Nat.not_lt_zero i)) | skip
    all_goals trace_state
  rintro ⟨⟨k, hk⟩, co⟩
  have hok := hol (R.S.take k)
  rw [List.length_take] at hok
  rcases Nat.lt_or_ge k R.S.length with hkl | hge
  rotate_left 1
  · have ek : R.S.take k = R.S := List.take_of_length_le hge
    repeat' (first | (fail_if_success (with_reducible refine xstp ?_)); first | ((with_reducible refine And.intro (fun (hb : _ = true) => ?_) (fun (hb : _ = false) => ?_)) <;> replace hb := xnC hb <;> (try first | exact xfC | exact bff hb (by assumption) | exact bff (by assumption) hb)) | (with_reducible intro hc; (try simp only [capsP, and_true] at hc); (try exact xfC)) | ((fail_if_success (with_reducible first | refine xgon ?_ | intro _)); (conv => whnf); (fail_if_success (fail_if_success (with_reducible first | refine xstp ?_ | refine xgon ?_ | intro _)))))
    rw [ek]
    refine FinK.mk ⟨[0, 1, 2, 3, 4, 5, 6, 7, 8], _, _, ⟨cs, polC cf R.S, co, rfl, rfl⟩, ?_⟩
    (repeat' first | refine And.intro ?_ ?_ | exact xeC | fail)
    all_goals first | exact xmI | skip
    all_goals trace_state
  have hxL : R.S.getD k default ∈ R.S := by rw [getD_at hkl]; exact List.getElem_mem _
  have hxn : R.S.getD k default ∉ R.S.take k := fun h => by
    obtain ⟨j, hj, e⟩ := List.mem_iff_getElem.1 h
    rw [List.length_take] at hj
    rw [List.getElem_take, getD_at hkl] at e
    have := (List.getElem_inj (nd_of hR)).1 e
    omega
  have hFs := polFr_succ id (stay q R.l at') R.la at' R.D R.S hkl
  obtain ⟨_, p, hp⟩ := hR.a k hkl
  have hnd : ∀ i, i < R.S.length → i ≠ k → R.S.getD i default ≠ R.S.getD k default := fun i hi e => nd_S hR hi hkl e
  have hts : R.S.take (k + 1) = R.S.take k ++ [R.S.getD k default] := by rw [← List.take_append_getElem hkl, getD_at hkl]
  have hrow : rqO ((midR per at' R (R.S.take k)).D (R.S.getD k default)) (polC cf (R.S.take k) (R.S.getD k default)) = ints true p.rq (cf (R.S.getD k default)) := by
    show rqO (polD per R.la at' R.D (R.S.take k) (R.S.getD k default)) _ = _
    unfold polD polC; rw [if_neg hxn, if_neg hxn, hp]; rfl
  have he : encRd 8 (midR per at' R (R.S.take k)) (polC cf (R.S.take k)) k = encPr 8 (R.S.getD k default) (R.S.getD k default) p (cf (R.S.getD k default)) := by
    have h1 : (midR per at' R (R.S.take k)).D ((midR per at' R (R.S.take k)).S.getD k default) = some p := by
      show polD per R.la at' R.D (R.S.take k) (R.S.getD k default) = _
      unfold polD; rw [if_neg hxn, hp]
    rw [rd_at h1]
    show encPr 8 (R.S.getD k default) (R.S.getD k default) p (polC cf (R.S.take k) (R.S.getD k default)) = _
    rw [show polC cf (R.S.take k) (R.S.getD k default) = cf (R.S.getD k default) from if_neg hxn]
  have hF1 : polFr1 id (stay q R.l at') R.la at' R.D (R.S.getD k default) = polLr id (stay q R.l at') (R.S.getD k default) p R.la at' := by unfold polFr1; rw [hp]
  rw [hF1] at hFs
  have hP := hD _ p hp
  obtain ⟨x, hx⟩ : ∃ x, R.S.getD k default = x := ⟨_, rfl⟩
  rw [hx] at hnd hts hrow he hFs hxn hp
  have hDx := polD_new (per := per) (la := R.la) (at' := at') (L := R.S.take k) hp
  have hCx := polC_new (cf := cf) (L := R.S.take k) (x := x)
  have hPst := hP.st
  have hPac := hP.ac
  have hPse := hP.se
  have hPrq := hP.rq
  have hnA : nA p ≤ 1000001 := by unfold nA; omega
  have e3 : 0 + ((k : Nat) : Int).toNat = k := by omega
  unfold encPr at he
  repeat' (first | (fail_if_success (with_reducible refine xstp ?_)); first | ((with_reducible refine And.intro (fun (hb : _ = true) => ?_) (fun (hb : _ = false) => ?_)) <;> replace hb := xnC hb <;> (try first | exact xfC | exact bff hb (by assumption) | exact bff (by assumption) hb)) | ((with_reducible refine And.intro ?_ ?_); focus exact xoC) | (with_reducible intro hc; (try simp only [capsP, and_true] at hc); (try exact xfC)) | ((fail_if_success (with_reducible first | refine xgon ?_ | intro _)); (conv => whnf); (fail_if_success (fail_if_success (with_reducible first | refine xstp ?_ | refine xgon ?_ | intro _)))))
  rw [e3, he]
  repeat' (first | (fail_if_success (with_reducible refine xstp ?_)); first | ((with_reducible refine And.intro (fun (hb : _ = true) => ?_) (fun (hb : _ = false) => ?_)) <;> replace hb := xnC hb <;> (try first | exact xfC | exact bff hb (by assumption) | exact bff (by assumption) hb)) | ((with_reducible refine And.intro ?_ ?_); focus exact xoC) | ((with_reducible refine Or.inl ⟨?_, ?_, ?_⟩); (focus rfl); focus exact xaC) | (with_reducible intro hc; (try simp only [capsP, and_true] at hc); (try exact xfC)) | ((fail_if_success (with_reducible first | refine xgon ?_ | intro _)); (conv => whnf); (fail_if_success (fail_if_success (with_reducible first | refine xstp ?_ | refine xgon ?_ | intro _)))))
  · rename_i c0
    generalize polFr id (stay q R.l at') R.la at' R.D (R.S.take k) = O at *
    refine LoopK.mk' ({t : Nat × List Pk // t.1 ≤ nA p ∧ t.2 = O ++ polB id x p at' ++ polA id (stay q R.l at') x p at' t.1} × Nat)
      (fun ⟨⟨(j, o), _⟩, cc⟩ => ⟨[(0, .c (.p 0 0 0)), (1, .c (.i .i64 at')), (5, .c (.sl 6 0 11 0 o.length cc)), (6, .c (.i .i64 k)), (7, .c (.p 9 0 0)), (8, .c (.i .i64 (p.st + (j : Int))))],
        [.one (wrr 1 7 id per R.la q R.S.length cM), .one (hist 5 q (stay q R.l at').length cs), .one .no, .one .no, .one .no, .one (smps true (stay q R.l at') cs), .one (pkR true o cc), .one (.row true true 80 9 R.S.length cM (encRd 8 (midR per at' R (R.S.take k)) (polC cf (R.S.take k)))), rqs (midR per at' R (R.S.take k)).D (polC cf (R.S.take k)), .one (.cells true (encPr 8 x x p (cf x)))]⟩)
      (fun j => nA p - j.1.1.1)
      ⟨⟨⟨(0, O ++ [gapK id x p 0 1 (p.st - 1) at']), Nat.zero_le _, by (show _ = O ++ polB id x p at' ++ []; unfold polB; rw [if_pos (by assumption), List.append_nil])⟩, c0⟩, [0, 1, 2, 3, 4, 5, 11, 7, 8, 9], ?_⟩ ?_
    · (repeat' first | refine And.intro ?_ ?_ | exact xeC | fail)
      all_goals first
        | exact xmI
        | rfl
        | (rw [List.length_append]; rfl)
        | (rw [List.length_append]; exact Nat.le_refl _)
        | (intro i hi; exact app_rowG (encP .nils) O (gapK id x p 0 1 (p.st - 1) at') _ rfl i hi)
        | omega
        | skip
      all_goals trace_state
    rintro ⟨⟨⟨j, o⟩, hj, ho⟩, cc⟩
    simp only at hj ho
    have hBl := polB_le id x p at'
    have hAl := polA_le id (stay q R.l at') x p at' j
    have hOl : o.length ≤ 90000000 := by
      rw [ho]
      simp only [List.length_append]; omega
    repeat' (first | (fail_if_success (with_reducible refine xstp ?_)); first | ((with_reducible refine And.intro (fun (hb : _ = true) => ?_) (fun (hb : _ = false) => ?_)) <;> replace hb := xnC hb <;> (try first | exact xfC | exact bff hb (by assumption) | exact bff (by assumption) hb)) | ((with_reducible refine And.intro ?_ ?_); focus exact xoC) | (with_reducible intro hc; (try simp only [capsP, and_true] at hc); (try exact xfC)) | ((fail_if_success (with_reducible first | refine xgon ?_ | intro _)); (conv => whnf); (fail_if_success (fail_if_success (with_reducible first | refine xstp ?_ | refine xgon ?_ | intro _)))))
    · have hjn : j < nA p := by unfold nA; omega
      have hAs := polA_succ id (stay q R.l at') x p at' j
      refine cH18ziG1 (σ := [.mem 8 (x)]) (nl := []) (rasked x p (cf x) (p.st + (j : Int)) (by omega)) ?_ (hle := by (repeat' first | refine And.intro ?_ ?_ | exact xeC | fail) <;> (refine ManyK.mk ⟨_, hrow, ?_⟩ <;> (repeat' first | refine And.intro ?_ ?_ | exact xeC | fail)))
      rintro v h' ⟨rfl, rfl⟩ hcaps
      refine ret_mk3 (by (try simp only [↓List.length_cons, ↓List.length_nil, Nat.reduceAdd]); rfl) (by (try simp (maxSteps := 1000000) only [givesF, setF, updF, Fam.zeroth, Fam.rk, Ck.rk, C.rk, E.rk, T.rk, key, List.map_cons, List.map_nil, List.cons_append, List.nil_append, List.length_cons, List.length_nil, Option.map_some, Option.bind_some, Nat.reduceAdd, Nat.zero_add, Nat.add_zero, Nat.add_sub_cancel_left, Int.toNat_natCast, reps, List.all_cons, List.all_nil, C.flat, List.append_eq, Bool.not_true, Bool.and_true, Bool.or_false, Bool.or_self, Bool.not_false, List.append_nil, Bool.and_self, ↓rqO_rk, encPr]); rfl) (by (try simp only [givesF, setF, updF, Fam.zeroth, Fam.rk, Ck.rk, C.rk, E.rk, T.rk, key, List.map_cons, List.map_nil, List.cons_append, List.nil_append, List.length_cons, List.length_nil, Option.map_some, Option.bind_some, Nat.reduceAdd, Nat.zero_add, Nat.add_zero, Nat.add_sub_cancel_left, Int.toNat_natCast, reps, List.all_cons, List.all_nil, C.flat, List.append_eq, Bool.not_true, Bool.and_true, Bool.or_false, Bool.or_self, Bool.not_false, List.append_nil, Bool.and_self, ↓rqO_rk, encPr]); rfl) ?_
      have hback := rq_back (f := fun y => rqO ((midR per at' R (R.S.take k)).D y) (polC cf (R.S.take k) y)) hrow
      rw [hback]
      repeat' (first | (fail_if_success (with_reducible refine xstp ?_)); first | ((with_reducible refine And.intro (fun (hb : _ = true) => ?_) (fun (hb : _ = false) => ?_)) <;> replace hb := xnC hb <;> (try first | exact xfC | exact bff hb (by assumption) | exact bff (by assumption) hb)) | ((with_reducible refine And.intro ?_ ?_); focus exact xoC) | ((fail_if_success (with_reducible first | refine xgon ?_ | intro _)); (conv => whnf); (fail_if_success (fail_if_success (with_reducible first | refine xstp ?_ | refine xgon ?_ | intro _)))))
      · have hm : p.st + (j : Int) ∈ p.rq := by assumption
        rw [show polA1 id (stay q R.l at') x p at' (p.st + (j : Int)) = datR id (stay q R.l at') x p at' (p.st + (j : Int)) true from if_pos hm] at hAs
        refine cH18ziG1 (σ := [.whole 0, .whole 1, .name 7, .whole 5, .whole 6, .name 8]) (nl := []) (rdata id per R.la q (stay q R.l at') cs R.S.length cM x p (cf x) o cc (p.st + (j : Int)) at' true (by omega) (by omega) x) ?_
        rintro v h' ⟨c4, rfl, rfl⟩ hcaps
        generalize datR id (stay q R.l at') x p at' (p.st + (j : Int)) true = y at *
        refine ret_mk3 (by (try simp only [↓List.length_cons, ↓List.length_nil, Nat.reduceAdd]); rfl) (by (try simp (maxSteps := 1000000) only [givesF, setF, updF, Fam.zeroth, Fam.rk, Ck.rk, C.rk, E.rk, T.rk, key, List.map_cons, List.map_nil, List.cons_append, List.nil_append, List.length_cons, List.length_nil, Option.map_some, Option.bind_some, Nat.reduceAdd, Nat.zero_add, Nat.add_zero, Nat.add_sub_cancel_left, Int.toNat_natCast, reps, List.all_cons, List.all_nil, C.flat, List.append_eq, Bool.not_true, Bool.and_true, Bool.or_false, Bool.or_self, Bool.not_false, List.append_nil, Bool.and_self, ↓rqO_rk, encPr]); rfl) (by (try simp only [givesF, setF, updF, Fam.zeroth, Fam.rk, Ck.rk, C.rk, E.rk, T.rk, key, List.map_cons, List.map_nil, List.cons_append, List.nil_append, List.length_cons, List.length_nil, Option.map_some, Option.bind_some, Nat.reduceAdd, Nat.zero_add, Nat.add_zero, Nat.add_sub_cancel_left, Int.toNat_natCast, reps, List.all_cons, List.all_nil, C.flat, List.append_eq, Bool.not_true, Bool.and_true, Bool.or_false, Bool.or_self, Bool.not_false, List.append_nil, Bool.and_self, ↓rqO_rk, encPr]); rfl) ?_
        repeat' (first | (fail_if_success (with_reducible refine xstp ?_)); first | ((with_reducible refine And.intro ?_ ?_); focus exact xoC) | ((fail_if_success (with_reducible first | refine xgon ?_ | intro _)); (conv => whnf); (fail_if_success (fail_if_success (with_reducible first | refine xstp ?_ | refine xgon ?_ | intro _)))))
        refine ⟨⟨⟨(j + 1, o ++ y), by simp only; omega, by simp only; rw [hAs, ho, ← List.append_assoc]⟩, c4⟩, [0, 1, 2, 3, 4, 5, 10, 7, 8, 9], by simp only; omega, ?_⟩
        (repeat' first | refine And.intro ?_ ?_ | exact xeC | fail)
        all_goals first | exact xmI | omega | skip
        all_goals trace_state
      · have hm : ¬ p.st + (j : Int) ∈ p.rq := by assumption
        rw [show polA1 id (stay q R.l at') x p at' (p.st + (j : Int)) = [] from if_neg hm, List.append_nil] at hAs
        refine ⟨⟨⟨(j + 1, o), by simp only; omega, by simp only; rw [hAs, ho]⟩, cc⟩, [0, 1, 2, 3, 4, 5, 6, 7, 8, 9], by simp only; omega, ?_⟩
        (repeat' first | refine And.intro ?_ ?_ | exact xeC | fail)
        all_goals first | exact xmI | omega | skip
        all_goals trace_state
    have hjn : j = nA p := by unfold nA at hj ⊢; omega
    rw [hjn] at ho
    refine LoopK.mk' ({t : Nat × List Pk // t.1 ≤ (R.la - p.se).toNat ∧ t.2 = O ++ polB id x p at' ++ polA id (stay q R.l at') x p at' (nA p) ++ polN id (stay q R.l at') x p at' t.1} × Nat)
      (fun ⟨⟨(j, o), _⟩, cc⟩ => ⟨[(0, .c (.p 0 0 0)), (1, .c (.i .i64 at')), (5, .c (.sl 6 0 11 0 o.length cc)), (6, .c (.i .i64 k)), (7, .c (.p 9 0 0)), (9, .c (.i .i64 (p.se + 1 + (j : Int))))],
        [.one (wrr 1 7 id per R.la q R.S.length cM), .one (hist 5 q (stay q R.l at').length cs), .one .no, .one .no, .one .no, .one (smps true (stay q R.l at') cs), .one (pkR true o cc), .one (.row true true 80 9 R.S.length cM (encRd 8 (midR per at' R (R.S.take k)) (polC cf (R.S.take k)))), rqs (midR per at' R (R.S.take k)).D (polC cf (R.S.take k)), .one (.cells true (encPr 8 x x p (cf x)))]⟩)
      (fun j => (R.la - p.se).toNat - j.1.1.1)
      ⟨⟨⟨(0, o), Nat.zero_le _, ho.trans (List.append_nil _).symm⟩, cc⟩, [0, 1, 2, 3, 4, 5, 6, 7, 8, 9], ?_⟩ ?_
    · (repeat' first | refine And.intro ?_ ?_ | exact xeC | fail)
      all_goals first | exact xmI | omega | skip
      all_goals trace_state
    clear hj hjn ho
    rintro ⟨⟨⟨j, o⟩, hj, ho⟩, cc⟩
    simp only at hj ho
    have hAl := polA_le id (stay q R.l at') x p at' (nA p)
    have hNl := polN_le id (stay q R.l at') x p at' j
    have hOl : o.length ≤ 90000000 := by
      rw [ho]
      simp only [List.length_append]; omega
    repeat' (first | (fail_if_success (with_reducible refine xstp ?_)); first | ((with_reducible refine And.intro (fun (hb : _ = true) => ?_) (fun (hb : _ = false) => ?_)) <;> replace hb := xnC hb <;> (try first | exact xfC | exact bff hb (by assumption) | exact bff (by assumption) hb)) | ((with_reducible refine And.intro ?_ ?_); focus exact xoC) | ((with_reducible refine Or.inl ⟨?_, ?_, ?_⟩); (focus rfl); focus exact xaC) | (with_reducible intro hc; (try simp only [capsP, and_true] at hc); (try exact xfC)) | ((fail_if_success (with_reducible first | refine xgon ?_ | intro _)); (conv => whnf); (fail_if_success (fail_if_success (with_reducible first | refine xstp ?_ | refine xgon ?_ | intro _)))))
    · have hjn : j < (R.la - p.se).toNat := by omega
      have hNs := polN_succ id (stay q R.l at') x p at' j
      rw [← datR_rel] at hNs
      refine cH18ziG1 (σ := [.whole 0, .whole 1, .name 7, .whole 5, .whole 6, .name 8]) (nl := []) (rdata id per R.la q (stay q R.l at') cs R.S.length cM x p (cf x) o cc (p.se + 1 + (j : Int)) at' p.rel (by omega) (by omega) x) ?_
      rintro v h' ⟨c4, rfl, rfl⟩ hcaps
      generalize datR id (stay q R.l at') x p at' (p.se + 1 + (j : Int)) p.rel = y at *
      refine ret_mk3 (by (try simp only [↓List.length_cons, ↓List.length_nil, Nat.reduceAdd]); rfl) (by (try simp (maxSteps := 1000000) only [givesF, setF, updF, Fam.zeroth, Fam.rk, Ck.rk, C.rk, E.rk, T.rk, key, List.map_cons, List.map_nil, List.cons_append, List.nil_append, List.length_cons, List.length_nil, Option.map_some, Option.bind_some, Nat.reduceAdd, Nat.zero_add, Nat.add_zero, Nat.add_sub_cancel_left, Int.toNat_natCast, reps, List.all_cons, List.all_nil, C.flat, List.append_eq, Bool.not_true, Bool.and_true, Bool.or_false, Bool.or_self, Bool.not_false, List.append_nil, Bool.and_self, ↓rqO_rk, encPr]); rfl) (by (try simp only [givesF, setF, updF, Fam.zeroth, Fam.rk, Ck.rk, C.rk, E.rk, T.rk, key, List.map_cons, List.map_nil, List.cons_append, List.nil_append, List.length_cons, List.length_nil, Option.map_some, Option.bind_some, Nat.reduceAdd, Nat.zero_add, Nat.add_zero, Nat.add_sub_cancel_left, Int.toNat_natCast, reps, List.all_cons, List.all_nil, C.flat, List.append_eq, Bool.not_true, Bool.and_true, Bool.or_false, Bool.or_self, Bool.not_false, List.append_nil, Bool.and_self, ↓rqO_rk, encPr]); rfl) ?_
      repeat' (first | (fail_if_success (with_reducible refine xstp ?_)); first | ((with_reducible refine And.intro ?_ ?_); focus exact xoC) | ((fail_if_success (with_reducible first | refine xgon ?_ | intro _)); (conv => whnf); (fail_if_success (fail_if_success (with_reducible first | refine xstp ?_ | refine xgon ?_ | intro _)))))
      refine ⟨⟨⟨(j + 1, o ++ y), by simp only; omega, by simp only; rw [hNs, ho, ← List.append_assoc]⟩, c4⟩, [0, 1, 2, 3, 4, 5, 10, 7, 8, 9], by simp only; omega, ?_⟩
      (repeat' first | refine And.intro ?_ ?_ | exact xeC | fail)
      all_goals first | exact xmI | omega | skip
      all_goals trace_state
    all_goals have hjn : j = (R.la - p.se).toNat := by omega
    all_goals rw [hjn] at ho
    all_goals rw [hts] at hFs
    · have hbt : beats p R.la at' := ⟨by assumption, by assumption, by assumption⟩
      rename_i c5
      rw [e3, he]
      repeat' (first | (fail_if_success (with_reducible refine xstp ?_)); first | ((with_reducible refine And.intro ?_ ?_); focus exact xoC) | ((fail_if_success (with_reducible first | refine xgon ?_ | intro _)); (conv => whnf); (fail_if_success (fail_if_success (with_reducible first | refine xstp ?_ | refine xgon ?_ | intro _)))))
      have hb2 : (polP per p R.la at').bt = at' + per := if_pos hbt
      have hFe : polFr id (stay q R.l at') R.la at' R.D (R.S.take k ++ [x]) = o ++ [hbK id x p R.la at'] := by (rw [hFs, ho]; unfold polLr polH; rw [if_pos hbt]; simp only [List.append_assoc])
      refine ⟨⟨⟨k + 1, by omega⟩, c5⟩, [0, 1, 2, 3, 4, 5, 11, .adopt 7 1 98, .adopt 8 x 99], by simp only; omega, ?_⟩
      simp only [hts, hFe]
      (repeat' first | refine And.intro ?_ ?_ | exact xeC | fail)
      all_goals first
        | exact xmI
        | (simp only [List.length_append, List.length_singleton]; done)
        | (simp only [List.length_append, List.length_singleton]; exact Nat.le_refl _)
        | (intro i hi; exact app_rowG (encP .nils) o (hbK id x p R.la at') _ rfl i hi)
        | exact fun i hi => rd_loose (R := midR per at' R (R.S.take k)) (R' := midR per at' R (R.S.take k ++ [x])) (p' := polP per p R.la at') rfl hnd hx (fun y hy => polD_ne hy) (fun y hy => polC_ne hy) hDx rfl rfl hCx (fun y => rfl) (by simp) (by rw [hb2]; rfl) i hi
        | exact fun y hy => rq_same2 (polD_ne hy) (polC_ne hy)
        | skip
      show nilLe (.one (rqO (polD per R.la at' R.D (R.S.take k ++ [x]) x) (polC cf (R.S.take k ++ [x]) x))) _
      rw [hDx, hCx]
      refine ⟨rfl, rfl, ?_⟩
      (repeat' first | refine And.intro ?_ ?_ | exact xeC | fail)
      all_goals first
        | exact xmI
        | (simp only [List.length_append, List.length_singleton]; done)
        | (simp only [List.length_append, List.length_singleton]; exact Nat.le_refl _)
        | skip
      all_goals trace_state
    all_goals (
      have hbt : ¬ beats p R.la at' := fun h => by
        have h1 := h.1
        have h2 := h.2.1
        have h3 := h.2.2
        first | omega | (simp_all; done)
      rw [e3, he]
      repeat' (first | (fail_if_success (with_reducible refine xstp ?_)); first | ((with_reducible refine And.intro ?_ ?_); focus exact xoC) | ((fail_if_success (with_reducible first | refine xgon ?_ | intro _)); (conv => whnf); (fail_if_success (fail_if_success (with_reducible first | refine xstp ?_ | refine xgon ?_ | intro _)))))
      have hb2 : (polP per p R.la at').bt = p.bt := if_neg hbt
      have hFe : polFr id (stay q R.l at') R.la at' R.D (R.S.take k ++ [x]) = o := by (rw [hFs, ho]; unfold polLr polH; rw [if_neg hbt]; simp only [List.append_assoc, List.append_nil])
      refine ⟨⟨⟨k + 1, by omega⟩, cc⟩, [0, 1, 2, 3, 4, 5, 6, .adopt 7 1 98, .adopt 8 x 99], by simp only; omega, ?_⟩
      simp only [hts, hFe]
      (repeat' first | refine And.intro ?_ ?_ | exact xeC | fail)
      all_goals first
        | exact xmI
        | (simp only [List.length_append, List.length_singleton]; done)
        | (simp only [List.length_append, List.length_singleton]; exact Nat.le_refl _)
        | (intro i hi; exact app_rowG (encP .nils) o (hbK id x p R.la at') _ rfl i hi)
        | exact fun i hi => rd_loose (R := midR per at' R (R.S.take k)) (R' := midR per at' R (R.S.take k ++ [x])) (p' := polP per p R.la at') rfl hnd hx (fun y hy => polD_ne hy) (fun y hy => polC_ne hy) hDx rfl rfl hCx (fun y => rfl) (by simp) (by rw [hb2]; rfl) i hi
        | exact fun y hy => rq_same2 (polD_ne hy) (polC_ne hy)
        | skip
      show nilLe (.one (rqO (polD per R.la at' R.D (R.S.take k ++ [x]) x) (polC cf (R.S.take k ++ [x]) x))) _
      rw [hDx, hCx]
      refine ⟨rfl, rfl, ?_⟩
      (repeat' first | refine And.intro ?_ ?_ | exact xeC | fail)
      all_goals first
        | exact xmI
        | (simp only [List.length_append, List.length_singleton]; done)
        | (simp only [List.length_append, List.length_singleton]; exact Nat.le_refl _)
        | skip
      all_goals trace_state
      skip)
  · skip
    generalize polFr id (stay q R.l at') R.la at' R.D (R.S.take k) = O at *
    refine LoopK.mk' ({t : Nat × List Pk // t.1 ≤ nA p ∧ t.2 = O ++ polB id x p at' ++ polA id (stay q R.l at') x p at' t.1} × Nat)
      (fun ⟨⟨(j, o), _⟩, cc⟩ => ⟨[(0, .c (.p 0 0 0)), (1, .c (.i .i64 at')), (5, .c (.sl 6 0 11 0 o.length cc)), (6, .c (.i .i64 k)), (7, .c (.p 9 0 0)), (8, .c (.i .i64 (p.st + (j : Int))))],
        [.one (wrr 1 7 id per R.la q R.S.length cM), .one (hist 5 q (stay q R.l at').length cs), .one .no, .one .no, .one .no, .one (smps true (stay q R.l at') cs), .one (pkR true o cc), .one (.row true true 80 9 R.S.length cM (encRd 8 (midR per at' R (R.S.take k)) (polC cf (R.S.take k)))), rqs (midR per at' R (R.S.take k)).D (polC cf (R.S.take k)), .one (.cells true (encPr 8 x x p (cf x)))]⟩)
      (fun j => nA p - j.1.1.1)
      ⟨⟨⟨(0, O), Nat.zero_le _, by (show _ = O ++ polB id x p at' ++ []; unfold polB; rw [if_neg (by simp [*]), List.append_nil, List.append_nil])⟩, co⟩, [0, 1, 2, 3, 4, 5, 6, 7, 8, 9], ?_⟩ ?_
    · (repeat' first | refine And.intro ?_ ?_ | exact xeC | fail)
      all_goals first
        | exact xmI
        | rfl
        | (rw [List.length_append]; rfl)
        | (rw [List.length_append]; exact Nat.le_refl _)
        | (intro i hi; exact app_rowG (encP .nils) O (gapK id x p 0 1 (p.st - 1) at') _ rfl i hi)
        | omega
        | skip
      all_goals trace_state
    rintro ⟨⟨⟨j, o⟩, hj, ho⟩, cc⟩
    simp only at hj ho
    have hBl := polB_le id x p at'
    have hAl := polA_le id (stay q R.l at') x p at' j
    have hOl : o.length ≤ 90000000 := by
      rw [ho]
      simp only [List.length_append]; omega
    repeat' (first | (fail_if_success (with_reducible refine xstp ?_)); first | ((with_reducible refine And.intro (fun (hb : _ = true) => ?_) (fun (hb : _ = false) => ?_)) <;> replace hb := xnC hb <;> (try first | exact xfC | exact bff hb (by assumption) | exact bff (by assumption) hb)) | ((with_reducible refine And.intro ?_ ?_); focus exact xoC) | (with_reducible intro hc; (try simp only [capsP, and_true] at hc); (try exact xfC)) | ((fail_if_success (with_reducible first | refine xgon ?_ | intro _)); (conv => whnf); (fail_if_success (fail_if_success (with_reducible first | refine xstp ?_ | refine xgon ?_ | intro _)))))
    · have hjn : j < nA p := by unfold nA; omega
      have hAs := polA_succ id (stay q R.l at') x p at' j
      refine cH18ziG1 (σ := [.mem 8 (x)]) (nl := []) (rasked x p (cf x) (p.st + (j : Int)) (by omega)) ?_ (hle := by (repeat' first | refine And.intro ?_ ?_ | exact xeC | fail) <;> (refine ManyK.mk ⟨_, hrow, ?_⟩ <;> (repeat' first | refine And.intro ?_ ?_ | exact xeC | fail)))
      rintro v h' ⟨rfl, rfl⟩ hcaps
      refine ret_mk3 (by (try simp only [↓List.length_cons, ↓List.length_nil, Nat.reduceAdd]); rfl) (by (try simp (maxSteps := 1000000) only [givesF, setF, updF, Fam.zeroth, Fam.rk, Ck.rk, C.rk, E.rk, T.rk, key, List.map_cons, List.map_nil, List.cons_append, List.nil_append, List.length_cons, List.length_nil, Option.map_some, Option.bind_some, Nat.reduceAdd, Nat.zero_add, Nat.add_zero, Nat.add_sub_cancel_left, Int.toNat_natCast, reps, List.all_cons, List.all_nil, C.flat, List.append_eq, Bool.not_true, Bool.and_true, Bool.or_false, Bool.or_self, Bool.not_false, List.append_nil, Bool.and_self, ↓rqO_rk, encPr]); rfl) (by (try simp only [givesF, setF, updF, Fam.zeroth, Fam.rk, Ck.rk, C.rk, E.rk, T.rk, key, List.map_cons, List.map_nil, List.cons_append, List.nil_append, List.length_cons, List.length_nil, Option.map_some, Option.bind_some, Nat.reduceAdd, Nat.zero_add, Nat.add_zero, Nat.add_sub_cancel_left, Int.toNat_natCast, reps, List.all_cons, List.all_nil, C.flat, List.append_eq, Bool.not_true, Bool.and_true, Bool.or_false, Bool.or_self, Bool.not_false, List.append_nil, Bool.and_self, ↓rqO_rk, encPr]); rfl) ?_
      have hback := rq_back (f := fun y => rqO ((midR per at' R (R.S.take k)).D y) (polC cf (R.S.take k) y)) hrow
      rw [hback]
      repeat' (first | (fail_if_success (with_reducible refine xstp ?_)); first | ((with_reducible refine And.intro (fun (hb : _ = true) => ?_) (fun (hb : _ = false) => ?_)) <;> replace hb := xnC hb <;> (try first | exact xfC | exact bff hb (by assumption) | exact bff (by assumption) hb)) | ((with_reducible refine And.intro ?_ ?_); focus exact xoC) | ((fail_if_success (with_reducible first | refine xgon ?_ | intro _)); (conv => whnf); (fail_if_success (fail_if_success (with_reducible first | refine xstp ?_ | refine xgon ?_ | intro _)))))
      · have hm : p.st + (j : Int) ∈ p.rq := by assumption
        rw [show polA1 id (stay q R.l at') x p at' (p.st + (j : Int)) = datR id (stay q R.l at') x p at' (p.st + (j : Int)) true from if_pos hm] at hAs
        refine cH18ziG1 (σ := [.whole 0, .whole 1, .name 7, .whole 5, .whole 6, .name 8]) (nl := []) (rdata id per R.la q (stay q R.l at') cs R.S.length cM x p (cf x) o cc (p.st + (j : Int)) at' true (by omega) (by omega) x) ?_
        rintro v h' ⟨c4, rfl, rfl⟩ hcaps
        generalize datR id (stay q R.l at') x p at' (p.st + (j : Int)) true = y at *
        refine ret_mk3 (by (try simp only [↓List.length_cons, ↓List.length_nil, Nat.reduceAdd]); rfl) (by (try simp (maxSteps := 1000000) only [givesF, setF, updF, Fam.zeroth, Fam.rk, Ck.rk, C.rk, E.rk, T.rk, key, List.map_cons, List.map_nil, List.cons_append, List.nil_append, List.length_cons, List.length_nil, Option.map_some, Option.bind_some, Nat.reduceAdd, Nat.zero_add, Nat.add_zero, Nat.add_sub_cancel_left, Int.toNat_natCast, reps, List.all_cons, List.all_nil, C.flat, List.append_eq, Bool.not_true, Bool.and_true, Bool.or_false, Bool.or_self, Bool.not_false, List.append_nil, Bool.and_self, ↓rqO_rk, encPr]); rfl) (by (try simp only [givesF, setF, updF, Fam.zeroth, Fam.rk, Ck.rk, C.rk, E.rk, T.rk, key, List.map_cons, List.map_nil, List.cons_append, List.nil_append, List.length_cons, List.length_nil, Option.map_some, Option.bind_some, Nat.reduceAdd, Nat.zero_add, Nat.add_zero, Nat.add_sub_cancel_left, Int.toNat_natCast, reps, List.all_cons, List.all_nil, C.flat, List.append_eq, Bool.not_true, Bool.and_true, Bool.or_false, Bool.or_self, Bool.not_false, List.append_nil, Bool.and_self, ↓rqO_rk, encPr]); rfl) ?_
        repeat' (first | (fail_if_success (with_reducible refine xstp ?_)); first | ((with_reducible refine And.intro ?_ ?_); focus exact xoC) | ((fail_if_success (with_reducible first | refine xgon ?_ | intro _)); (conv => whnf); (fail_if_success (fail_if_success (with_reducible first | refine xstp ?_ | refine xgon ?_ | intro _)))))
        refine ⟨⟨⟨(j + 1, o ++ y), by simp only; omega, by simp only; rw [hAs, ho, ← List.append_assoc]⟩, c4⟩, [0, 1, 2, 3, 4, 5, 10, 7, 8, 9], by simp only; omega, ?_⟩
        (repeat' first | refine And.intro ?_ ?_ | exact xeC | fail)
        all_goals first | exact xmI | omega | skip
        all_goals trace_state
      · have hm : ¬ p.st + (j : Int) ∈ p.rq := by assumption
        rw [show polA1 id (stay q R.l at') x p at' (p.st + (j : Int)) = [] from if_neg hm, List.append_nil] at hAs
        refine ⟨⟨⟨(j + 1, o), by simp only; omega, by simp only; rw [hAs, ho]⟩, cc⟩, [0, 1, 2, 3, 4, 5, 6, 7, 8, 9], by simp only; omega, ?_⟩
        (repeat' first | refine And.intro ?_ ?_ | exact xeC | fail)
        all_goals first | exact xmI | omega | skip
        all_goals trace_state
    have hjn : j = nA p := by unfold nA at hj ⊢; omega
    rw [hjn] at ho
    refine LoopK.mk' ({t : Nat × List Pk // t.1 ≤ (R.la - p.se).toNat ∧ t.2 = O ++ polB id x p at' ++ polA id (stay q R.l at') x p at' (nA p) ++ polN id (stay q R.l at') x p at' t.1} × Nat)
      (fun ⟨⟨(j, o), _⟩, cc⟩ => ⟨[(0, .c (.p 0 0 0)), (1, .c (.i .i64 at')), (5, .c (.sl 6 0 11 0 o.length cc)), (6, .c (.i .i64 k)), (7, .c (.p 9 0 0)), (9, .c (.i .i64 (p.se + 1 + (j : Int))))],
        [.one (wrr 1 7 id per R.la q R.S.length cM), .one (hist 5 q (stay q R.l at').length cs), .one .no, .one .no, .one .no, .one (smps true (stay q R.l at') cs), .one (pkR true o cc), .one (.row true true 80 9 R.S.length cM (encRd 8 (midR per at' R (R.S.take k)) (polC cf (R.S.take k)))), rqs (midR per at' R (R.S.take k)).D (polC cf (R.S.take k)), .one (.cells true (encPr 8 x x p (cf x)))]⟩)
      (fun j => (R.la - p.se).toNat - j.1.1.1)
      ⟨⟨⟨(0, o), Nat.zero_le _, ho.trans (List.append_nil _).symm⟩, cc⟩, [0, 1, 2, 3, 4, 5, 6, 7, 8, 9], ?_⟩ ?_
    · (repeat' first | refine And.intro ?_ ?_ | exact xeC | fail)
      all_goals first | exact xmI | omega | skip
      all_goals trace_state
    clear hj hjn ho
    rintro ⟨⟨⟨j, o⟩, hj, ho⟩, cc⟩
    simp only at hj ho
    have hAl := polA_le id (stay q R.l at') x p at' (nA p)
    have hNl := polN_le id (stay q R.l at') x p at' j
    have hOl : o.length ≤ 90000000 := by
      rw [ho]
      simp only [List.length_append]; omega
    repeat' (first | (fail_if_success (with_reducible refine xstp ?_)); first | ((with_reducible refine And.intro (fun (hb : _ = true) => ?_) (fun (hb : _ = false) => ?_)) <;> replace hb := xnC hb <;> (try first | exact xfC | exact bff hb (by assumption) | exact bff (by assumption) hb)) | ((with_reducible refine And.intro ?_ ?_); focus exact xoC) | ((with_reducible refine Or.inl ⟨?_, ?_, ?_⟩); (focus rfl); focus exact xaC) | (with_reducible intro hc; (try simp only [capsP, and_true] at hc); (try exact xfC)) | ((fail_if_success (with_reducible first | refine xgon ?_ | intro _)); (conv => whnf); (fail_if_success (fail_if_success (with_reducible first | refine xstp ?_ | refine xgon ?_ | intro _)))))
    · have hjn : j < (R.la - p.se).toNat := by omega
      have hNs := polN_succ id (stay q R.l at') x p at' j
      rw [← datR_rel] at hNs
      refine cH18ziG1 (σ := [.whole 0, .whole 1, .name 7, .whole 5, .whole 6, .name 8]) (nl := []) (rdata id per R.la q (stay q R.l at') cs R.S.length cM x p (cf x) o cc (p.se + 1 + (j : Int)) at' p.rel (by omega) (by omega) x) ?_
      rintro v h' ⟨c4, rfl, rfl⟩ hcaps
      generalize datR id (stay q R.l at') x p at' (p.se + 1 + (j : Int)) p.rel = y at *
      refine ret_mk3 (by (try simp only [↓List.length_cons, ↓List.length_nil, Nat.reduceAdd]); rfl) (by (try simp (maxSteps := 1000000) only [givesF, setF, updF, Fam.zeroth, Fam.rk, Ck.rk, C.rk, E.rk, T.rk, key, List.map_cons, List.map_nil, List.cons_append, List.nil_append, List.length_cons, List.length_nil, Option.map_some, Option.bind_some, Nat.reduceAdd, Nat.zero_add, Nat.add_zero, Nat.add_sub_cancel_left, Int.toNat_natCast, reps, List.all_cons, List.all_nil, C.flat, List.append_eq, Bool.not_true, Bool.and_true, Bool.or_false, Bool.or_self, Bool.not_false, List.append_nil, Bool.and_self, ↓rqO_rk, encPr]); rfl) (by (try simp only [givesF, setF, updF, Fam.zeroth, Fam.rk, Ck.rk, C.rk, E.rk, T.rk, key, List.map_cons, List.map_nil, List.cons_append, List.nil_append, List.length_cons, List.length_nil, Option.map_some, Option.bind_some, Nat.reduceAdd, Nat.zero_add, Nat.add_zero, Nat.add_sub_cancel_left, Int.toNat_natCast, reps, List.all_cons, List.all_nil, C.flat, List.append_eq, Bool.not_true, Bool.and_true, Bool.or_false, Bool.or_self, Bool.not_false, List.append_nil, Bool.and_self, ↓rqO_rk, encPr]); rfl) ?_
      repeat' (first | (fail_if_success (with_reducible refine xstp ?_)); first | ((with_reducible refine And.intro ?_ ?_); focus exact xoC) | ((fail_if_success (with_reducible first | refine xgon ?_ | intro _)); (conv => whnf); (fail_if_success (fail_if_success (with_reducible first | refine xstp ?_ | refine xgon ?_ | intro _)))))
      refine ⟨⟨⟨(j + 1, o ++ y), by simp only; omega, by simp only; rw [hNs, ho, ← List.append_assoc]⟩, c4⟩, [0, 1, 2, 3, 4, 5, 10, 7, 8, 9], by simp only; omega, ?_⟩
      (repeat' first | refine And.intro ?_ ?_ | exact xeC | fail)
      all_goals first | exact xmI | omega | skip
      all_goals trace_state
    all_goals have hjn : j = (R.la - p.se).toNat := by omega
    all_goals rw [hjn] at ho
    all_goals rw [hts] at hFs
    · have hbt : beats p R.la at' := ⟨by assumption, by assumption, by assumption⟩
      rename_i c5
      rw [e3, he]
      repeat' (first | (fail_if_success (with_reducible refine xstp ?_)); first | ((with_reducible refine And.intro ?_ ?_); focus exact xoC) | ((fail_if_success (with_reducible first | refine xgon ?_ | intro _)); (conv => whnf); (fail_if_success (fail_if_success (with_reducible first | refine xstp ?_ | refine xgon ?_ | intro _)))))
      have hb2 : (polP per p R.la at').bt = at' + per := if_pos hbt
      have hFe : polFr id (stay q R.l at') R.la at' R.D (R.S.take k ++ [x]) = o ++ [hbK id x p R.la at'] := by (rw [hFs, ho]; unfold polLr polH; rw [if_pos hbt]; simp only [List.append_assoc])
      refine ⟨⟨⟨k + 1, by omega⟩, c5⟩, [0, 1, 2, 3, 4, 5, 11, .adopt 7 1 98, .adopt 8 x 99], by simp only; omega, ?_⟩
      simp only [hts, hFe]
      (repeat' first | refine And.intro ?_ ?_ | exact xeC | fail)
      all_goals first
        | exact xmI
        | (simp only [List.length_append, List.length_singleton]; done)
        | (simp only [List.length_append, List.length_singleton]; exact Nat.le_refl _)
        | (intro i hi; exact app_rowG (encP .nils) o (hbK id x p R.la at') _ rfl i hi)
        | exact fun i hi => rd_loose (R := midR per at' R (R.S.take k)) (R' := midR per at' R (R.S.take k ++ [x])) (p' := polP per p R.la at') rfl hnd hx (fun y hy => polD_ne hy) (fun y hy => polC_ne hy) hDx rfl rfl hCx (fun y => rfl) (by simp) (by rw [hb2]; rfl) i hi
        | exact fun y hy => rq_same2 (polD_ne hy) (polC_ne hy)
        | skip
      show nilLe (.one (rqO (polD per R.la at' R.D (R.S.take k ++ [x]) x) (polC cf (R.S.take k ++ [x]) x))) _
      rw [hDx, hCx]
      refine ⟨rfl, rfl, ?_⟩
      (repeat' first | refine And.intro ?_ ?_ | exact xeC | fail)
      all_goals first
        | exact xmI
        | (simp only [List.length_append, List.length_singleton]; done)
        | (simp only [List.length_append, List.length_singleton]; exact Nat.le_refl _)
        | skip
      all_goals trace_state
    all_goals (
      have hbt : ¬ beats p R.la at' := fun h => by
        have h1 := h.1
        have h2 := h.2.1
        have h3 := h.2.2
        first | omega | (simp_all; done)
      rw [e3, he]
      repeat' (first | (fail_if_success (with_reducible refine xstp ?_)); first | ((with_reducible refine And.intro ?_ ?_); focus exact xoC) | ((fail_if_success (with_reducible first | refine xgon ?_ | intro _)); (conv => whnf); (fail_if_success (fail_if_success (with_reducible first | refine xstp ?_ | refine xgon ?_ | intro _)))))
      have hb2 : (polP per p R.la at').bt = p.bt := if_neg hbt
      have hFe : polFr id (stay q R.l at') R.la at' R.D (R.S.take k ++ [x]) = o := by (rw [hFs, ho]; unfold polLr polH; rw [if_neg hbt]; simp only [List.append_assoc, List.append_nil])
      refine ⟨⟨⟨k + 1, by omega⟩, cc⟩, [0, 1, 2, 3, 4, 5, 6, .adopt 7 1 98, .adopt 8 x 99], by simp only; omega, ?_⟩
      simp only [hts, hFe]
      (repeat' first | refine And.intro ?_ ?_ | exact xeC | fail)
      all_goals first
        | exact xmI
        | (simp only [List.length_append, List.length_singleton]; done)
        | (simp only [List.length_append, List.length_singleton]; exact Nat.le_refl _)
        | (intro i hi; exact app_rowG (encP .nils) o (hbK id x p R.la at') _ rfl i hi)
        | exact fun i hi => rd_loose (R := midR per at' R (R.S.take k)) (R' := midR per at' R (R.S.take k ++ [x])) (p' := polP per p R.la at') rfl hnd hx (fun y hy => polD_ne hy) (fun y hy => polC_ne hy) hDx rfl rfl hCx (fun y => rfl) (by simp) (by rw [hb2]; rfl) i hi
        | exact fun y hy => rq_same2 (polD_ne hy) (polC_ne hy)
        | skip
      show nilLe (.one (rqO (polD per R.la at' R.D (R.S.take k ++ [x]) x) (polC cf (R.S.take k ++ [x]) x))) _
      rw [hDx, hCx]
      refine ⟨rfl, rfl, ?_⟩
      (repeat' first | refine And.intro ?_ ?_ | exact xeC | fail)
      all_goals first
        | exact xmI
        | (simp only [List.length_append, List.length_singleton]; done)
        | (simp only [List.length_append, List.length_singleton]; exact Nat.le_refl _)
        | skip
      all_goals trace_state
      skip)
end Go.Proofs.YtofcadbfjbefkaaGreat


namespace Go.Proofs.YtofcadbfjbefkaaGreat
open Go.X
set_option linter.unusedVariables false
/-- Two readers: all but what is asked for is the same, and that is the same set. -/
def PR (p p' : Pr) : Prop := ∃ rq, p' = ⟨p.nd, p.rel, p.st, p.ac, p.se, rq, p.bg, p.bt⟩ ∧ ∀ n, n ∈ rq ↔ n ∈ p.rq
theorem PR.refl (p : Pr) : PR p p := ⟨p.rq, rfl, fun _ => Iff.rfl⟩
def PRo : Option Pr → Option Pr → Prop
  | none, none => True
  | some p, some p' => PR p p'
  | _, _ => False
theorem PRo.some {o o' : Option Pr} (h : PRo o o') {p : Pr} (hp : o = some p) : ∃ p', o' = some p' ∧ PR p p' := by
  subst hp
  cases o' with
  | none => exact h.elim
  | some p' => exact ⟨p', rfl, h⟩
theorem PRo.some' {o o' : Option Pr} (h : PRo o o') {p' : Pr} (hp : o' = .some p') : ∃ p, o = .some p ∧ PR p p' := by
  subst hp
  cases o with
  | none => exact h.elim
  | some p => exact ⟨p, rfl, h⟩
theorem PRo.is {o o' : Option Pr} (h : PRo o o') : o.isSome = o'.isSome := by
  cases o <;> cases o' <;> first | rfl | exact h.elim
structure Rl (W : Ws) (R : Rw) : Prop where
  l : R.l = W.l
  la : R.la = W.la
  s : R.S.Pairwise (· < ·)
  S : ∀ x, x ∈ R.S ↔ x ∈ numW W
  D : ∀ y, PRo (W.D y) (R.D y)
theorem Rl.get {W : Ws} {R : Rw} (h : Rl W R) (r : Int) : PRo (W.get r) (R.W.get r) := by
  unfold Ws.get
  split
  · exact h.D _
  · trivial
theorem asc_unique : ∀ {S T : List Nat}, S.Pairwise (· < ·) → T.Pairwise (· < ·) → (∀ x, x ∈ S ↔ x ∈ T) → S = T
  | [], [], _, _, _ => rfl
  | [], b :: T, _, _, h => absurd ((h b).2 List.mem_cons_self) (List.not_mem_nil)
  | a :: S, [], _, _, h => absurd ((h a).1 List.mem_cons_self) (List.not_mem_nil)
  | a :: S, b :: T, hs, ht, h => by
    rw [List.pairwise_cons] at hs ht
    have hab : a = b := by
      rcases List.mem_cons.1 ((h a).1 List.mem_cons_self) with e | e
      · exact e
      · rcases List.mem_cons.1 ((h b).2 List.mem_cons_self) with e2 | e2
        · exact e2.symm
        · have := hs.1 b e2
          have := ht.1 a e
          omega
    subst hab
    rw [asc_unique hs.2 ht.2 fun x => ⟨fun hx => ?_, fun hx => ?_⟩]
    · rcases List.mem_cons.1 ((h x).1 (List.mem_cons_of_mem _ hx)) with e | e
      · have := hs.1 x hx; omega
      · exact e
    · rcases List.mem_cons.1 ((h x).2 (List.mem_cons_of_mem _ hx)) with e | e
      · have := ht.1 x hx; omega
      · exact e
theorem asc_uniqueI : ∀ {S T : List Int}, S.Pairwise (· < ·) → T.Pairwise (· < ·) → (∀ x, x ∈ S ↔ x ∈ T) → S = T
  | [], [], _, _, _ => rfl
  | [], b :: T, _, _, h => absurd ((h b).2 List.mem_cons_self) (List.not_mem_nil)
  | a :: S, [], _, _, h => absurd ((h a).1 List.mem_cons_self) (List.not_mem_nil)
  | a :: S, b :: T, hs, ht, h => by
    rw [List.pairwise_cons] at hs ht
    have hab : a = b := by
      rcases List.mem_cons.1 ((h a).1 List.mem_cons_self) with e | e
      · exact e
      · rcases List.mem_cons.1 ((h b).2 List.mem_cons_self) with e2 | e2
        · exact e2.symm
        · have := hs.1 b e2
          have := ht.1 a e
          omega
    subst hab
    rw [asc_uniqueI hs.2 ht.2 fun x => ⟨fun hx => ?_, fun hx => ?_⟩]
    · rcases List.mem_cons.1 ((h x).1 (List.mem_cons_of_mem _ hx)) with e | e
      · have := hs.1 x hx; omega
      · exact e
    · rcases List.mem_cons.1 ((h x).2 (List.mem_cons_of_mem _ hx)) with e | e
      · have := ht.1 x hx; omega
      · exact e
theorem srtN_asc {l : List Nat} (h : l.Nodup) : (srtN l).Pairwise (· < ·) := by
  have h1 := List.pairwise_mergeSort (le := fun x y : Nat => decide (x ≤ y)) (fun a b c => by simp; omega) (fun a b => by simp; omega) l
  have h2 : (srtN l).Nodup := (List.mergeSort_perm l _).nodup_iff.2 h
  have h3 := List.pairwise_and_iff.2 ⟨h1.imp fun h => of_decide_eq_true h, h2⟩
  exact h3.imp fun h => by omega
theorem srtI_asc {l : List Int} (h : l.Nodup) : (srtI l).Pairwise (· < ·) := by
  have h1 := List.pairwise_mergeSort (le := fun x y : Int => decide (x ≤ y)) (fun a b c => by simp; omega) (fun a b => by simp; omega) l
  have h2 : (srtI l).Nodup := (List.mergeSort_perm l _).nodup_iff.2 h
  have h3 := List.pairwise_and_iff.2 ⟨h1.imp fun h => of_decide_eq_true h, h2⟩
  exact h3.imp fun h => by have := h.1; have := h.2; omega
theorem num_nd {W : Ws} (hW : WOk W) : (numW W).Nodup := (List.mergeSort_perm (numW W) fun x y : Nat => decide (x ≤ y)).nodup_iff.1 (srt_nd hW)
theorem Rl.eq {W : Ws} {R : Rw} (h : Rl W R) (hW : WOk W) : R.S = srtN (numW W) :=
  asc_unique h.s (srtN_asc (num_nd hW)) fun x => (h.S x).trans List.mem_mergeSort.symm
theorem mem_num {W : Ws} {x : Nat} : x ∈ numW W ↔ ∃ i, i < W.M.length ∧ (W.M.getD i default).2.toNat = x := by
  unfold numW
  rw [List.mem_map]
  constructor
  · rintro ⟨e, he, rfl⟩
    obtain ⟨i, hi, rfl⟩ := List.mem_iff_getElem.1 he
    exact ⟨i, hi, by rw [getD_at hi]⟩
  · rintro ⟨i, hi, rfl⟩
    exact ⟨_, by rw [getD_at hi]; exact List.getElem_mem _, rfl⟩
theorem Rl.ok {W : Ws} {R : Rw} (h : Rl W R) (hW : WOk W) : ROk R := by
  refine ⟨fun i hi => ?_, fun x p hx => ?_, h.s⟩
  · obtain ⟨j, hj, e⟩ := mem_num.1 ((h.S (R.S.getD i default)).1 (by rw [getD_at hi]; exact List.getElem_mem _))
    obtain ⟨h1, p, hp⟩ := hW.a j hj
    obtain ⟨p', hp', _⟩ := (h.D _).some hp
    rw [e] at hp'
    exact ⟨by omega, p', hp'⟩
  · obtain ⟨p', hp', _⟩ := (h.D x).some' hx
    obtain ⟨i, hi, e, h1⟩ := hW.b x p' hp'
    exact (h.S x).2 (mem_num.2 ⟨i, hi, by omega⟩)
/-! ### Write -/
theorem PR.nd {p p' : Pr} (h : PR p p') (sq : Int) : ndP sq p' = ndP sq p := by
  obtain ⟨rq, rfl, _⟩ := h
  rfl
theorem Rl.nd {W : Ws} {R : Rw} (h : Rl W R) (sq : Int) : ndB sq W = ndB sq R.W := by
  rw [nd_rw]
  have e : ndB sq W = (numW W).any fun x => match W.D x with | some p => ndP sq p | none => false := by
    unfold ndB numW
    rw [List.any_map]
    rfl
  have e2 : ∀ x, (match W.D x with | some p => ndP sq p | none => false) = (match R.D x with | some p => ndP sq p | none => false) := fun x => by
    have := h.D x
    cases h1 : W.D x with
    | none =>
      cases h2 : R.D x with
      | none => rfl
      | some p' => rw [h1, h2] at this; exact this.elim
    | some p =>
      cases h2 : R.D x with
      | none => rw [h1, h2] at this; exact this.elim
      | some p' => rw [h1, h2] at this; exact (PR.nd this sq).symm
  rw [e]
  refine Bool.eq_iff_iff.2 ?_
  rw [List.any_eq_true, List.any_eq_true]
  constructor
  · rintro ⟨x, hx, hp⟩
    exact ⟨x, (h.S x).2 hx, (e2 x).symm.trans hp⟩
  · rintro ⟨x, hx, hp⟩
    exact ⟨x, (h.S x).1 hx, (e2 x).trans hp⟩
theorem isS_eq (w q : Int) : (fun x : Smp => x.w == w && x.q == q) = isS w q := by
  funext x
  unfold isS
  by_cases h1 : x.w = w <;> by_cases h2 : x.q = q <;> simp [h1, h2]
theorem era_eq (l : List Smp) (w q : Int) : eraS l w q = l.eraseP (isS w q) := by
  unfold eraS
  rw [isS_eq, List.eraseP_eq_eraseIdx]
  cases l.findIdx? (isS w q) <;> rfl
theorem filter_era {l : List Smp} (w q : Int) (h : l.Pairwise fun a b => ¬ (a.w = b.w ∧ a.q = b.q)) : (l.filter fun x => !isS w q x) = eraS l w q := by
  rw [era_eq]
  induction l with
  | nil => rfl
  | cons a l ih =>
    rw [List.pairwise_cons] at h
    rw [List.filter_cons, List.eraseP_cons]
    cases ha : isS w q a with
    | false => simp [ih h.2]
    | true =>
      simp only [Bool.not_true, Bool.false_eq_true, if_false, cond_true]
      refine List.filter_eq_self.2 fun x hx => ?_
      have := h.1 x hx
      unfold isS at ha ⊢
      have ha := of_decide_eq_true ha
      rw [decide_eq_false (fun hh => this ⟨ha.1.trans hh.1.symm, ha.2.trans hh.2.symm⟩)]
      rfl
theorem prnS_sub (id : Int) (W : Ws) (m : List Smp) (s : Smp) : (prnS id W m s).Sublist m := by
  unfold prnS
  split
  · exact List.Sublist.refl _
  · exact List.filter_sublist
theorem prn_fold {id : Int} {W : Ws} {R : Rw} (hn : ∀ sq, ndB sq W = ndB sq R.W) : ∀ (t m : List Smp), m.Pairwise (fun a b => a.q < b.q) → t.foldl (prnS id W) m = t.foldl (prnSR id R) m
  | [], _, _ => rfl
  | s :: t, m, h => by
    have e : prnS id W m s = prnSR id R m s := by
      unfold prnS prnSR
      rw [hn]
      split
      · rfl
      · exact filter_era id s.q (h.imp fun h h2 => by have := h2.2; omega)
    rw [List.foldl_cons, List.foldl_cons, ← e]
    exact prn_fold hn t _ (h.sublist (prnS_sub id W m s))
theorem prn_sub (id : Int) (q : Qos) (W : Ws) : (prn id q W).Sublist W.l := by
  have h : ∀ (t m : List Smp), (t.foldl (prnS id W) m).Sublist m := by
    intro t
    induction t with
    | nil => intro m; exact List.Sublist.refl _
    | cons s t ih => intro m; exact (ih _).trans (prnS_sub id W m s)
  unfold prn
  split
  · exact h _ _
  · exact List.Sublist.refl _
theorem Rl.prn {W : Ws} {R : Rw} (h : Rl W R) (id : Int) (q : Qos) (ha : W.l.Pairwise fun a b => a.q < b.q) : prnR id q R = prn id q W := by
  unfold prnR Go.Proofs.YtofcadbfjbefkaaGreat.prn
  rw [h.l]
  split
  · exact (prn_fold h.nd _ _ ha).symm
  · rfl
structure Inv (id : Int) (n : Nat) (W : Ws) (R : Rw) : Prop where
  rl : Rl W R
  ok : WOk W
  la : 0 ≤ W.la ∧ W.la ≤ n
  len : W.l.length ≤ n
  smp : ∀ s ∈ W.l, s.w = id ∧ (1 ≤ s.q ∧ s.q ≤ W.la) ∧ 0 ≤ s.t ∧ s.t ≤ 1099511627776
  asc : W.l.Pairwise fun a b => a.q < b.q
  pr : ∀ y p, W.D y = some p → PrOk W.la p ∧ p.rq.Nodup ∧ ∀ j ∈ p.rq, p.st ≤ j ∧ j ≤ p.se
  rq : ∀ y p, R.D y = some p → p.rq.length ≤ 32 * n
  num : ∀ i, i < W.M.length → (W.M.getD i default).2 ≤ 5
theorem new_sub {q : Qos} {l : List Smp} {x : Smp} : ∃ m, m.Sublist l ∧ (newS q l x = l ∨ (addE q l x = 0 ∧ newS q l x = m ++ [x])) := by
  unfold newS
  by_cases h : addE q l x = 0
  · rw [if_pos h]
    unfold addL
    split
    · exact ⟨l, List.Sublist.refl _, .inr ⟨h, rfl⟩⟩
    · exact ⟨_, List.eraseIdx_sublist _ _, .inr ⟨h, rfl⟩⟩
  · rw [if_neg h]
    exact ⟨l, List.Sublist.refl _, .inl rfl⟩
theorem PrOk.mono {la la' : Int} {p : Pr} (h : PrOk la p) (hl : la ≤ la') : PrOk la' p :=
  ⟨⟨h.st.1, by have := h.st.2; omega⟩, h.ac, ⟨h.se.1, by have := h.se.2; omega⟩, h.rq⟩
theorem Inv.write {id : Int} {n : Nat} {W : Ws} {R : Rw} (h : Inv id n W R) (q : Qos) (at' : Int) (p : ByteArray) :
    wrEr id q R at' p = wrE id q W at' p ∧ wrNr id q R at' p = wrN id q W at' p ∧ Inv id (n + 1) (wrW id q W at' p) (wrRr id q R at' p) := by
  have hp := h.rl.prn id q h.asc
  have e1 : wrEr id q R at' p = wrE id q W at' p := by unfold wrEr wrE smpW; rw [hp, h.rl.la]
  have e2 : wrNr id q R at' p = wrN id q W at' p := by unfold wrNr wrN; rw [e1, h.rl.la]
  refine ⟨e1, e2, ?_⟩
  have hla := h.la
  have hs := prn_sub id q W
  have hlaw : W.la ≤ (wrW id q W at' p).la ∧ (wrW id q W at' p).la ≤ W.la + 1 := by
    show W.la ≤ (if wrE id q W at' p = 0 then W.la + 1 else W.la) ∧ (if wrE id q W at' p = 0 then W.la + 1 else W.la) ≤ W.la + 1
    split <;> omega
  obtain ⟨m, hm, hnew⟩ := new_sub (q := q) (l := prn id q W) (x := smpW id W at' p)
  have hle := hm.length_le
  have hle2 := hs.length_le
  have hlen := h.len
  have hmem : ∀ s ∈ m, s ∈ W.l := fun s hs' => hs.subset (hm.subset hs')
  refine ⟨⟨?_, ?_, h.rl.s, h.rl.S, h.rl.D⟩, wrW_ok h.ok id q at' p, by omega, ?_, fun s hs' => ?_, ?_, fun y p' hy => ?_, fun y p' hy => ?_, h.num⟩
  · show newS q (prnR id q R) _ = newS q (prn id q W) _
    rw [hp, h.rl.la]; rfl
  · show (if wrEr id q R at' p = 0 then R.la + 1 else R.la) = (if wrE id q W at' p = 0 then W.la + 1 else W.la)
    rw [e1, h.rl.la]
  · show (newS q (prn id q W) (smpW id W at' p)).length ≤ n + 1
    rcases hnew with e | ⟨_, e⟩ <;> rw [e]
    · omega
    · rw [List.length_append]; show m.length + 1 ≤ _; omega
  · have hs' : s ∈ newS q (prn id q W) (smpW id W at' p) := hs'
    rcases hnew with e | ⟨e0, e⟩ <;> rw [e] at hs'
    · have := h.smp s (hs.subset hs')
      exact ⟨this.1, ⟨this.2.1.1, by omega⟩, this.2.2⟩
    · rcases List.mem_append.1 hs' with hs' | hs'
      · have := h.smp s (hmem s hs')
        exact ⟨this.1, ⟨this.2.1.1, by omega⟩, this.2.2⟩
      · rw [List.mem_singleton.1 hs']
        have e3 : (wrW id q W at' p).la = W.la + 1 := if_pos e0
        refine ⟨rfl, ⟨show 1 ≤ W.la + 1 by omega, by rw [e3]; exact Int.le_refl _⟩, ?_⟩
        show 0 ≤ at' ∧ at' ≤ 1099511627776
        unfold addE smpW at e0
        split at e0
        · omega
        · rename_i hh
          have hh : ¬ (id < 1 ∨ W.la + 1 < 1 ∨ at' < 0 ∨ 1099511627776 < at') := hh
          omega
  · show (newS q (prn id q W) (smpW id W at' p)).Pairwise _
    rcases hnew with e | ⟨_, e⟩ <;> rw [e]
    · exact h.asc.sublist hs
    · refine List.pairwise_append.2 ⟨h.asc.sublist (hm.trans hs), List.pairwise_singleton _ _, fun a ha b hb => ?_⟩
      rw [List.mem_singleton.1 hb]
      have := (h.smp a (hmem a ha)).2.1.2
      show a.q < W.la + 1
      omega
  · have := h.pr y p' hy
    exact ⟨this.1.mono (by omega), this.2⟩
  · have := h.rq y p' hy
    omega
end Go.Proofs.YtofcadbfjbefkaaGreat


namespace Go.Proofs.YtofcadbfjbefkaaGreat
open Go.X
set_option linter.unusedVariables false
/-! ### Acked, Next -/
theorem Rl.acked {W : Ws} {R : Rw} (h : Rl W R) (r : Int) : R.W.acked r = W.acked r := by
  have := h.get r
  unfold Ws.acked
  cases h1 : W.get r with
  | none =>
    cases h2 : R.W.get r with
    | none => rfl
    | some p' => rw [h1, h2] at this; exact this.elim
  | some p =>
    cases h2 : R.W.get r with
    | none => rw [h1, h2] at this; exact this.elim
    | some p' =>
      rw [h1, h2] at this
      obtain ⟨rq, rfl, _⟩ := this
      rfl
theorem Rl.cnd {W : Ws} {R : Rw} (h : Rl W R) (x : Nat) : cand R.W x = cand W x := by
  have h1 := h.D x
  have e1 : cand R.W x = match R.D x with | some p => if p.rel = true ∧ p.ac < R.la then some p.bt else none | none => none := rfl
  rw [e1, h.la]
  unfold cand
  cases h2 : W.D x with
  | none =>
    cases h3 : R.D x with
    | none => rfl
    | some p' => rw [h2, h3] at h1; exact h1.elim
  | some p =>
    cases h3 : R.D x with
    | none => rw [h2, h3] at h1; exact h1.elim
    | some p' =>
      rw [h2, h3] at h1
      obtain ⟨rq, rfl, _⟩ := h1
      rfl
theorem Rl.next {W : Ws} {R : Rw} (h : Rl W R) {b b' : Int} {is is' : Bool} (h1 : IsNx W (· < W.M.length) b is) (h2 : IsNy R R.S.length b' is') : b = b' ∧ is = is' := by
  have to : ∀ i, i < W.M.length → ∃ j, j < R.S.length ∧ cand R.W (R.S.getD j default) = cand W (W.M.getD i default).2.toNat := fun i hi => by
    obtain ⟨j, hj, e⟩ := List.mem_iff_getElem.1 ((h.S _).2 (mem_num.2 ⟨i, hi, rfl⟩))
    exact ⟨j, hj, by rw [getD_at hj, e, h.cnd]⟩
  have fro : ∀ j, j < R.S.length → ∃ i, i < W.M.length ∧ cand R.W (R.S.getD j default) = cand W (W.M.getD i default).2.toNat := fun j hj => by
    obtain ⟨i, hi, e⟩ := mem_num.1 ((h.S (R.S.getD j default)).1 (by rw [getD_at hj]; exact List.getElem_mem _))
    exact ⟨i, hi, by rw [e, h.cnd]⟩
  rcases h1 with ⟨a1, a2, a3⟩ | ⟨a1, ⟨i, hi, a2⟩, a3⟩ <;> rcases h2 with ⟨b1, b2, b3⟩ | ⟨b1, ⟨j, hj, b2⟩, b3⟩
  · exact ⟨a2.trans b2.symm, a1.trans b1.symm⟩
  · exfalso
    obtain ⟨i, hi, e⟩ := fro j hj
    rw [b2, a3 i hi] at e
    cases e
  · exfalso
    obtain ⟨j, hj, e⟩ := to i hi
    rw [a2, b3 j hj] at e
    cases e
  · refine ⟨?_, a1.trans b1.symm⟩
    obtain ⟨j', hj', e⟩ := to i hi
    obtain ⟨i', hi', e'⟩ := fro j hj
    rw [a2] at e
    rw [b2] at e'
    have c1 := b3 j' b hj' e
    have c2 := a3 i' b' hi' e'.symm
    omega
/-! ### Match -/
theorem Rl.len {W : Ws} {R : Rw} (h : Rl W R) (hW : WOk W) : R.S.length = W.M.length := by
  rw [h.eq hW]
  unfold srtN numW
  rw [List.length_mergeSort, List.length_map]
theorem Rl.mtE {W : Ws} {R : Rw} (h : Rl W R) (hW : WOk W) (q : Qos) (r nd at' : Int) (q2 : Qos) : maE q r nd at' q2 R.W = maE q r nd at' q2 W := by
  unfold maE
  rw [← (h.get r).is, rw_len, h.len hW]
theorem newP_eq {W : Ws} {R : Rw} (h : Rl W R) (q q2 : Qos) (nd at' : Int) : newP q q2 R.W nd at' = newP q q2 W nd at' := by
  have e : staF q q2 R.W = staF q q2 W := by
    unfold staF
    show (if _ then R.l.foldl _ (R.la + 1) else R.la + 1) = _
    rw [h.l, h.la]
  unfold newP
  rw [e]
theorem ins_asc {R : Rw} {r : Int} {p : Pr} (hs : R.S.Pairwise (· < ·)) (hr : 1 ≤ r) (hno : r.toNat ∉ R.S) : (insR R r p).S.Pairwise (· < ·) := by
  rw [List.pairwise_iff_getElem]
  intro i j hi hj hij
  have hl : (insR R r p).S.length = R.S.length + 1 := ins_len
  have h1 := ins_at (R := R) (r := r) (p := p) i (by omega)
  have h2 := ins_at (R := R) (r := r) (p := p) j (by omega)
  rw [getD_at hi] at h1
  rw [getD_at hj] at h2
  have hpl := pos_le R r
  have lo : ∀ k, k < posS R r → k < R.S.length → R.S.getD k default < r.toNat := fun k hk hk2 => by
    have h3 := pos_lt hk hk2
    have h4 : R.S.getD k default ≠ r.toNat := fun e => hno (by rw [← e, getD_at hk2]; exact List.getElem_mem _)
    omega
  have up : ∀ a b, a < b → b < R.S.length → R.S.getD a default < R.S.getD b default := fun a b hab hb => by
    rw [getD_at (show a < R.S.length by omega), getD_at hb]
    exact List.pairwise_iff_getElem.1 hs a b (by omega) hb hab
  have hi' : ∀ k, posS R r ≤ k → k < R.S.length → r.toNat < R.S.getD k default := fun k hk hk2 => by
    have h3 := pos_at (R := R) (r := r) (by omega)
    rcases (by omega : posS R r = k ∨ posS R r < k) with e | e
    · rw [← e]; omega
    · have := up _ _ e hk2; omega
  rw [h1, h2]
  by_cases a1 : i < posS R r
  · rw [if_pos a1]
    by_cases b1 : j < posS R r
    · rw [if_pos b1]; exact up _ _ hij (by omega)
    · rw [if_neg b1]
      by_cases b2 : j = posS R r
      · rw [if_pos b2]; exact lo i a1 (by omega)
      · rw [if_neg b2]; exact up _ _ (by omega) (by omega)
  · rw [if_neg a1, if_neg (show ¬ j < posS R r by omega), if_neg (show ¬ j = posS R r by omega)]
    by_cases a2 : i = posS R r
    · rw [if_pos a2]; exact hi' _ (by omega) (by omega)
    · rw [if_neg a2]; exact up _ _ (by omega) (by omega)
theorem Inv.mt {id : Int} {n : Nat} {W : Ws} {R : Rw} (h : Inv id n W R) (q : Qos) (r nd at' : Int) (q2 : Qos) (hr5 : r ≤ 5) (hn1 : n ≤ 1000000) :
    Inv id (n + 1) (maW q r nd at' q2 W) (maRr q r nd at' q2 R) := by
  have hE := h.rl.mtE h.ok q r nd at' q2
  have hP := newP_eq h.rl q q2 nd at'
  have hok := maW_ok h.ok q r nd at' q2
  unfold maW maRr at *
  rw [hE]
  by_cases he : maE q r nd at' q2 W = 0
  rotate_left 1
  · rw [if_neg he, if_neg he]
    exact ⟨h.rl, h.ok, ⟨h.la.1, by have := h.la.2; omega⟩, by have := h.len; omega, h.smp, h.asc, h.pr, fun y p hy => by have := h.rq y p hy; omega, h.num⟩
  rw [if_pos he] at hok
  rw [if_pos he, if_pos he, hP]
  have hr : 1 ≤ r := by
    unfold maE at he
    split at he
    · omega
    · omega
  have hn : W.get r = none := by
    unfold maE at he
    repeat' split at he
    all_goals first | omega | skip
    rename_i h1 _
    cases hg : W.get r with
    | none => rfl
    | some p => rw [hg] at h1; exact absurd rfl h1
  have hDn : W.D r.toNat = none := by unfold Ws.get at hn; rwa [if_pos hr] at hn
  have hno : r.toNat ∉ R.S := fun hm => by
    obtain ⟨i, hi, e⟩ := mem_num.1 ((h.rl.S _).1 hm)
    obtain ⟨_, p, hp⟩ := h.ok.a i hi
    rw [e, hDn] at hp; cases hp
  have hst : 1 ≤ staF q q2 W ∧ staF q q2 W ≤ W.la + 1 := by
    have h1 := h.la
    unfold staF
    split
    · exact sta_min _ _ (fun s hs => (h.smp s hs).2.1.1) (by omega)
    · omega
  have hD : ∀ y, (addPW W r (newP q q2 W nd at')).D y = if y = r.toNat then some (newP q q2 W nd at') else W.D y := fun y => rfl
  have hD2 : ∀ y, (insR R r (newP q q2 W nd at')).D y = if y = r.toNat then some (newP q q2 W nd at') else R.D y := fun y => rfl
  refine ⟨⟨h.rl.l, h.rl.la, ins_asc h.rl.s hr hno, fun x => ?_, fun y => ?_⟩, hok, ⟨h.la.1, by have := h.la.2; show W.la ≤ _; omega⟩, by have := h.len; show W.l.length ≤ _; omega, h.smp, h.asc, fun y p hy => ?_, fun y p hy => ?_, fun i hi => ?_⟩
  · show x ∈ R.S.insertIdx (posS R r) r.toNat ↔ _
    rw [List.mem_insertIdx (pos_le R r), h.rl.S]
    unfold numW addPW
    simp only [List.map_append, List.map_cons, List.map_nil, List.mem_append, List.mem_singleton]
    exact Or.comm
  · rw [hD, hD2]
    split
    · exact PR.refl _
    · exact h.rl.D y
  · rw [hD] at hy
    split at hy
    · have hla := h.la
      have : newP q q2 W nd at' = p := Option.some.inj hy
      subst this
      refine ⟨⟨hst, ?_, ?_, Nat.zero_le _⟩, List.nodup_nil, fun j hj => by cases hj⟩
      · show 0 ≤ staF q q2 W - 1 ∧ staF q q2 W - 1 ≤ 1099511627777
        omega
      · show 0 ≤ staF q q2 W - 1 ∧ staF q q2 W - 1 ≤ W.la
        omega
    · exact h.pr y p hy
  · rw [hD2] at hy
    split at hy
    · have : newP q q2 W nd at' = p := Option.some.inj hy
      subst this
      exact Nat.zero_le _
    · have := h.rq y p hy; omega
  · rw [addPW_len] at hi
    rcases (by omega : i < W.M.length ∨ i = W.M.length) with hi | rfl
    · rw [addPW_lt hi]; exact h.num i hi
    · rw [addPW_eq]; exact hr5
/-! ### Unmatch -/
theorem un_num {W : Ws} {r : Int} (hW : WOk W) {x : Nat} (hg : (W.get r).isSome = true) : x ∈ numW (unW r W) ↔ x ∈ numW W ∧ x ≠ r.toNat := by
  have hr : 1 ≤ r := by
    unfold Ws.get at hg
    split at hg
    · assumption
    · cases hg
  have e : (unW r W).M = W.M.filter fun e => decide (e.2 ≠ r) := by unfold unW; rw [if_pos hg]
  unfold numW
  rw [e, List.mem_map, List.mem_map]
  constructor
  · rintro ⟨a, ha, rfl⟩
    have h2 := List.mem_filter.1 ha
    have h3 := of_decide_eq_true h2.2
    refine ⟨⟨a, h2.1, rfl⟩, fun h => ?_⟩
    obtain ⟨i, hi, rfl⟩ := List.mem_iff_getElem.1 h2.1
    have := (hW.a i hi).1
    rw [getD_at hi] at this
    omega
  · rintro ⟨⟨a, ha, rfl⟩, hne⟩
    refine ⟨a, List.mem_filter.2 ⟨ha, decide_eq_true fun h => hne (by rw [h])⟩, rfl⟩
theorem Inv.un {id : Int} {n : Nat} {W : Ws} {R : Rw} (h : Inv id n W R) (r : Int) : unEr r R = unE r W ∧ Inv id (n + 1) (unW r W) (unRr r R) := by
  have hg := (h.rl.get r).is
  have hok := unW_ok h.ok r
  refine ⟨by unfold unEr unE; rw [hg], ?_⟩
  have hla := h.la
  have hlen := h.len
  cases hs : (W.get r).isSome with
  | false =>
    have e1 : unW r W = W := by unfold unW; rw [if_neg (by rw [hs]; decide)]
    have e2 : unRr r R = R := by unfold unRr; rw [if_neg (by rw [← hg, hs]; decide)]
    rw [e1, e2]
    exact ⟨h.rl, h.ok, ⟨hla.1, by omega⟩, by omega, h.smp, h.asc, h.pr, fun y p hy => by have := h.rq y p hy; omega, h.num⟩
  | true =>
    have hs2 : (R.W.get r).isSome = true := by rw [← hg, hs]
    have e1 : unW r W = ⟨W.l, W.la, W.M.filter fun e => decide (e.2 ≠ r), W.ck, fun y => if y = r.toNat then none else W.D y⟩ := by unfold unW; rw [if_pos hs]
    have e2 : unRr r R = ⟨R.l, R.la, R.S.filter fun x : Nat => decide ((x : Int) ≠ r), fun y => if y = r.toNat then none else R.D y⟩ := by unfold unRr; rw [if_pos hs2]
    have hr : 1 ≤ r := by
      unfold Ws.get at hs
      split at hs
      · assumption
      · cases hs
    have hnum := fun x => un_num (x := x) h.ok hs
    rw [e1] at hok hnum ⊢
    rw [e2]
    refine ⟨⟨h.rl.l, h.rl.la, h.rl.s.filter _, fun x => ?_, fun y => ?_⟩, hok, ⟨hla.1, by show W.la ≤ _; omega⟩, by show W.l.length ≤ _; omega, h.smp, h.asc, fun y p hy => ?_, fun y p hy => ?_, fun i hi => ?_⟩
    · rw [hnum]
      show x ∈ R.S.filter _ ↔ _
      rw [List.mem_filter, h.rl.S, decide_eq_true_iff]
      exact and_congr_right fun _ => ⟨fun h1 h2 => h1 (by omega), fun h1 h2 => h1 (by omega)⟩
    · show PRo (if _ then _ else _) (if _ then _ else _)
      split
      · trivial
      · exact h.rl.D y
    · have hy : (if y = r.toNat then none else W.D y) = some p := hy
      split at hy
      · cases hy
      · exact h.pr y p hy
    · have hy : (if y = r.toNat then none else R.D y) = some p := hy
      split at hy
      · cases hy
      · have := h.rq y p hy; omega
    · have hi : i < (W.M.filter fun e => decide (e.2 ≠ r)).length := hi
      show ((W.M.filter fun e => decide (e.2 ≠ r)).getD i default).2 ≤ 5
      rw [getD_at hi]
      obtain ⟨j, hj, e⟩ := List.mem_iff_getElem.1 (List.mem_filter.1 (List.getElem_mem hi)).1
      rw [← e, ← getD_at (l := W.M) hj]
      exact h.num j hj
/-! ### Ack -/
theorem Rl.akE {W : Ws} {R : Rw} (h : Rl W R) (id : Int) (x : Pk) : akE id x R.W = akE id x W := by
  unfold Go.Proofs.YtofcadbfjbefkaaGreat.akE
  rw [← (h.get x.r).is]
  show (if chk x ≠ 0 ∨ x.k ≠ 3 ∨ x.w ≠ id ∨ R.la + 1 < x.f then _ else if ∃ n ∈ x.m, R.la < n then _ else _) = _
  rw [h.la]
theorem ak_step {p p' : Pr} (h : PR p p') (n : Int) : PR (akS p n) (akSR p' n) := by
  obtain ⟨rq, rfl, hm⟩ := h
  unfold akS akSR
  by_cases h1 : n < p.st
  · rw [if_pos h1, if_pos h1]
    exact ⟨rq, rfl, hm⟩
  · rw [if_neg h1, if_neg h1]
    by_cases h2 : n ≤ p.se
    · rw [if_pos (show n ≤ (⟨p.nd, p.rel, p.st, p.ac, p.se, rq, p.bg, p.bt⟩ : Pr).se from h2)]
      by_cases h3 : n ∈ p.rq
      · rw [if_neg (fun h => h.2 h3)]
        refine ⟨rq ++ [n], rfl, fun j => ?_⟩
        rw [List.mem_append, List.mem_singleton, hm]
        exact ⟨fun h => h.elim (fun h => h) (fun h => h ▸ h3), .inl⟩
      · rw [if_pos ⟨h2, h3⟩]
        refine ⟨rq ++ [n], rfl, fun j => ?_⟩
        rw [List.mem_append, List.mem_append, hm]
    · rw [if_neg (fun h => h2 h.1), if_neg (show ¬ n ≤ (⟨p.nd, p.rel, p.st, p.ac, p.se, rq, p.bg, p.bt⟩ : Pr).se from h2)]
      exact ⟨rq, rfl, hm⟩
theorem ak_fold : ∀ (m : List Int) {p p' : Pr}, PR p p' → PR (m.foldl akS p) (m.foldl akSR p')
  | [], _, _, h => h
  | n :: m, _, _, h => ak_fold m (ak_step h n)
/-- What Ack keeps of a reader. -/
structure AkI (p a : Pr) : Prop where
  st : a.st = p.st
  ac : a.ac = p.ac
  se : a.se = p.se
  nd : a.rq.Nodup
  rg : ∀ j ∈ a.rq, p.st ≤ j ∧ j ≤ p.se
theorem ak_inv {p : Pr} : ∀ (m : List Int) {a : Pr}, AkI p a → AkI p (m.foldl akS a) ∧ (m.foldl akS a).rq.length ≤ a.rq.length + m.length
  | [], _, h => ⟨h, Nat.le_refl _⟩
  | n :: m, a, h => by
    have h2 : AkI p (akS a n) ∧ (akS a n).rq.length ≤ a.rq.length + 1 := by
      unfold akS
      split
      · exact ⟨⟨h.st, h.ac, h.se, h.nd, h.rg⟩, Nat.le_succ _⟩
      · split
        · rename_i h3 h4
          refine ⟨⟨h.st, h.ac, h.se, ?_, fun j hj => ?_⟩, by simp⟩
          · exact List.nodup_append.2 ⟨h.nd, by simp, fun a ha b hb e => h4.2 (by rw [List.mem_singleton.1 hb] at e; exact e ▸ ha)⟩
          · rcases List.mem_append.1 hj with hj | hj
            · exact h.rg j hj
            · rw [List.mem_singleton.1 hj, ← h.st, ← h.se]
              exact ⟨by omega, h4.1⟩
        · exact ⟨h, Nat.le_succ _⟩
    have h3 := ak_inv m h2.1
    refine ⟨h3.1, Nat.le_trans h3.2 ?_⟩
    have := h2.2
    show (akS a n).rq.length + m.length ≤ a.rq.length + (m.length + 1)
    omega
end Go.Proofs.YtofcadbfjbefkaaGreat


namespace Go.Proofs.YtofcadbfjbefkaaGreat
open Go.X
set_option linter.unusedVariables false
theorem rq_len {l : List Int} {n : Nat} (h : l.Nodup) (hb : ∀ j ∈ l, 1 ≤ j ∧ j ≤ n) : l.length ≤ n + 1 := by
  have := nodup_leN (n + 1) (l.map Int.toNat) (by
    rw [List.nodup_iff_pairwise_ne, List.pairwise_map]
    refine (List.nodup_iff_pairwise_ne.1 h).imp_of_mem fun ha hb' hne e => ?_
    have h1 := hb _ ha
    have h2 := hb _ hb'
    omega) (fun k hk => by
    obtain ⟨j, hj, rfl⟩ := List.mem_map.1 hk
    have := hb j hj
    omega)
  rwa [List.length_map] at this
theorem Inv.up {id : Int} {n : Nat} {W : Ws} {R : Rw} (h : Inv id n W R) : Inv id (n + 1) W R :=
  ⟨h.rl, h.ok, ⟨h.la.1, by have := h.la.2; omega⟩, by have := h.len; omega, h.smp, h.asc, h.pr, fun y p hy => by have := h.rq y p hy; omega, h.num⟩
theorem Inv.ak {id : Int} {n : Nat} {W : Ws} {R : Rw} (h : Inv id n W R) (x : Pk) (hn1 : n ≤ 90000) : akE id x R.W = akE id x W ∧ Inv id (n + 1) (akW id x W) (akRr id x R) := by
  have hE := h.rl.akE id x
  refine ⟨hE, ?_⟩
  unfold akW akRr
  rw [hE]
  by_cases he : akE id x W = 0
  rotate_left 1
  · rw [if_neg he, if_neg he]; exact h.up
  rw [if_pos he, if_pos he]
  have hg := h.rl.get x.r
  have hA : ¬ (chk x ≠ 0 ∨ x.k ≠ 3 ∨ x.w ≠ id ∨ W.la + 1 < x.f) := fun hA => by
    unfold akE at he
    rw [if_pos hA] at he
    cases he
  have hk0 : chk x = 0 := by
    refine Decidable.byContradiction fun hc => hA (.inl hc)
  have hk3 : x.k = 3 := Decidable.byContradiction fun hc => hA (.inr (.inl hc))
  have hf1 : x.f ≤ W.la + 1 := by
    rcases Int.lt_or_le (W.la + 1) x.f with hc | hc
    · exact absurd (.inr (.inr (.inr hc))) hA
    · exact hc
  have hf := chk_f hk0 hk3
  have hm := chk_m hk0
  cases h1 : W.get x.r with
  | none =>
    cases h2 : R.W.get x.r with
    | none => exact h.up
    | some p' => rw [h1, h2] at hg; exact hg.elim
  | some p =>
    cases h2 : R.W.get x.r with
    | none => rw [h1, h2] at hg; exact hg.elim
    | some p' =>
      rw [h1, h2] at hg
      have hr : 1 ≤ x.r := by
        unfold Ws.get at h1
        split at h1
        · assumption
        · cases h1
      have hD : W.D x.r.toNat = some p := by unfold Ws.get at h1; rwa [if_pos hr] at h1
      have hD2 : R.D x.r.toNat = some p' := by
        have h2' : R.W.get x.r = R.D x.r.toNat := by unfold Ws.get; rw [if_pos hr]; rfl
        rw [← h2', h2]
      obtain ⟨hp1, hp2, hp3⟩ := h.pr _ p hD
      have hla := h.la
      have hlen := h.len
      have hrq := h.rq _ p' hD2
      have hrel : p'.rel = p.rel := by obtain ⟨rq, rfl, _⟩ := hg; rfl
      have hPR : PR (akP x p) (akPR x p') := by
        unfold akP akPR
        rw [hrel]
        split
        · exact hg
        · refine ak_fold x.m ?_
          obtain ⟨rq, rfl, hm⟩ := hg
          exact ⟨rq, rfl, hm⟩
      have hI : PrOk W.la (akP x p) ∧ (akP x p).rq.Nodup ∧ ∀ j ∈ (akP x p).rq, (akP x p).st ≤ j ∧ j ≤ (akP x p).se := by
        unfold akP
        split
        · exact ⟨hp1, hp2, hp3⟩
        · have ha : AkI (akC p x.f) (akC p x.f) := ⟨rfl, rfl, rfl, hp2, hp3⟩
          obtain ⟨h3, h4⟩ := ak_inv x.m ha
          have hst := hp1.st
          have hac := hp1.ac
          have hse := hp1.se
          have e1 : (x.m.foldl akS (akC p x.f)).st = p.st := h3.st
          have e2 : (x.m.foldl akS (akC p x.f)).se = p.se := h3.se
          have e3 : (x.m.foldl akS (akC p x.f)).ac = max p.ac (x.f - 1) := h3.ac
          have hin : ∀ j ∈ (x.m.foldl akS (akC p x.f)).rq, p.st ≤ j ∧ j ≤ p.se := h3.rg
          refine ⟨⟨by rw [e1]; exact hst, by rw [e3]; omega, by rw [e2]; exact hse, ?_⟩, h3.nd, fun j hj => by rw [e1, e2]; exact hin j hj⟩
          have := rq_len (n := n) h3.nd fun j hj => by have := hin j hj; omega
          omega
      have hrq2 : (akPR x p').rq.length ≤ 32 * (n + 1) := by
        unfold akPR
        split
        · omega
        · have := akR_len x.m p' x.f x.m.length
          rw [List.take_length] at this
          omega
      refine ⟨⟨h.rl.l, h.rl.la, h.rl.s, h.rl.S, fun y => ?_⟩, setP_ok h.ok hD, ⟨hla.1, by show W.la ≤ _; omega⟩, by show W.l.length ≤ _; omega, h.smp, h.asc, fun y a hy => ?_, fun y a hy => ?_, h.num⟩
      · show PRo (if y = x.r.toNat then some (akP x p) else W.D y) (if y = x.r.toNat then some (akPR x p') else R.D y)
        split
        · exact hPR
        · exact h.rl.D y
      · have hy : (if y = x.r.toNat then some (akP x p) else W.D y) = some a := hy
        split at hy
        · rw [← Option.some.inj hy]; exact hI
        · exact h.pr y a hy
      · have hy : (if y = x.r.toNat then some (akPR x p') else R.D y) = some a := hy
        split at hy
        · rw [← Option.some.inj hy]; exact hrq2
        · have := h.rq y a hy; omega
/-! ### Poll -/
theorem fm_filter (c : Int → Prop) [DecidablePred c] (f : Nat → Int) (g : Int → Pk) : ∀ L : List Nat, (L.flatMap fun i => if c (f i) then [g (f i)] else []) = ((L.map f).filter fun j => decide (c j)).map g
  | [] => rfl
  | i :: L => by
    rw [List.flatMap_cons, fm_filter c f g L, List.map_cons]
    by_cases h : c (f i)
    · rw [if_pos h, List.filter_cons_of_pos (p := fun j => decide (c j)) (by simpa using h)]; rfl
    · rw [if_neg h, List.filter_cons_of_neg (p := fun j => decide (c j)) (by simpa using h)]; rfl
theorem datR_true (id : Int) (l : List Smp) (X : Nat) (p : Pr) (at' n : Int) : datR id l X p at' n true = [dat id l X p at' n] := by
  unfold datR dat
  split
  · rfl
  · rfl
theorem polA_eq {p p' : Pr} (h : PR p p') (hnd : p.rq.Nodup) (hin : ∀ j ∈ p.rq, p.st ≤ j ∧ j ≤ p.se) (id : Int) (l : List Smp) (X : Nat) (at' : Int) :
    polA id l X p' at' (nA p') = polR id l X p at' p.rq.length := by
  obtain ⟨rq, rfl, hm⟩ := h
  have hs : (((List.range (nA p)).map fun i : Nat => p.st + (i : Int)).filter fun j => decide (j ∈ rq)) = srtI p.rq := by
    refine asc_uniqueI (List.Pairwise.filter _ (List.pairwise_map.2 (List.pairwise_lt_range.imp fun h => by omega))) (srtI_asc hnd) fun x => ?_
    rw [List.mem_filter, List.mem_map, decide_eq_true_iff, hm]
    show _ ↔ x ∈ p.rq.mergeSort _
    rw [List.mem_mergeSort]
    refine ⟨fun h => h.2, fun hx => ⟨⟨(x - p.st).toNat, ?_, ?_⟩, hx⟩⟩
    · have := hin x hx
      rw [List.mem_range]
      unfold nA
      omega
    · have := hin x hx
      omega
  have h1 := fm_filter (fun j => j ∈ rq) (fun i : Nat => p.st + (i : Int)) (dat id l X p at') (List.range (nA p))
  rw [hs] at h1
  unfold polR
  rw [show (srtI p.rq).take p.rq.length = srtI p.rq by rw [← srt_len, List.take_length], ← h1]
  unfold polA polA1
  refine congrArg (fun f => (List.range (nA p)).flatMap f) (funext fun i => ?_)
  rw [datR_true]
  rfl
theorem polL_eq {p p' : Pr} (h : PR p p') (hnd : p.rq.Nodup) (hin : ∀ j ∈ p.rq, p.st ≤ j ∧ j ≤ p.se) (id : Int) (l : List Smp) (X : Nat) (la at' : Int) :
    polLr id l X p' la at' = polL id l X p la at' := by
  unfold polLr polL
  rw [polA_eq h hnd hin]
  obtain ⟨rq, rfl, hm⟩ := h
  rfl
theorem polF_eq {D D' : Nat → Option Pr} {id : Int} {l : List Smp} {la at' : Int} (hD : ∀ y, PRo (D y) (D' y)) (hp : ∀ y p, D y = some p → p.rq.Nodup ∧ ∀ j ∈ p.rq, p.st ≤ j ∧ j ≤ p.se) (L : List Nat) :
    polFr id l la at' D' L = polF id l la at' D L := by
  unfold polFr polF
  refine congrArg (fun f => L.flatMap f) (funext fun x => ?_)
  unfold polFr1 polF1
  have := hD x
  cases h1 : D x with
  | none =>
    cases h2 : D' x with
    | none => rfl
    | some p' => rw [h1, h2] at this; exact this.elim
  | some p =>
    cases h2 : D' x with
    | none => rw [h1, h2] at this; exact this.elim
    | some p' =>
      rw [h1, h2] at this
      exact polL_eq this (hp x p h1).1 (hp x p h1).2 id l x la at'
theorem Inv.po {id : Int} {n : Nat} {W : Ws} {R : Rw} (h : Inv id n W R) (per : Int) (q : Qos) (at' : Int) :
    poLr id q at' R = poL id q at' W ∧ Inv id (n + 1) (poW per q at' W) (poRr per q at' R) := by
  have hok := poW_ok h.ok per q at'
  have hS := h.rl.eq h.ok
  unfold poLr poL
  unfold poW at hok ⊢
  unfold poRr
  by_cases ha : atOk at'
  rotate_left 1
  · rw [if_neg ha, if_neg ha, if_neg ha, if_neg ha]
    exact ⟨rfl, h.up⟩
  rw [if_pos ha] at hok
  rw [if_pos ha, if_pos ha, if_pos ha, if_pos ha, h.rl.l, h.rl.la, ← hS]
  rw [← hS] at hok
  have hla := h.la
  have hlen := h.len
  have hsub : (stay q W.l at').Sublist W.l := List.filter_sublist
  have hsl := hsub.length_le
  refine ⟨polF_eq h.rl.D (fun y p hy => (h.pr y p hy).2) R.S, ⟨rfl, rfl, h.rl.s, h.rl.S, fun y => ?_⟩, hok, ⟨hla.1, by show W.la ≤ _; omega⟩, by show (stay q W.l at').length ≤ _; omega, fun s hs => h.smp s (hsub.subset hs), h.asc.sublist hsub, fun y p hy => ?_, fun y p hy => ?_, h.num⟩
  · show PRo (if y ∈ R.S then _ else _) (if y ∈ R.S then _ else _)
    split
    · have := h.rl.D y
      cases h1 : W.D y with
      | none =>
        cases h2 : R.D y with
        | none => trivial
        | some p' => rw [h1, h2] at this; exact this.elim
      | some p =>
        cases h2 : R.D y with
        | none => rw [h1, h2] at this; exact this.elim
        | some p' =>
          rw [h1, h2] at this
          obtain ⟨rq, rfl, _⟩ := this
          exact PR.refl _
    · exact h.rl.D y
  · have hy : (if y ∈ R.S then (W.D y).map fun p => polP per p W.la at' else W.D y) = some p := hy
    split at hy
    · obtain ⟨p0, h0, rfl⟩ := Option.map_eq_some_iff.1 hy
      obtain ⟨hp, _⟩ := h.pr y p0 h0
      exact ⟨⟨hp.st, hp.ac, ⟨hla.1, Int.le_refl _⟩, Nat.zero_le _⟩, List.nodup_nil, fun j hj => by cases hj⟩
    · exact h.pr y p hy
  · have hy : (if y ∈ R.S then (R.D y).map fun p => polP per p W.la at' else R.D y) = some p := hy
    split at hy
    · obtain ⟨p0, h0, rfl⟩ := Option.map_eq_some_iff.1 hy
      exact Nat.zero_le _
    · have := h.rq y p hy; omega
theorem Inv.new (id : Int) : Inv id 0 W0 R0 := by
  refine ⟨⟨rfl, rfl, List.Pairwise.nil, fun x => Iff.rfl, fun y => trivial⟩, W0_ok, ⟨Int.le_refl _, Int.le_refl _⟩, Nat.le_refl _, fun s hs => (by cases hs), List.Pairwise.nil, fun y p hy => (by cases hy), fun y p hy => (by cases hy), fun i hi => absurd hi (Nat.not_lt_zero i)⟩
theorem Inv.M {id : Int} {n : Nat} {W : Ws} {R : Rw} (h : Inv id n W R) : W.M.length ≤ 6 ∧ R.S.length ≤ 6 := by
  have h1 : W.M.length ≤ 6 := by
    have := nodup_leN 6 (numW W) (num_nd h.ok) fun k hk => by
      obtain ⟨i, hi, rfl⟩ := mem_num.1 hk
      have := h.num i hi
      omega
    unfold numW at this
    rwa [List.length_map] at this
  exact ⟨h1, by rw [h.rl.len h.ok]; exact h1⟩
end Go.Proofs.YtofcadbfjbefkaaGreat


namespace Go.Proofs.YtofcadbfjbefkaaGreat
open Go.X
set_option linter.unusedSimpArgs false
set_option linter.unusedVariables false
/-- A step. -/
structure Sp where
  (kd rd f : Int) (m : List Int) (cm : Nat) (q : Qos) (s : ByteArray) (lt : Int)
instance : Inhabited Sp := ⟨⟨0, 0, 0, [], 0, ⟨false, false, false, 0, 0, 0, 0⟩, ⟨#[]⟩, 0⟩⟩
def encSp (sl : C) (x : Sp) : List C := [.i .u8 x.kd, .i .u8 x.rd, .i .i64 x.f, sl, .b x.q.rel, .b x.q.dur, .b x.q.keep, .i .i64 x.q.depth, .i .i64 x.q.dead, .i .i64 x.q.life, .i .i64 x.q.lease, .s x.s, .i .u8 x.lt]
abbrev spF (F : Nat) (l : List Sp) (i : Nat) : List C := encSp (.sl F i 1 0 (l.getD i default).m.length (l.getD i default).cm) (l.getD i default)
abbrev spR (F : Nat) (l : List Sp) (c : Nat) : Ck := .row false true 40 13 l.length c (spF F l)
def spG (l : List Sp) (i : Nat) : Ck := if i < l.length then ints false (l.getD i default).m (l.getD i default).cm else .no
theorem spG_rk (σ : List Sg) (N : Nat) (l : List Sp) (i : Nat) : (spG l i).rk σ N = spG l i := by
  unfold spG
  split <;> rfl
theorem spG_le {σ : List Sg} {N N' : Nat} {l : List Sp} {x : Nat} : (spG l x).leK N ((spG l x).rk σ N') True := by
  rw [spG_rk]
  unfold spG
  split
  · exact ⟨rfl, rfl, rfl, rfl, Nat.le_refl _, rfl, fun _ _ => rfl, trivial⟩
  · trivial
theorem spG_bel {n : Nat} {l : List Sp} {x : Nat} : (spG l x).belK n True := by
  unfold spG
  split <;> trivial
theorem spG_belR {σ : List Sg} {n N : Nat} {l : List Sp} {x : Nat} : ((spG l x).rk σ N).belK n True := by rw [spG_rk]; exact spG_bel
theorem sp_bel {n F : Nat} (h : Nat.blt F n = true) (l : List Sp) (i : Nat) : (spF F l i).all (C.belB n) = true := by
  simp [encSp, C.belB, h]
theorem sp_key {σ : List Sg} {N F G : Nat} (h : ∀ x, key σ N F x = (G, x)) (l : List Sp) (i : Nat) : List.map (C.rk σ N) (spF F l i) = spF G l i := by
  unfold spF encSp
  simp [C.rk, h]
theorem xmS {p : Prop} (h : p := by first | exact fun _ => trivial | exact fun x => spG_le | exact fun x => spG_bel | exact fun x => spG_belR | exact fun i hi => (sp_key (fun x => rfl) _ _).symm | exact fun i hi => sp_key (fun x => rfl) _ _ | exact fun i hi => sp_bel rfl _ _ | (intro i hi; dsimp only; rw [sp_key (fun x => rfl)]; exact sp_bel rfl _ _) | fail) : p := h
set_option maxRecDepth 10000 in
theorem clarge (l : List Sp) (c : Nat) (hl : l.length ≤ 9223372036854775807) :
    Ctr Tryz.prog 4 [.c (.sl 0 0 13 0 l.length c)] [.one (spR 1 l c), .one .no]
      fun v h => ∃ b, (b = false → l.length ≤ 60 ∧ ∀ i, i < l.length → (l.getD i default).m.length ≤ 40 ∧ (l.getD i default).s.size ≤ 3000) ∧ v = .c (.b b) ∧ h = [.one (spR 1 l c), .one .no] := by
  refine Ctr.mk' tbv mixed Tryz.func4 rfl rfl rfl (fun _ _ => by kernel_rfl) (by kernel_rfl) (by rfl) (by rfl) (by (repeat' first | refine And.intro ?_ ?_ | exact xeC | fail) <;> exact xmS) ?_
  repeat' (first | (fail_if_success (with_reducible refine xstp ?_)); first | (with_reducible intro hc; (try simp only [capsP, and_true] at hc); (try exact xfC)) | ((fail_if_success (with_reducible first | refine xgon ?_ | intro _)); (conv => whnf); (fail_if_success (fail_if_success (with_reducible first | refine xstp ?_ | refine xgon ?_ | intro _)))))
  refine LoopK.mk' {i : Nat // i ≤ l.length ∧ i ≤ 60 ∧ ∀ j, j < i → (l.getD j default).m.length ≤ 40 ∧ (l.getD j default).s.size ≤ 3000}
    (fun ⟨i, _⟩ => ⟨[(0, .c (.sl 0 0 13 0 l.length c)), (3, .c (.i .i64 (i : Nat)))], [.one (spR 1 l c), .one .no]⟩) (fun k => l.length - k.1)
    ⟨⟨0, Nat.zero_le _, Nat.zero_le _, fun j h => absurd h (Nat.not_lt_zero j)⟩, [0, 1], ?_⟩ ?_
  · (repeat' first | refine And.intro ?_ ?_ | exact xeC | fail)
    all_goals exact xmS
  rintro ⟨i, hi, h60, hno⟩
  have e3 : 0 + ((i : Nat) : Int).toNat = i := by omega
  repeat' (first | (fail_if_success (with_reducible refine xstp ?_)); first | ((with_reducible refine And.intro (fun (hb : _ = true) => ?_) (fun (hb : _ = false) => ?_)) <;> replace hb := xnC hb <;> (try first | exact xfC | exact bff hb (by assumption) | exact bff (by assumption) hb)) | ((with_reducible refine And.intro ?_ ?_); focus exact xoC) | (with_reducible intro hc; (try simp only [capsP, and_true] at hc); (try exact xfC)) | ((fail_if_success (with_reducible first | refine xgon ?_ | intro _)); (conv => whnf); (fail_if_success (fail_if_success (with_reducible first | refine xstp ?_ | refine xgon ?_ | intro _)))))
  · refine FinK.mk ⟨[0, 1], _, _, ⟨true, fun h => (by cases h), rfl, rfl⟩, ?_⟩
    (repeat' first | refine And.intro ?_ ?_ | exact xeC | fail)
    all_goals exact xmS
  · refine FinK.mk ⟨[0, 1], _, _, ⟨true, fun h => (by cases h), rfl, rfl⟩, ?_⟩
    (repeat' first | refine And.intro ?_ ?_ | exact xeC | fail)
    all_goals exact xmS
  · refine ⟨⟨i + 1, by omega, by omega, fun j hj => ?_⟩, [0, 1], by simp only; omega, ?_⟩
    · rcases (by omega : j < i ∨ j = i) with h | rfl
      · exact hno j h
      · exact ⟨by omega, by omega⟩
    · (repeat' first | refine And.intro ?_ ?_ | exact xeC | fail)
      all_goals exact xmS
  all_goals (
    refine FinK.mk ⟨[0, 1], _, _, ⟨decide (60 < (l.length : Int)), fun h => ?_, rfl, rfl⟩, ?_⟩
    · have h2 := of_decide_eq_false h
      exact ⟨by omega, fun j hj => hno j (by omega)⟩
    · (repeat' first | refine And.intro ?_ ?_ | exact xeC | fail)
      all_goals exact xmS
    skip)
theorem rd6 {a : Int} (h : 0 ≤ a ∧ a ≤ 255) : IntKind.i64.wrap (a.tmod 6) = ((a.toNat % 6 : Nat) : Int) := by
  rw [Int.tmod_eq_emod_of_nonneg h.1, wrap_in64 ⟨by omega, by omega⟩]
  omega
def lastM (m : List Int) : Int := m.foldl (fun a n => if a < n then n else a) 0
def ackP (id : Int) (x : Sp) : Pk := ⟨3, 1, 0, id, ((x.rd.toNat % 6 : Nat) : Int), 0, x.f, lastM x.m, 0, x.m, []⟩
set_option maxRecDepth 10000 in
theorem cackP (id : Int) (x : Sp) (hr : 0 ≤ x.rd ∧ x.rd ≤ 255) (hm : x.m.length ≤ 1000000) :
    Ctr Tryz.prog 15 [.c (.i .i64 id), .a (encSp (.sl 0 0 1 0 x.m.length x.cm) x)] [.one (ints false x.m x.cm)]
      fun v h => v = .a (encP (.sl 0 0 1 0 x.m.length x.cm) (ackP id x)) ∧ h = [.one (ints false x.m x.cm)] := by
  have hmod := rd6 hr
  refine Ctr.mk' tbv mixed Tryz.func15 rfl rfl rfl (fun _ _ => by kernel_rfl) (by kernel_rfl) (by rfl) (by rfl) (by (repeat' first | refine And.intro ?_ ?_ | exact xeC | fail)) ?_
  repeat' (first | (fail_if_success (with_reducible refine xstp ?_)); first | (with_reducible intro hc; (try simp only [capsP, and_true] at hc); (try exact xfC)) | ((fail_if_success (with_reducible first | refine xgon ?_ | intro _)); (conv => whnf); (fail_if_success (fail_if_success (with_reducible first | refine xstp ?_ | refine xgon ?_ | intro _)))))
  refine LoopK.mk' {t : Nat × Int // t.1 ≤ x.m.length ∧ t.2 = lastM (x.m.take t.1)}
    (fun ⟨(i, a), _⟩ => ⟨[(0, .c (.i .i64 id)), (3, .c (.p 1 0 0)), (4, .c (.p 2 0 0)), (5, .c (.i .i64 a)), (6, .c (.i .i64 (i : Nat)))], [.one (ints false x.m x.cm), .one (.cells true (encSp (.sl 0 0 1 0 x.m.length x.cm) x)), .one (.cells true (encP .nils ⟨0, 0, 0, 0, 0, 0, 0, 0, 0, [], []⟩))]⟩) (fun k => x.m.length - k.1.1)
    ⟨⟨(0, 0), Nat.zero_le _, rfl⟩, [0, 1, 2], ?_⟩ ?_
  · (repeat' first | refine And.intro ?_ ?_ | exact xeC | fail)
    all_goals first | rfl | skip
    all_goals trace_state
  rintro ⟨⟨i, b⟩, hi, hb1⟩
  simp only at hi hb1
  have e3 : 0 + ((i : Nat) : Int).toNat = i := by omega
  have hs : i < x.m.length → lastM (x.m.take (i + 1)) = if b < x.m.getD i default then x.m.getD i default else b := fun h => by
    unfold lastM at hb1 ⊢
    rw [← List.take_append_getElem h, List.foldl_append, ← hb1, getD_at h]
    rfl
  repeat' (first | (fail_if_success (with_reducible refine xstp ?_)); first | ((with_reducible refine And.intro (fun (hb : _ = true) => ?_) (fun (hb : _ = false) => ?_)) <;> replace hb := xnC hb <;> (try first | exact xfC | exact bff hb (by assumption) | exact bff (by assumption) hb)) | ((with_reducible refine And.intro ?_ ?_); focus exact xoC) | (with_reducible intro hc; (try simp only [capsP, and_true] at hc); (try exact xfC)) | ((fail_if_success (with_reducible first | refine xgon ?_ | intro _)); (conv => whnf); (fail_if_success (fail_if_success (with_reducible first | refine xstp ?_ | refine xgon ?_ | intro _)))))
  · refine ⟨⟨(i + 1, x.m.getD i default), by simp only; omega, ?_⟩, [0, 1, 2], by simp only; omega, ?_⟩
    · simp only
      rw [hs (by omega), if_pos (by assumption)]
    · (repeat' first | refine And.intro ?_ ?_ | exact xeC | fail)
      all_goals first | (simp only [Int.toNat_natCast, Nat.zero_add]; done) | skip
      all_goals trace_state
  · refine ⟨⟨(i + 1, b), by simp only; omega, ?_⟩, [0, 1, 2], by simp only; omega, ?_⟩
    · simp only
      rw [hs (by omega), if_neg (by omega)]
    · (repeat' first | refine And.intro ?_ ?_ | exact xeC | fail)
  · have ek : x.m.take i = x.m := List.take_of_length_le (by omega)
    rw [ek] at hb1
    refine FinK.mk ⟨[0], _, _, ⟨rfl, rfl⟩, ?_⟩
    (repeat' first | refine And.intro ?_ ?_ | exact xeC | fail)
    all_goals first | exact hmod | exact hb1
set_option maxRecDepth 10000 in
theorem cSame1 (x : Pk) : Ctr Tryz.prog 46 [.a (encP .nils x), .a (encP .nils x)] [] fun v h => v = .c .tt ∧ h = [] := by
  refine Ctr.mk' tbv mixed Tryz.func46 rfl rfl rfl (fun _ _ => by kernel_rfl) (by kernel_rfl) (by rfl) (by rfl) (by (repeat' first | refine And.intro ?_ ?_ | exact xeC | fail)) ?_
  repeat' (first | (fail_if_success (with_reducible refine xstp ?_)); first | ((with_reducible refine And.intro (fun (hb : _ = true) => ?_) (fun (hb : _ = false) => ?_)) <;> replace hb := xnC hb <;> (try first | exact xfC | exact bff hb (by assumption) | exact bff (by assumption) hb)) | (with_reducible intro hc; (try simp only [capsP, and_true] at hc); (try exact xfC)) | ((fail_if_success (with_reducible first | refine xgon ?_ | intro _)); (conv => whnf); (fail_if_success (fail_if_success (with_reducible first | refine xstp ?_ | refine xgon ?_ | intro _)))))
  refine LoopK.mk' Unit
    (fun _ => ⟨[(2, .c (.p 0 0 0)), (3, .c (.p 1 0 0)), (5, .c (.i .i64 0))], [.one (.cells true (encP .nils x)), .one (.cells true (encP .nils x))]⟩) (fun _ => 0)
    ⟨(), [0, 1], ?_⟩ ?_
  · (repeat' first | refine And.intro ?_ ?_ | exact xeC | fail)
  rintro ⟨⟩
  repeat' (first | (fail_if_success (with_reducible refine xstp ?_)); first | ((with_reducible refine And.intro (fun (hb : _ = true) => ?_) (fun (hb : _ = false) => ?_)) <;> replace hb := xnC hb <;> (try first | exact xfC | exact bff hb (by assumption) | exact bff (by assumption) hb)) | (with_reducible intro hc; (try simp only [capsP, and_true] at hc); (try exact xfC)) | ((fail_if_success (with_reducible first | refine xgon ?_ | intro _)); (conv => whnf); (fail_if_success (fail_if_success (with_reducible first | refine xstp ?_ | refine xgon ?_ | intro _)))))
  rw [show decide (mkS x.p = mkS x.p) = true from decide_eq_true rfl]
  refine FinK.mk ⟨[], _, _, ⟨rfl, rfl⟩, ?_⟩; (repeat' first | refine And.intro ?_ ?_ | exact xeC | fail)
theorem rH18ziK0 {σ : List Sg} {H h' : List Fam} {v : T} {K : T → List Fam → Prop} {H' : List Fam} {v' : T} {N : Nat} (hk : K v' H') (hN : H.length = N := by (try simp only [↓List.length_cons, ↓List.length_nil, Nat.reduceAdd]) <;> rfl) (h : givesF σ N H σ h' = some H' := by (try simp (maxSteps := 1000000) only [givesF, setF, updF, Fam.zeroth, Fam.rk, Ck.rk, C.rk, E.rk, T.rk, key, List.map_cons, List.map_nil, List.cons_append, List.nil_append, List.length_cons, List.length_nil, Option.map_some, Option.bind_some, Nat.reduceAdd, Nat.zero_add, Nat.add_zero, Nat.add_sub_cancel_left, Int.toNat_natCast, reps, List.all_cons, List.all_nil, C.flat, List.append_eq, Bool.not_true, Bool.and_true, Bool.or_false, Bool.or_self, Bool.not_false, List.append_nil, Bool.and_self, ↓rqO_rk, encP]) <;> rfl) (hv : v.rk σ N = v' := by (try simp only [givesF, setF, updF, Fam.zeroth, Fam.rk, Ck.rk, C.rk, E.rk, T.rk, key, List.map_cons, List.map_nil, List.cons_append, List.nil_append, List.length_cons, List.length_nil, Option.map_some, Option.bind_some, Nat.reduceAdd, Nat.zero_add, Nat.add_zero, Nat.add_sub_cancel_left, Int.toNat_natCast, reps, List.all_cons, List.all_nil, C.flat, List.append_eq, Bool.not_true, Bool.and_true, Bool.or_false, Bool.or_self, Bool.not_false, List.append_nil, Bool.and_self, ↓rqO_rk, encP]) <;> rfl) : RetG σ H h' v K := ret_mk3 hN h hv hk
theorem cH18ziK1 {P : Program} {F : Nat} {args : List T} {H : List Fam} {K : T → List Fam → Prop} {σ : List Sg} {nl : List Fam} {args0 : List T} {h0 : List Fam} {Q : T → List Fam → Prop} {H2 H1 : List Fam} {N n : Nat} (hc : Ctr P F args0 h0 Q) (hk : ∀ v h', Q v h' → capsP h' → RetG σ H2 h' v K) (hap : apart σ = true := by rfl) (hnl : nl.all nilB = true := by rfl) (h1 : H ++ nl = H1 := by first | exact List.append_nil _ | ((try simp only [List.cons_append, List.nil_append]) <;> rfl)) (hN : H1.length = N := by (try simp only [↓List.length_cons, ↓List.length_nil, Nat.reduceAdd]) <;> rfl) (hn : H.length = n := by (try simp only [↓List.length_cons, ↓List.length_nil, Nat.reduceAdd]) <;> rfl) (hH : givesF σ N H1 σ h0 = some H2 := by (try simp (maxSteps := 1000000) only [givesF, setF, updF, Fam.zeroth, Fam.rk, Ck.rk, C.rk, E.rk, T.rk, key, List.map_cons, List.map_nil, List.cons_append, List.nil_append, List.length_cons, List.length_nil, Option.map_some, Option.bind_some, Nat.reduceAdd, Nat.zero_add, Nat.add_zero, Nat.add_sub_cancel_left, Int.toNat_natCast, reps, List.all_cons, List.all_nil, C.flat, List.append_eq, Bool.not_true, Bool.and_true, Bool.or_false, Bool.or_self, Bool.not_false, List.append_nil, Bool.and_self, ↓rqO_rk]) <;> rfl) (hle : leS n H1 σ N σ h0 (belsK N (h0.map (Fam.rk σ N)) (argsK n args (args0.map (T.rk σ N)) True)) := by repeat' first | refine And.intro ?_ ?_ | exact xeC | fail) : CallK P F args H K := CallK.mk3 hc hap hnl h1 hN hn hH hle hk
set_option maxRecDepth 10000 in
theorem cPackets (o : List Pk) (c1 c2 : Nat) (hl : o.length ≤ 100000000) : Ctr Tryz.prog 17 [.c (.sl 0 0 11 0 o.length c1), .c (.sl 1 0 11 0 o.length c2)] [.one (pkR true o c1), .one (pkR true o c2)]
    fun v h => v = .c .tt ∧ h = [.one (pkR true o c1), .one (pkR true o c2)] := by
  refine Ctr.mk' tbv mixed Tryz.func17 rfl rfl rfl (fun _ _ => by kernel_rfl) (by kernel_rfl) (by rfl) (by rfl) (by (repeat' first | refine And.intro ?_ ?_ | exact xeC | fail)) ?_
  repeat' (first | (fail_if_success (with_reducible refine xstp ?_)); first | ((with_reducible refine And.intro (fun (hb : _ = true) => ?_) (fun (hb : _ = false) => ?_)) <;> replace hb := xnC hb <;> (try first | exact xfC | exact bff hb (by assumption) | exact bff (by assumption) hb)) | (with_reducible intro hc; (try simp only [capsP, and_true] at hc); (try exact xfC)) | ((fail_if_success (with_reducible first | refine xgon ?_ | intro _)); (conv => whnf); (fail_if_success (fail_if_success (with_reducible first | refine xstp ?_ | refine xgon ?_ | intro _)))))
  refine LoopK.mk' {i : Nat // i ≤ o.length}
    (fun ⟨i, _⟩ => ⟨[(0, .c (.sl 0 0 11 0 o.length c1)), (1, .c (.sl 1 0 11 0 o.length c2)), (5, .c (.i .i64 (i : Nat)))], [.one (pkR true o c1), .one (pkR true o c2)]⟩) (fun i => o.length - i.1)
    ⟨⟨0, Nat.zero_le _⟩, [0, 1], ?_⟩ ?_
  · (repeat' first | refine And.intro ?_ ?_ | exact xeC | fail)
  rintro ⟨i, hi⟩
  repeat' (first | (fail_if_success (with_reducible refine xstp ?_)); first | ((with_reducible refine And.intro (fun (hb : _ = true) => ?_) (fun (hb : _ = false) => ?_)) <;> replace hb := xnC hb <;> (try first | exact xfC | exact bff hb (by assumption) | exact bff (by assumption) hb)) | ((with_reducible refine And.intro ?_ ?_); focus exact xoC) | (with_reducible intro hc; (try simp only [capsP, and_true] at hc); (try exact xfC)) | ((fail_if_success (with_reducible first | refine xgon ?_ | intro _)); (conv => whnf); (fail_if_success (fail_if_success (with_reducible first | refine xstp ?_ | refine xgon ?_ | intro _)))))
  · refine cH18ziK1 (σ := []) (nl := []) (cSame1 (o.getD i default)) ?_
    rintro v h' ⟨rfl, rfl⟩ hcaps
    refine rH18ziK0 ?_
    repeat' (first | (fail_if_success (with_reducible refine xstp ?_)); first | ((with_reducible refine And.intro ?_ ?_); focus exact xoC) | ((fail_if_success (with_reducible first | refine xgon ?_ | intro _)); (conv => whnf); (fail_if_success (fail_if_success (with_reducible first | refine xstp ?_ | refine xgon ?_ | intro _)))))
    refine ⟨⟨i + 1, by omega⟩, [0, 1], by simp only; omega, ?_⟩
    (repeat' first | refine And.intro ?_ ?_ | exact xeC | fail)
  · refine FinK.mk ⟨[0, 1], _, _, ⟨rfl, rfl⟩, ?_⟩; (repeat' first | refine And.intro ?_ ?_ | exact xeC | fail)
end Go.Proofs.YtofcadbfjbefkaaGreat


namespace Go.Proofs.YtofcadbfjbefkaaGreat
open Go.X
set_option linter.unusedSimpArgs false
set_option linter.unusedVariables false
theorem xmW {p : Prop} (h : p := by first | exact xmC | exact xmI | exact xmS | fail) : p := h
structure Ti where
  (i : Nat) (now : Int) (W : Ws) (R : Rw) (c : Nat) (cf : Nat → Nat) (cM c2 : Nat) (cf2 : Nat → Nat)
structure TOk (l : List Sp) (t : Ti) : Prop where
  i : t.i ≤ l.length
  now : 0 ≤ t.now ∧ t.now ≤ 255 * (t.i : Int)
  inv : Inv 7 t.i t.W t.R
def okSp (x : Sp) : Prop := (0 ≤ x.kd ∧ x.kd ≤ 255) ∧ (0 ≤ x.rd ∧ x.rd ≤ 255) ∧ (0 ≤ x.lt ∧ x.lt ≤ 255)
abbrev wT (l : List Sp) (c0 : Nat) (per : Int) (q : Qos) (W : Ws) (R : Rw) (c : Nat) (cf : Nat → Nat) (cM c2 : Nat) (cf2 : Nat → Nat) : List Fam :=
  [.one (spR 1 l c0), .many (spG l), .one (wrc 3 4 7 per W.la q), .one (hist 5 q W.l.length c), .one (peM 6 W.M W.ck), .one (smps true W.l c), prs 7 W.D cf, rqs W.D cf,
   .one (wrr 9 10 7 per R.la q R.S.length cM), .one (hist 11 q R.l.length c2), .one (rdR 12 R cM cf2), .one (smps true R.l c2), rqs R.D cf2]
theorem prR {n : Nat} {W : Ws} {R : Rw} (h : Inv 7 n W R) (hn : n ≤ 1000) {y : Nat} {p : Pr} (hy : R.D y = some p) : PrOk R.la p := by
  obtain ⟨p0, h0, rq, rfl, _⟩ := (h.rl.D y).some' hy
  have h1 := (h.pr y p0 h0).1
  have h2 := h.rq y _ hy
  rw [h.rl.la]
  exact ⟨h1.st, h1.ac, h1.se, by omega⟩
theorem poL_le {n : Nat} {W : Ws} {R : Rw} (h : Inv 7 n W R) (hM : W.M.length ≤ 6) (hn : n ≤ 1000) (q : Qos) (at' : Int) : (poL 7 q at' W).length ≤ 100000000 := by
  have h1 := polF_le (id := 7) (l := stay q W.l at') (at' := at') (fun y p hy => (h.pr y p hy).1) (show 0 ≤ W.la ∧ W.la ≤ 1000000 by have := h.la; omega) (srtN (numW W))
  have h2 : (srtN (numW W)).length = W.M.length := by unfold srtN numW; rw [List.length_mergeSort, List.length_map]
  unfold poL
  split
  · rw [h2] at h1; omega
  · exact Nat.zero_le _
theorem rH18ziL0 {σ : List Sg} {H h' : List Fam} {v : T} {K : T → List Fam → Prop} {H' : List Fam} {v' : T} {N : Nat} (hk : K v' H') (hN : H.length = N := by (try simp only [↓List.length_cons, ↓List.length_nil, Nat.reduceAdd]) <;> rfl) (h : givesF σ N H σ h' = some H' := by (try simp (maxSteps := 1000000) only [givesF, setF, updF, Fam.zeroth, Fam.rk, Ck.rk, C.rk, E.rk, T.rk, key, List.map_cons, List.map_nil, List.cons_append, List.nil_append, List.length_cons, List.length_nil, Option.map_some, Option.bind_some, Nat.reduceAdd, Nat.zero_add, Nat.add_zero, Nat.add_sub_cancel_left, Int.toNat_natCast, reps, List.all_cons, List.all_nil, C.flat, List.append_eq, Bool.not_true, Bool.and_true, Bool.or_false, Bool.or_self, Bool.not_false, List.append_nil, Bool.and_self, ↓prC_rk, ↓rqO_rk, ↓spG_rk, encQ]) <;> rfl) (hv : v.rk σ N = v' := by (try simp only [givesF, setF, updF, Fam.zeroth, Fam.rk, Ck.rk, C.rk, E.rk, T.rk, key, List.map_cons, List.map_nil, List.cons_append, List.nil_append, List.length_cons, List.length_nil, Option.map_some, Option.bind_some, Nat.reduceAdd, Nat.zero_add, Nat.add_zero, Nat.add_sub_cancel_left, Int.toNat_natCast, reps, List.all_cons, List.all_nil, C.flat, List.append_eq, Bool.not_true, Bool.and_true, Bool.or_false, Bool.or_self, Bool.not_false, List.append_nil, Bool.and_self, ↓prC_rk, ↓rqO_rk, ↓spG_rk, encQ]) <;> rfl) : RetG σ H h' v K := ret_mk3 hN h hv hk
theorem rH18ziL1 {σ : List Sg} {H h' : List Fam} {v : T} {K : T → List Fam → Prop} {H' : List Fam} {v' : T} {N : Nat} (hk : K v' H') (hN : H.length = N := by (try simp only [↓List.length_cons, ↓List.length_nil, Nat.reduceAdd]) <;> rfl) (h : givesF σ N H σ h' = some H' := by (try simp (maxSteps := 1000000) only [givesF, setF, updF, Fam.zeroth, Fam.rk, Ck.rk, C.rk, E.rk, T.rk, key, List.map_cons, List.map_nil, List.cons_append, List.nil_append, List.length_cons, List.length_nil, Option.map_some, Option.bind_some, Nat.reduceAdd, Nat.zero_add, Nat.add_zero, Nat.add_sub_cancel_left, Int.toNat_natCast, reps, List.all_cons, List.all_nil, C.flat, List.append_eq, Bool.not_true, Bool.and_true, Bool.or_false, Bool.or_self, Bool.not_false, List.append_nil, Bool.and_self, ↓prC_rk, ↓rqO_rk, ↓spG_rk, encQ, wrZ]) <;> rfl) (hv : v.rk σ N = v' := by (try simp only [givesF, setF, updF, Fam.zeroth, Fam.rk, Ck.rk, C.rk, E.rk, T.rk, key, List.map_cons, List.map_nil, List.cons_append, List.nil_append, List.length_cons, List.length_nil, Option.map_some, Option.bind_some, Nat.reduceAdd, Nat.zero_add, Nat.add_zero, Nat.add_sub_cancel_left, Int.toNat_natCast, reps, List.all_cons, List.all_nil, C.flat, List.append_eq, Bool.not_true, Bool.and_true, Bool.or_false, Bool.or_self, Bool.not_false, List.append_nil, Bool.and_self, ↓prC_rk, ↓rqO_rk, ↓spG_rk, encQ, wrZ]) <;> rfl) : RetG σ H h' v K := ret_mk3 hN h hv hk
theorem rH18ziL2 {σ : List Sg} {H h' : List Fam} {v : T} {K : T → List Fam → Prop} {H' : List Fam} {v' : T} {N : Nat} (hk : K v' H') (hN : H.length = N := by (try simp only [↓List.length_cons, ↓List.length_nil, Nat.reduceAdd]) <;> rfl) (h : givesF σ N H σ h' = some H' := by (try simp (maxSteps := 1000000) only [givesF, setF, updF, Fam.zeroth, Fam.rk, Ck.rk, C.rk, E.rk, T.rk, key, List.map_cons, List.map_nil, List.cons_append, List.nil_append, List.length_cons, List.length_nil, Option.map_some, Option.bind_some, Nat.reduceAdd, Nat.zero_add, Nat.add_zero, Nat.add_sub_cancel_left, Int.toNat_natCast, reps, List.all_cons, List.all_nil, C.flat, List.append_eq, Bool.not_true, Bool.and_true, Bool.or_false, Bool.or_self, Bool.not_false, List.append_nil, Bool.and_self, ↓prC_rk, ↓rqO_rk, ↓spG_rk, encQ, wrV]) <;> rfl) (hv : v.rk σ N = v' := by (try simp only [givesF, setF, updF, Fam.zeroth, Fam.rk, Ck.rk, C.rk, E.rk, T.rk, key, List.map_cons, List.map_nil, List.cons_append, List.nil_append, List.length_cons, List.length_nil, Option.map_some, Option.bind_some, Nat.reduceAdd, Nat.zero_add, Nat.add_zero, Nat.add_sub_cancel_left, Int.toNat_natCast, reps, List.all_cons, List.all_nil, C.flat, List.append_eq, Bool.not_true, Bool.and_true, Bool.or_false, Bool.or_self, Bool.not_false, List.append_nil, Bool.and_self, ↓prC_rk, ↓rqO_rk, ↓spG_rk, encQ, wrV]) <;> rfl) : RetG σ H h' v K := ret_mk3 hN h hv hk
theorem rH18ziL3 {σ : List Sg} {H h' : List Fam} {v : T} {K : T → List Fam → Prop} {H' : List Fam} {v' : T} {N : Nat} (hk : K v' H') (hN : H.length = N := by (try simp only [↓List.length_cons, ↓List.length_nil, Nat.reduceAdd]) <;> rfl) (h : givesF σ N H σ h' = some H' := by (try simp (maxSteps := 1000000) only [givesF, setF, updF, Fam.zeroth, Fam.rk, Ck.rk, C.rk, E.rk, T.rk, key, List.map_cons, List.map_nil, List.cons_append, List.nil_append, List.length_cons, List.length_nil, Option.map_some, Option.bind_some, Nat.reduceAdd, Nat.zero_add, Nat.add_zero, Nat.add_sub_cancel_left, Int.toNat_natCast, reps, List.all_cons, List.all_nil, C.flat, List.append_eq, Bool.not_true, Bool.and_true, Bool.or_false, Bool.or_self, Bool.not_false, List.append_nil, Bool.and_self, ↓prC_rk, ↓rqO_rk, ↓spG_rk, encSp]) <;> rfl) (hv : v.rk σ N = v' := by (try simp only [givesF, setF, updF, Fam.zeroth, Fam.rk, Ck.rk, C.rk, E.rk, T.rk, key, List.map_cons, List.map_nil, List.cons_append, List.nil_append, List.length_cons, List.length_nil, Option.map_some, Option.bind_some, Nat.reduceAdd, Nat.zero_add, Nat.add_zero, Nat.add_sub_cancel_left, Int.toNat_natCast, reps, List.all_cons, List.all_nil, C.flat, List.append_eq, Bool.not_true, Bool.and_true, Bool.or_false, Bool.or_self, Bool.not_false, List.append_nil, Bool.and_self, ↓prC_rk, ↓rqO_rk, ↓spG_rk, encSp]) <;> rfl) : RetG σ H h' v K := ret_mk3 hN h hv hk
theorem rH18ziL4 {σ : List Sg} {H h' : List Fam} {v : T} {K : T → List Fam → Prop} {H' : List Fam} {v' : T} {N : Nat} (hk : K v' H') (hN : H.length = N := by (try simp only [↓List.length_cons, ↓List.length_nil, Nat.reduceAdd]) <;> rfl) (h : givesF σ N H σ h' = some H' := by (try simp (maxSteps := 1000000) only [givesF, setF, updF, Fam.zeroth, Fam.rk, Ck.rk, C.rk, E.rk, T.rk, key, List.map_cons, List.map_nil, List.cons_append, List.nil_append, List.length_cons, List.length_nil, Option.map_some, Option.bind_some, Nat.reduceAdd, Nat.zero_add, Nat.add_zero, Nat.add_sub_cancel_left, Int.toNat_natCast, reps, List.all_cons, List.all_nil, C.flat, List.append_eq, Bool.not_true, Bool.and_true, Bool.or_false, Bool.or_self, Bool.not_false, List.append_nil, Bool.and_self, ↓prC_rk, ↓rqO_rk, ↓spG_rk, encSp, encQ, encP]) <;> rfl) (hv : v.rk σ N = v' := by (try simp only [givesF, setF, updF, Fam.zeroth, Fam.rk, Ck.rk, C.rk, E.rk, T.rk, key, List.map_cons, List.map_nil, List.cons_append, List.nil_append, List.length_cons, List.length_nil, Option.map_some, Option.bind_some, Nat.reduceAdd, Nat.zero_add, Nat.add_zero, Nat.add_sub_cancel_left, Int.toNat_natCast, reps, List.all_cons, List.all_nil, C.flat, List.append_eq, Bool.not_true, Bool.and_true, Bool.or_false, Bool.or_self, Bool.not_false, List.append_nil, Bool.and_self, ↓prC_rk, ↓rqO_rk, ↓spG_rk, encSp, encQ, encP]) <;> rfl) : RetG σ H h' v K := ret_mk3 hN h hv hk
theorem rH18ziL5 {σ : List Sg} {H h' : List Fam} {v : T} {K : T → List Fam → Prop} {H' : List Fam} {v' : T} {N : Nat} (hk : K v' H') (hN : H.length = N := by (try simp only [↓List.length_cons, ↓List.length_nil, Nat.reduceAdd]) <;> rfl) (h : givesF σ N H σ h' = some H' := by (try simp (maxSteps := 1000000) only [givesF, setF, updF, Fam.zeroth, Fam.rk, Ck.rk, C.rk, E.rk, T.rk, key, List.map_cons, List.map_nil, List.cons_append, List.nil_append, List.length_cons, List.length_nil, Option.map_some, Option.bind_some, Nat.reduceAdd, Nat.zero_add, Nat.add_zero, Nat.add_sub_cancel_left, Int.toNat_natCast, reps, List.all_cons, List.all_nil, C.flat, List.append_eq, Bool.not_true, Bool.and_true, Bool.or_false, Bool.or_self, Bool.not_false, List.append_nil, Bool.and_self, ↓prC_rk, ↓rqO_rk, ↓spG_rk, encSp, encQ]) <;> rfl) (hv : v.rk σ N = v' := by (try simp only [givesF, setF, updF, Fam.zeroth, Fam.rk, Ck.rk, C.rk, E.rk, T.rk, key, List.map_cons, List.map_nil, List.cons_append, List.nil_append, List.length_cons, List.length_nil, Option.map_some, Option.bind_some, Nat.reduceAdd, Nat.zero_add, Nat.add_zero, Nat.add_sub_cancel_left, Int.toNat_natCast, reps, List.all_cons, List.all_nil, C.flat, List.append_eq, Bool.not_true, Bool.and_true, Bool.or_false, Bool.or_self, Bool.not_false, List.append_nil, Bool.and_self, ↓prC_rk, ↓rqO_rk, ↓spG_rk, encSp, encQ]) <;> rfl) : RetG σ H h' v K := ret_mk3 hN h hv hk
theorem rH18ziL6 {σ : List Sg} {H h' : List Fam} {v : T} {K : T → List Fam → Prop} {H' : List Fam} {v' : T} {N : Nat} (hk : K v' H') (hN : H.length = N := by (try simp only [↓List.length_cons, ↓List.length_nil, Nat.reduceAdd]) <;> rfl) (h : givesF σ N H σ h' = some H' := by (try simp (maxSteps := 1000000) only [givesF, setF, updF, Fam.zeroth, Fam.rk, Ck.rk, C.rk, E.rk, T.rk, key, List.map_cons, List.map_nil, List.cons_append, List.nil_append, List.length_cons, List.length_nil, Option.map_some, Option.bind_some, Nat.reduceAdd, Nat.zero_add, Nat.add_zero, Nat.add_sub_cancel_left, Int.toNat_natCast, reps, List.all_cons, List.all_nil, C.flat, List.append_eq, Bool.not_true, Bool.and_true, Bool.or_false, Bool.or_self, Bool.not_false, List.append_nil, Bool.and_self, ↓prC_rk, ↓rqO_rk, ↓spG_rk, encSp, encP]) <;> rfl) (hv : v.rk σ N = v' := by (try simp only [givesF, setF, updF, Fam.zeroth, Fam.rk, Ck.rk, C.rk, E.rk, T.rk, key, List.map_cons, List.map_nil, List.cons_append, List.nil_append, List.length_cons, List.length_nil, Option.map_some, Option.bind_some, Nat.reduceAdd, Nat.zero_add, Nat.add_zero, Nat.add_sub_cancel_left, Int.toNat_natCast, reps, List.all_cons, List.all_nil, C.flat, List.append_eq, Bool.not_true, Bool.and_true, Bool.or_false, Bool.or_self, Bool.not_false, List.append_nil, Bool.and_self, ↓prC_rk, ↓rqO_rk, ↓spG_rk, encSp, encP]) <;> rfl) : RetG σ H h' v K := ret_mk3 hN h hv hk
theorem cH18ziL7 {P : Program} {F : Nat} {args : List T} {H : List Fam} {K : T → List Fam → Prop} {σ : List Sg} {nl : List Fam} {args0 : List T} {h0 : List Fam} {Q : T → List Fam → Prop} {H2 H1 : List Fam} {N n : Nat} (hc : Ctr P F args0 h0 Q) (hk : ∀ v h', Q v h' → capsP h' → RetG σ H2 h' v K) (hap : apart σ = true := by rfl) (hnl : nl.all nilB = true := by rfl) (h1 : H ++ nl = H1 := by first | exact List.append_nil _ | ((try simp only [List.cons_append, List.nil_append]) <;> rfl)) (hN : H1.length = N := by (try simp only [↓List.length_cons, ↓List.length_nil, Nat.reduceAdd]) <;> rfl) (hn : H.length = n := by (try simp only [↓List.length_cons, ↓List.length_nil, Nat.reduceAdd]) <;> rfl) (hH : givesF σ N H1 σ h0 = some H2 := by (try simp (maxSteps := 1000000) only [givesF, setF, updF, Fam.zeroth, Fam.rk, Ck.rk, C.rk, E.rk, T.rk, key, List.map_cons, List.map_nil, List.cons_append, List.nil_append, List.length_cons, List.length_nil, Option.map_some, Option.bind_some, Nat.reduceAdd, Nat.zero_add, Nat.add_zero, Nat.add_sub_cancel_left, Int.toNat_natCast, reps, List.all_cons, List.all_nil, C.flat, List.append_eq, Bool.not_true, Bool.and_true, Bool.or_false, Bool.or_self, Bool.not_false, List.append_nil, Bool.and_self, ↓prC_rk, ↓rqO_rk, ↓spG_rk]) <;> rfl) (hle : leS n H1 σ N σ h0 (belsK N (h0.map (Fam.rk σ N)) (argsK n args (args0.map (T.rk σ N)) True)) := by repeat' first | refine And.intro ?_ ?_ | exact xeC | fail) : CallK P F args H K := CallK.mk3 hc hap hnl h1 hN hn hH hle hk
set_option maxRecDepth 20000 in
set_option maxHeartbeats 16000000 in
theorem cplaysW (q : Qos) (per : Int) (l : List Sp) (c : Nat) (hper : 0 ≤ per ∧ per ≤ 65535) (hll : l.length ≤ 9223372036854775807) (hp : ∀ i, i < l.length → okSp (l.getD i default)) :
    Ctr Tryz.prog 3 [.a (encQ q), .c (.i .u16 per), .c (.sl 0 0 13 0 l.length c)] [.one (spR 1 l c), .many (spG l)]
      fun v h => v = .c .tt ∧ h = [.one (spR 1 l c), .many (spG l)] := by
  have hwp : IntKind.i64.wrap per = per := wrap_in64 ⟨by omega, by omega⟩
  refine Ctr.mk' tbv mixed Tryz.func3 rfl rfl rfl (fun _ _ => by kernel_rfl) (by kernel_rfl) (by rfl) (by rfl) (by (repeat' first | refine And.intro ?_ ?_ | exact xeC | fail) <;> exact xmW) ?_
  repeat' (first | (fail_if_success (with_reducible refine xstp ?_)); first | (with_reducible intro hc; (try simp only [capsP, and_true] at hc); (try exact xfC)) | ((fail_if_success (with_reducible first | refine xgon ?_ | intro _)); (conv => whnf); (fail_if_success (fail_if_success (with_reducible first | refine xstp ?_ | refine xgon ?_ | intro _)))))
  refine cH18ziL7 (σ := [.whole 0, .name 1]) (nl := []) (clarge l c hll) ?_ (hle := by (repeat' first | refine And.intro ?_ ?_ | exact xeC | fail) <;> exact xmW)
  rintro v h' ⟨b, hbig, rfl, rfl⟩ hcaps
  refine rH18ziL0 ?_
  repeat' (first | (fail_if_success (with_reducible refine xstp ?_)); first | ((with_reducible refine And.intro (fun (hb : _ = true) => ?_) (fun (hb : _ = false) => ?_)) <;> replace hb := xnC hb <;> (try first | exact xfC | exact bff hb (by assumption) | exact bff (by assumption) hb)) | ((fail_if_success (with_reducible first | refine xgon ?_ | intro _)); (conv => whnf); (fail_if_success (fail_if_success (with_reducible first | refine xstp ?_ | refine xgon ?_ | intro _)))))
  · refine cH18ziL7 (σ := []) (nl := []) (cawake) ?_
    rintro v h' ⟨rfl, rfl⟩ hcaps
    refine rH18ziL0 ?_
    repeat' (first | (fail_if_success (with_reducible refine xstp ?_)); first | ((fail_if_success (with_reducible first | refine xgon ?_ | intro _)); (conv => whnf); (fail_if_success (fail_if_success (with_reducible first | refine xstp ?_ | refine xgon ?_ | intro _)))))
    refine FinK.mk ⟨[0, 1], _, _, ⟨rfl, rfl⟩, ?_⟩; (repeat' first | refine And.intro ?_ ?_ | exact xeC | fail)
    all_goals exact xmW
  have hsm := hbig (by assumption)
  rw [hwp]
  refine cH18ziL7 (σ := []) (nl := []) (cnewW 7 per q) ?_
  rintro v h' (⟨hq, rfl, rfl⟩ | ⟨hq, rfl, rfl⟩) hcaps
  rotate_left 1
  · refine rH18ziL0 ?_
    repeat' (first | (fail_if_success (with_reducible refine xstp ?_)); first | ((fail_if_success (with_reducible first | refine xgon ?_ | intro _)); (conv => whnf); (fail_if_success (fail_if_success (with_reducible first | refine xstp ?_ | refine xgon ?_ | intro _)))))
    try rw [hwp]
    refine cH18ziL7 (σ := []) (nl := []) (rnewW 7 per q) ?_
    rintro v h' (⟨hq2, rfl, rfl⟩ | ⟨hq2, rfl, rfl⟩) hcaps
    · exact absurd hq2 hq
    refine rH18ziL1 ?_
    repeat' (first | (fail_if_success (with_reducible refine xstp ?_)); first | ((with_reducible refine And.intro (fun (hb : _ = true) => ?_) (fun (hb : _ = false) => ?_)) <;> replace hb := xnC hb <;> (try first | exact xfC | exact bff hb (by assumption) | exact bff (by assumption) hb | (exfalso; simp only [List.length_nil] at hb; omega) | (exfalso; revert hb; decide) | (exfalso; simp at hb; done))) | (with_reducible refine Both.mk ?_ ?_) | ((with_reducible refine And.intro ?_ ?_); focus exact xoC) | ((with_reducible refine Or.inl ⟨?_, ?_, ?_⟩); (focus rfl); focus exact xaC) | ((with_reducible refine xwB ?_ ?_); focus exact xaC) | ((with_reducible refine xwC ?_ ?_); focus exact xaC) | ((with_reducible refine xwD ?_ ?_); focus exact xaC) | ((with_reducible refine xwE ?_ ?_); focus exact xaC) | (with_reducible intro hc; (try simp only [capsP, and_true] at hc); (try exact xfC)) | ((fail_if_success (with_reducible first | refine xgon ?_ | intro _)); (conv => whnf); (fail_if_success (fail_if_success (with_reducible first | refine xstp ?_ | refine Both.mk ?_ ?_ | refine xgon ?_ | intro _)))))
    refine LoopK.mk' Unit
      (fun _ => ⟨[(2, .c (.sl 0 0 13 0 l.length c)), (8, .c (.i .i64 4)), (12, .c (.i .i64 0))], [.one (spR 1 l c), .many (spG l)]⟩) (fun _ => 0)
      ⟨(), [0, 1], ?_⟩ ?_
    · (repeat' first | refine And.intro ?_ ?_ | exact xeC | fail)
      all_goals exact xmW
    rintro ⟨⟩
    repeat' (first | (fail_if_success (with_reducible refine xstp ?_)); first | ((with_reducible refine And.intro (fun (hb : _ = true) => ?_) (fun (hb : _ = false) => ?_)) <;> replace hb := xnC hb <;> (try first | exact xfC | exact bff hb (by assumption) | exact bff (by assumption) hb | (exfalso; simp only [List.length_nil] at hb; omega) | (exfalso; revert hb; decide) | (exfalso; simp at hb; done))) | (with_reducible refine Both.mk ?_ ?_) | ((with_reducible refine And.intro ?_ ?_); focus exact xoC) | ((with_reducible refine Or.inl ⟨?_, ?_, ?_⟩); (focus rfl); focus exact xaC) | ((with_reducible refine xwB ?_ ?_); focus exact xaC) | ((with_reducible refine xwC ?_ ?_); focus exact xaC) | ((with_reducible refine xwD ?_ ?_); focus exact xaC) | ((with_reducible refine xwE ?_ ?_); focus exact xaC) | (with_reducible intro hc; (try simp only [capsP, and_true] at hc); (try exact xfC)) | ((fail_if_success (with_reducible first | refine xgon ?_ | intro _)); (conv => whnf); (fail_if_success (fail_if_success (with_reducible first | refine xstp ?_ | refine Both.mk ?_ ?_ | refine xgon ?_ | intro _)))))
    all_goals (
      refine cH18ziL7 (σ := []) (nl := []) (cawake) ?_
      rintro v h' ⟨rfl, rfl⟩ hcaps
      refine rH18ziL0 ?_
      repeat' (first | (fail_if_success (with_reducible refine xstp ?_)); first | ((fail_if_success (with_reducible first | refine xgon ?_ | intro _)); (conv => whnf); (fail_if_success (fail_if_success (with_reducible first | refine xstp ?_ | refine xgon ?_ | intro _)))))
      refine FinK.mk ⟨[0, 1], _, _, ⟨rfl, rfl⟩, ?_⟩; (repeat' first | refine And.intro ?_ ?_ | exact xeC | fail)
      all_goals exact xmW)
  refine rH18ziL0 ?_
  repeat' (first | (fail_if_success (with_reducible refine xstp ?_)); first | ((fail_if_success (with_reducible first | refine xgon ?_ | intro _)); (conv => whnf); (fail_if_success (fail_if_success (with_reducible first | refine xstp ?_ | refine xgon ?_ | intro _)))))
  try rw [hwp]
  refine cH18ziL7 (σ := []) (nl := []) (rnewW 7 per q) ?_
  rintro v h' (⟨hq2, rfl, rfl⟩ | ⟨hq2, rfl, rfl⟩) hcaps
  rotate_left 1
  · exact absurd hq hq2
  refine rH18ziL2 ?_
  repeat' (first | (fail_if_success (with_reducible refine xstp ?_)); first | ((with_reducible refine And.intro (fun (hb : _ = true) => ?_) (fun (hb : _ = false) => ?_)) <;> replace hb := xnC hb <;> (try first | exact xfC | exact bff hb (by assumption) | exact bff (by assumption) hb | (exfalso; simp only [List.length_nil] at hb; omega) | (exfalso; revert hb; decide) | (exfalso; simp at hb; done))) | (with_reducible refine Both.mk ?_ ?_) | ((with_reducible refine And.intro ?_ ?_); focus exact xoC) | ((with_reducible refine Or.inl ⟨?_, ?_, ?_⟩); (focus rfl); focus exact xaC) | ((with_reducible refine xwB ?_ ?_); focus exact xaC) | ((with_reducible refine xwC ?_ ?_); focus exact xaC) | ((with_reducible refine xwD ?_ ?_); focus exact xaC) | ((with_reducible refine xwE ?_ ?_); focus exact xaC) | (with_reducible intro hc; (try simp only [capsP, and_true] at hc); (try exact xfC)) | ((fail_if_success (with_reducible first | refine xgon ?_ | intro _)); (conv => whnf); (fail_if_success (fail_if_success (with_reducible first | refine xstp ?_ | refine Both.mk ?_ ?_ | refine xgon ?_ | intro _)))))
  have hkd := hq.2.2.2.2.2
  have hqr : q.keep = true ∨ 1 ≤ q.depth := by
    cases hk : q.keep with
    | true => exact .inl rfl
    | false => exact .inr (hq.2.2.2.2.2 hk).1
  have hql : 0 ≤ q.life ∧ q.life ≤ 1099511627776 := hq.2.2.1
  have hpe : 1 ≤ per ∧ per ≤ 1099511627776 := hq.1.2
  refine LoopK.mk' {t : Ti // TOk l t}
    (fun ⟨⟨i, now, W, R, cw, cf, cM, c2, cf2⟩, _⟩ => ⟨[(2, .c (.sl 0 0 13 0 l.length c)), (7, .c (.p 2 0 0)), (8, .c (.i .i64 0)), (9, .c (.p 8 0 0)), (11, .c (.i .i64 now)), (12, .c (.i .i64 i))], wT l c per q W R cw cf cM c2 cf2⟩)
    (fun t => l.length - t.1.i)
    ⟨⟨⟨0, 0, W0, R0, 0, fun _ => 0, 0, 0, fun _ => 0⟩, Nat.zero_le _, ⟨Int.le_refl 0, Int.le_refl 0⟩, Inv.new 7⟩, [0, 1, 3, 4, 5, 6, 7, 8, 11, 9, 99, 10, 98], ?_⟩ ?_
  · (repeat' first | refine And.intro ?_ ?_ | exact xeC | fail)
    all_goals first | exact xmW | exact fun _ => rfl | exact fun i hi => absurd hi (Nat.not_lt_zero i) | skip
  rintro ⟨⟨i, now, W, R, cw, cf, cM, c2, cf2⟩, hi, hnow, hI⟩
  simp only at hi hnow hI
  repeat' (first | (fail_if_success (with_reducible refine xstp ?_)); first | ((with_reducible refine And.intro (fun (hb : _ = true) => ?_) (fun (hb : _ = false) => ?_)) <;> replace hb := xnC hb <;> (try first | exact xfC | exact bff hb (by assumption) | exact bff (by assumption) hb)) | ((with_reducible refine And.intro ?_ ?_); focus exact xoC) | (with_reducible intro hc; (try simp only [capsP, and_true] at hc); (try exact xfC)) | ((fail_if_success (with_reducible first | refine xgon ?_ | intro _)); (conv => whnf); (fail_if_success (fail_if_success (with_reducible first | refine xstp ?_ | refine xgon ?_ | intro _)))))
  rotate_left 1
  · refine cH18ziL7 (σ := []) (nl := []) (cawake) ?_
    rintro v h' ⟨rfl, rfl⟩ hcaps
    refine rH18ziL0 ?_
    repeat' (first | (fail_if_success (with_reducible refine xstp ?_)); first | ((fail_if_success (with_reducible first | refine xgon ?_ | intro _)); (conv => whnf); (fail_if_success (fail_if_success (with_reducible first | refine xstp ?_ | refine xgon ?_ | intro _)))))
    refine FinK.mk ⟨[0, 1], _, _, ⟨rfl, rfl⟩, ?_⟩
    (repeat' first | refine And.intro ?_ ?_ | exact xeC | fail)
    all_goals exact xmW
  have hil : i < l.length := by omega
  have h60 := hsm.1
  obtain ⟨hxk, hxr, hxl⟩ := hp i hil
  obtain ⟨hxm, hxs⟩ := hsm.2 i hil
  have e3 : 0 + ((i : Nat) : Int).toNat = i := by omega
  have hsp : spG l i = ints false (l.getD i default).m (l.getD i default).cm := if_pos hil
  rw [e3]
  generalize l.getD i default = x at *
  have hwl : IntKind.i64.wrap x.lt = x.lt := wrap_in64 ⟨by omega, by omega⟩
  have hwr := rd6 hxr
  have hr5 : ((x.rd.toNat % 6 : Nat) : Int) ≤ 5 := by omega
  rw [hwl]
  have hok := hI.rl.ok hI.ok
  have hMM := hI.M
  have hWl := hI.len
  have hla := hI.la
  have hRla : R.la = W.la := hI.rl.la
  have hRl : R.l.length ≤ 1000000 := by rw [hI.rl.l]; omega
  repeat' (first | (fail_if_success (with_reducible refine xstp ?_)); first | ((with_reducible refine And.intro (fun (hb : _ = true) => ?_) (fun (hb : _ = false) => ?_)) <;> replace hb := xnC hb <;> (try first | exact xfC | exact bff hb (by assumption) | exact bff (by assumption) hb)) | ((with_reducible refine And.intro ?_ ?_); focus exact xoC) | ((fail_if_success (with_reducible first | refine xgon ?_ | intro _)); (conv => whnf); (fail_if_success (fail_if_success (with_reducible first | refine xstp ?_ | refine xgon ?_ | intro _)))))
  all_goals generalize IntKind.i64.wrap (x.rd.tmod 6) = r at *
  · skip
    refine cH18ziL7 (σ := [.whole 2, .whole 3, .whole 4, .whole 5, .whole 6, .whole 7]) (nl := []) (cwrite 7 per q W cw cf (now + x.lt) x.s hI.ok (by omega) ⟨hla.1, by omega⟩) ?_ (hle := by (repeat' first | refine And.intro ?_ ?_ | exact xeC | fail) <;> exact xmW)
    rintro v h' ⟨ca, rfl, rfl⟩ hcaps
    refine rH18ziL3 ?_
    repeat' (first | (fail_if_success (with_reducible refine xstp ?_)); first | ((fail_if_success (with_reducible first | refine xgon ?_ | intro _)); (conv => whnf); (fail_if_success (fail_if_success (with_reducible first | refine xstp ?_ | refine xgon ?_ | intro _)))))
    refine cH18ziL7 (σ := [.whole 8, .whole 9, .whole 10, .whole 11, .whole 12]) (nl := []) (rwrite 7 per q R cM c2 cf2 (now + x.lt) x.s hok (by omega) hRl ⟨by omega, by omega⟩ hqr) ?_ (hle := by (repeat' first | refine And.intro ?_ ?_ | exact xeC | fail) <;> exact xmW)
    rintro v h' ⟨cb, rfl, rfl⟩ hcaps
    obtain ⟨g1, g2, hI2⟩ := hI.write q (now + x.lt) x.s
    rw [g1, g2]
    clear g1 g2
    generalize wrW 7 q W (now + x.lt) x.s = W2 at *
    generalize wrRr 7 q R (now + x.lt) x.s = R2 at *
    refine rH18ziL3 ?_
    rw [rd_fun (G := 12) (fun x => rfl)]
    repeat' (first | (fail_if_success (with_reducible refine xstp ?_)); first | ((with_reducible refine And.intro (fun (hb : _ = true) => ?_) (fun (hb : _ = false) => ?_)) <;> replace hb := xnC hb <;> (try first | exact xfC | exact bff hb (by assumption) | exact bff (by assumption) hb | (exfalso; simp only [List.length_nil] at hb; omega) | (exfalso; revert hb; decide) | (exfalso; simp at hb; done))) | (with_reducible refine Both.mk ?_ ?_) | ((with_reducible refine And.intro ?_ ?_); focus exact xoC) | ((with_reducible refine Or.inl ⟨?_, ?_, ?_⟩); (focus rfl); focus exact xaC) | ((with_reducible refine xwB ?_ ?_); focus exact xaC) | ((with_reducible refine xwC ?_ ?_); focus exact xaC) | ((with_reducible refine xwD ?_ ?_); focus exact xaC) | ((with_reducible refine xwE ?_ ?_); focus exact xaC) | (with_reducible intro hc; (try simp only [capsP, and_true] at hc); (try exact xfC)) | ((fail_if_success (with_reducible first | refine xgon ?_ | intro _)); (conv => whnf); (fail_if_success (fail_if_success (with_reducible first | refine xstp ?_ | refine Both.mk ?_ ?_ | refine xgon ?_ | intro _)))))
    have hok2 := hI2.rl.ok hI2.ok
    have hM2 := hI2.M
    have hl2 := hI2.len
    have hl3 : R2.l.length ≤ 1000000 := by rw [hI2.rl.l]; omega
    refine cH18ziL7 (σ := [.whole 2, .name 3, .whole 4, .whole 6, .name 7]) (nl := []) (cnext 7 per q W2 cf hI2.ok) ?_ (hle := by (repeat' first | refine And.intro ?_ ?_ | exact xeC | fail) <;> exact xmW)
    rintro v h' ⟨b, is, hnx, rfl, rfl⟩ hcaps
    refine rH18ziL4 ?_
    repeat' (first | (fail_if_success (with_reducible refine xstp ?_)); first | ((fail_if_success (with_reducible first | refine xgon ?_ | intro _)); (conv => whnf); (fail_if_success (fail_if_success (with_reducible first | refine xstp ?_ | refine xgon ?_ | intro _)))))
    refine cH18ziL7 (σ := [.whole 8, .name 9, .whole 10, .name 15, .name 12]) (nl := []) (rnext 7 per q R2 cM cf2 hok2 (by omega)) ?_ (hle := by (repeat' first | refine And.intro ?_ ?_ | exact xeC | fail) <;> exact xmW)
    rintro v h' ⟨b', is', hny, rfl, rfl⟩ hcaps
    obtain ⟨rfl, rfl⟩ := hI2.rl.next hnx hny
    refine rH18ziL4 ?_
    rw [rd_fun (G := 12) (fun x => rfl)]
    repeat' (first | (fail_if_success (with_reducible refine xstp ?_)); first | ((with_reducible refine And.intro (fun (hb : _ = true) => ?_) (fun (hb : _ = false) => ?_)) <;> replace hb := xnC hb <;> (try first | exact xfC | exact bff hb (by assumption) | exact bff (by assumption) hb | (exfalso; simp only [List.length_nil] at hb; omega) | (exfalso; revert hb; decide) | (exfalso; simp at hb; done))) | (with_reducible refine Both.mk ?_ ?_) | ((with_reducible refine And.intro ?_ ?_); focus exact xoC) | ((with_reducible refine Or.inl ⟨?_, ?_, ?_⟩); (focus rfl); focus exact xaC) | ((with_reducible refine xwB ?_ ?_); focus exact xaC) | ((with_reducible refine xwC ?_ ?_); focus exact xaC) | ((with_reducible refine xwD ?_ ?_); focus exact xaC) | ((with_reducible refine xwE ?_ ?_); focus exact xaC) | (with_reducible intro hc; (try simp only [capsP, and_true] at hc); (try exact xfC)) | ((fail_if_success (with_reducible first | refine xgon ?_ | intro _)); (conv => whnf); (fail_if_success (fail_if_success (with_reducible first | refine xstp ?_ | refine Both.mk ?_ ?_ | refine xgon ?_ | intro _)))))
    refine cH18ziL7 (σ := [.whole 2, .name 3, .whole 4, .whole 6, .name 7]) (nl := []) (cacked 7 per W2.la q W2 cf r hI2.ok) ?_ (hle := by (repeat' first | refine And.intro ?_ ?_ | exact xeC | fail) <;> exact xmW)
    rintro v h' ⟨rfl, rfl⟩ hcaps
    refine rH18ziL4 ?_
    repeat' (first | (fail_if_success (with_reducible refine xstp ?_)); first | ((fail_if_success (with_reducible first | refine xgon ?_ | intro _)); (conv => whnf); (fail_if_success (fail_if_success (with_reducible first | refine xstp ?_ | refine xgon ?_ | intro _)))))
    refine cH18ziL7 (σ := [.whole 8, .name 9, .whole 10, .name 15, .name 12]) (nl := []) (racked 7 per R2.la q R2 cM cf2 r hok2 (by omega)) ?_ (hle := by (repeat' first | refine And.intro ?_ ?_ | exact xeC | fail) <;> exact xmW)
    rw [hI2.rl.acked]
    rintro v h' ⟨rfl, rfl⟩ hcaps
    refine rH18ziL4 ?_
    rw [rd_fun (G := 12) (fun x => rfl)]
    repeat' (first | (fail_if_success (with_reducible refine xstp ?_)); first | ((with_reducible refine And.intro (fun (hb : _ = true) => ?_) (fun (hb : _ = false) => ?_)) <;> replace hb := xnC hb <;> (try first | exact xfC | exact bff hb (by assumption) | exact bff (by assumption) hb | (exfalso; simp only [List.length_nil] at hb; omega) | (exfalso; revert hb; decide) | (exfalso; simp at hb; done))) | (with_reducible refine Both.mk ?_ ?_) | ((with_reducible refine And.intro ?_ ?_); focus exact xoC) | ((with_reducible refine Or.inl ⟨?_, ?_, ?_⟩); (focus rfl); focus exact xaC) | ((with_reducible refine xwB ?_ ?_); focus exact xaC) | ((with_reducible refine xwC ?_ ?_); focus exact xaC) | ((with_reducible refine xwD ?_ ?_); focus exact xaC) | ((with_reducible refine xwE ?_ ?_); focus exact xaC) | (with_reducible intro hc; (try simp only [capsP, and_true] at hc); (try exact xfC)) | ((fail_if_success (with_reducible first | refine xgon ?_ | intro _)); (conv => whnf); (fail_if_success (fail_if_success (with_reducible first | refine xstp ?_ | refine Both.mk ?_ ?_ | refine xgon ?_ | intro _)))))
    refine cH18ziL7 (σ := [.whole 2, .whole 3, .name 4, .whole 14]) (nl := []) (cheld 7 per W2.la q W2.l ca (by omega)) ?_
    rintro v h' ⟨cx, rfl, rfl⟩ hcaps
    refine rH18ziL4 ?_
    repeat' (first | (fail_if_success (with_reducible refine xstp ?_)); first | ((fail_if_success (with_reducible first | refine xgon ?_ | intro _)); (conv => whnf); (fail_if_success (fail_if_success (with_reducible first | refine xstp ?_ | refine xgon ?_ | intro _)))))
    refine cH18ziL7 (σ := [.whole 8, .whole 9, .name 10, .whole 15]) (nl := []) (rheld 7 per R2.la q R2.S.length cM R2.l cb hl3) ?_
    rintro v h' ⟨cy, rfl, rfl⟩ hcaps
    refine rH18ziL4 ?_
    repeat' (first | (fail_if_success (with_reducible refine xstp ?_)); first | ((fail_if_success (with_reducible first | refine xgon ?_ | intro _)); (conv => whnf); (fail_if_success (fail_if_success (with_reducible first | refine xstp ?_ | refine xgon ?_ | intro _)))))
    refine cH18ziL7 (σ := [.whole 16, .whole 17]) (nl := []) (rsame cx cy true true W2.l R2.l (by omega) hl3) ?_
    rw [show decide (W2.l = R2.l) = true from decide_eq_true hI2.rl.l.symm]
    rintro v h' ⟨rfl, rfl⟩ hcaps
    refine rH18ziL4 ?_
    repeat' (first | (fail_if_success (with_reducible refine xstp ?_)); first | ((with_reducible refine And.intro (fun (hb : _ = true) => ?_) (fun (hb : _ = false) => ?_)) <;> replace hb := xnC hb <;> (try first | exact xfC | exact bff hb (by assumption) | exact bff (by assumption) hb | (exfalso; simp only [List.length_nil] at hb; omega) | (exfalso; revert hb; decide) | (exfalso; simp at hb; done))) | (with_reducible refine Both.mk ?_ ?_) | ((with_reducible refine And.intro ?_ ?_); focus exact xoC) | ((with_reducible refine Or.inl ⟨?_, ?_, ?_⟩); (focus rfl); focus exact xaC) | ((with_reducible refine xwB ?_ ?_); focus exact xaC) | ((with_reducible refine xwC ?_ ?_); focus exact xaC) | ((with_reducible refine xwD ?_ ?_); focus exact xaC) | ((with_reducible refine xwE ?_ ?_); focus exact xaC) | (with_reducible intro hc; (try simp only [capsP, and_true] at hc); (try exact xfC)) | ((fail_if_success (with_reducible first | refine xgon ?_ | intro _)); (conv => whnf); (fail_if_success (fail_if_success (with_reducible first | refine xstp ?_ | refine Both.mk ?_ ?_ | refine xgon ?_ | intro _)))))
    refine ⟨⟨⟨i + 1, now + x.lt, W2, R2, ca, cf, cM, cb, cf2⟩, by simp only; omega, ⟨by simp only; omega, by simp only; omega⟩, hI2⟩, [0, 1, 2, 3, 4, 14, 6, 7, 8, 9, 10, 15, 12], by simp only; omega, ?_⟩
    (repeat' first | refine And.intro ?_ ?_ | exact xeC | fail)
    all_goals first
      | exact xmW
      | omega
      | (intro y; rw [← hW2]; exact rqs_un y)
      | skip
    all_goals trace_state
  · skip
    refine cH18ziL7 (σ := [.whole 2, .whole 3, .whole 4, .whole 5, .whole 6, .whole 7]) (nl := []) (cwrite 7 per q W cw cf (now + x.lt) x.s hI.ok (by omega) ⟨hla.1, by omega⟩) ?_ (hle := by (repeat' first | refine And.intro ?_ ?_ | exact xeC | fail) <;> exact xmW)
    rintro v h' ⟨ca, rfl, rfl⟩ hcaps
    refine rH18ziL3 ?_
    repeat' (first | (fail_if_success (with_reducible refine xstp ?_)); first | ((fail_if_success (with_reducible first | refine xgon ?_ | intro _)); (conv => whnf); (fail_if_success (fail_if_success (with_reducible first | refine xstp ?_ | refine xgon ?_ | intro _)))))
    refine cH18ziL7 (σ := [.whole 8, .whole 9, .whole 10, .whole 11, .whole 12]) (nl := []) (rwrite 7 per q R cM c2 cf2 (now + x.lt) x.s hok (by omega) hRl ⟨by omega, by omega⟩ hqr) ?_ (hle := by (repeat' first | refine And.intro ?_ ?_ | exact xeC | fail) <;> exact xmW)
    rintro v h' ⟨cb, rfl, rfl⟩ hcaps
    obtain ⟨g1, g2, hI2⟩ := hI.write q (now + x.lt) x.s
    rw [g1, g2]
    clear g1 g2
    generalize wrW 7 q W (now + x.lt) x.s = W2 at *
    generalize wrRr 7 q R (now + x.lt) x.s = R2 at *
    refine rH18ziL3 ?_
    rw [rd_fun (G := 12) (fun x => rfl)]
    repeat' (first | (fail_if_success (with_reducible refine xstp ?_)); first | ((with_reducible refine And.intro (fun (hb : _ = true) => ?_) (fun (hb : _ = false) => ?_)) <;> replace hb := xnC hb <;> (try first | exact xfC | exact bff hb (by assumption) | exact bff (by assumption) hb | (exfalso; simp only [List.length_nil] at hb; omega) | (exfalso; revert hb; decide) | (exfalso; simp at hb; done))) | (with_reducible refine Both.mk ?_ ?_) | ((with_reducible refine And.intro ?_ ?_); focus exact xoC) | ((with_reducible refine Or.inl ⟨?_, ?_, ?_⟩); (focus rfl); focus exact xaC) | ((with_reducible refine xwB ?_ ?_); focus exact xaC) | ((with_reducible refine xwC ?_ ?_); focus exact xaC) | ((with_reducible refine xwD ?_ ?_); focus exact xaC) | ((with_reducible refine xwE ?_ ?_); focus exact xaC) | (with_reducible intro hc; (try simp only [capsP, and_true] at hc); (try exact xfC)) | ((fail_if_success (with_reducible first | refine xgon ?_ | intro _)); (conv => whnf); (fail_if_success (fail_if_success (with_reducible first | refine xstp ?_ | refine Both.mk ?_ ?_ | refine xgon ?_ | intro _)))))
    have hok2 := hI2.rl.ok hI2.ok
    have hM2 := hI2.M
    have hl2 := hI2.len
    have hl3 : R2.l.length ≤ 1000000 := by rw [hI2.rl.l]; omega
    refine cH18ziL7 (σ := [.whole 2, .name 3, .whole 4, .whole 6, .name 7]) (nl := []) (cnext 7 per q W2 cf hI2.ok) ?_ (hle := by (repeat' first | refine And.intro ?_ ?_ | exact xeC | fail) <;> exact xmW)
    rintro v h' ⟨b, is, hnx, rfl, rfl⟩ hcaps
    refine rH18ziL4 ?_
    repeat' (first | (fail_if_success (with_reducible refine xstp ?_)); first | ((fail_if_success (with_reducible first | refine xgon ?_ | intro _)); (conv => whnf); (fail_if_success (fail_if_success (with_reducible first | refine xstp ?_ | refine xgon ?_ | intro _)))))
    refine cH18ziL7 (σ := [.whole 8, .name 9, .whole 10, .name 15, .name 12]) (nl := []) (rnext 7 per q R2 cM cf2 hok2 (by omega)) ?_ (hle := by (repeat' first | refine And.intro ?_ ?_ | exact xeC | fail) <;> exact xmW)
    rintro v h' ⟨b', is', hny, rfl, rfl⟩ hcaps
    obtain ⟨rfl, rfl⟩ := hI2.rl.next hnx hny
    refine rH18ziL4 ?_
    rw [rd_fun (G := 12) (fun x => rfl)]
    repeat' (first | (fail_if_success (with_reducible refine xstp ?_)); first | ((with_reducible refine And.intro (fun (hb : _ = true) => ?_) (fun (hb : _ = false) => ?_)) <;> replace hb := xnC hb <;> (try first | exact xfC | exact bff hb (by assumption) | exact bff (by assumption) hb | (exfalso; simp only [List.length_nil] at hb; omega) | (exfalso; revert hb; decide) | (exfalso; simp at hb; done))) | (with_reducible refine Both.mk ?_ ?_) | ((with_reducible refine And.intro ?_ ?_); focus exact xoC) | ((with_reducible refine Or.inl ⟨?_, ?_, ?_⟩); (focus rfl); focus exact xaC) | ((with_reducible refine xwB ?_ ?_); focus exact xaC) | ((with_reducible refine xwC ?_ ?_); focus exact xaC) | ((with_reducible refine xwD ?_ ?_); focus exact xaC) | ((with_reducible refine xwE ?_ ?_); focus exact xaC) | (with_reducible intro hc; (try simp only [capsP, and_true] at hc); (try exact xfC)) | ((fail_if_success (with_reducible first | refine xgon ?_ | intro _)); (conv => whnf); (fail_if_success (fail_if_success (with_reducible first | refine xstp ?_ | refine Both.mk ?_ ?_ | refine xgon ?_ | intro _)))))
    refine cH18ziL7 (σ := [.whole 2, .name 3, .whole 4, .whole 6, .name 7]) (nl := []) (cacked 7 per W2.la q W2 cf r hI2.ok) ?_ (hle := by (repeat' first | refine And.intro ?_ ?_ | exact xeC | fail) <;> exact xmW)
    rintro v h' ⟨rfl, rfl⟩ hcaps
    refine rH18ziL4 ?_
    repeat' (first | (fail_if_success (with_reducible refine xstp ?_)); first | ((fail_if_success (with_reducible first | refine xgon ?_ | intro _)); (conv => whnf); (fail_if_success (fail_if_success (with_reducible first | refine xstp ?_ | refine xgon ?_ | intro _)))))
    refine cH18ziL7 (σ := [.whole 8, .name 9, .whole 10, .name 15, .name 12]) (nl := []) (racked 7 per R2.la q R2 cM cf2 r hok2 (by omega)) ?_ (hle := by (repeat' first | refine And.intro ?_ ?_ | exact xeC | fail) <;> exact xmW)
    rw [hI2.rl.acked]
    rintro v h' ⟨rfl, rfl⟩ hcaps
    refine rH18ziL4 ?_
    rw [rd_fun (G := 12) (fun x => rfl)]
    repeat' (first | (fail_if_success (with_reducible refine xstp ?_)); first | ((with_reducible refine And.intro (fun (hb : _ = true) => ?_) (fun (hb : _ = false) => ?_)) <;> replace hb := xnC hb <;> (try first | exact xfC | exact bff hb (by assumption) | exact bff (by assumption) hb | (exfalso; simp only [List.length_nil] at hb; omega) | (exfalso; revert hb; decide) | (exfalso; simp at hb; done))) | (with_reducible refine Both.mk ?_ ?_) | ((with_reducible refine And.intro ?_ ?_); focus exact xoC) | ((with_reducible refine Or.inl ⟨?_, ?_, ?_⟩); (focus rfl); focus exact xaC) | ((with_reducible refine xwB ?_ ?_); focus exact xaC) | ((with_reducible refine xwC ?_ ?_); focus exact xaC) | ((with_reducible refine xwD ?_ ?_); focus exact xaC) | ((with_reducible refine xwE ?_ ?_); focus exact xaC) | (with_reducible intro hc; (try simp only [capsP, and_true] at hc); (try exact xfC)) | ((fail_if_success (with_reducible first | refine xgon ?_ | intro _)); (conv => whnf); (fail_if_success (fail_if_success (with_reducible first | refine xstp ?_ | refine Both.mk ?_ ?_ | refine xgon ?_ | intro _)))))
    refine cH18ziL7 (σ := [.whole 2, .whole 3, .name 4, .whole 14]) (nl := []) (cheld 7 per W2.la q W2.l ca (by omega)) ?_
    rintro v h' ⟨cx, rfl, rfl⟩ hcaps
    refine rH18ziL4 ?_
    repeat' (first | (fail_if_success (with_reducible refine xstp ?_)); first | ((fail_if_success (with_reducible first | refine xgon ?_ | intro _)); (conv => whnf); (fail_if_success (fail_if_success (with_reducible first | refine xstp ?_ | refine xgon ?_ | intro _)))))
    refine cH18ziL7 (σ := [.whole 8, .whole 9, .name 10, .whole 15]) (nl := []) (rheld 7 per R2.la q R2.S.length cM R2.l cb hl3) ?_
    rintro v h' ⟨cy, rfl, rfl⟩ hcaps
    refine rH18ziL4 ?_
    repeat' (first | (fail_if_success (with_reducible refine xstp ?_)); first | ((fail_if_success (with_reducible first | refine xgon ?_ | intro _)); (conv => whnf); (fail_if_success (fail_if_success (with_reducible first | refine xstp ?_ | refine xgon ?_ | intro _)))))
    refine cH18ziL7 (σ := [.whole 16, .whole 17]) (nl := []) (rsame cx cy true true W2.l R2.l (by omega) hl3) ?_
    rw [show decide (W2.l = R2.l) = true from decide_eq_true hI2.rl.l.symm]
    rintro v h' ⟨rfl, rfl⟩ hcaps
    refine rH18ziL4 ?_
    repeat' (first | (fail_if_success (with_reducible refine xstp ?_)); first | ((with_reducible refine And.intro (fun (hb : _ = true) => ?_) (fun (hb : _ = false) => ?_)) <;> replace hb := xnC hb <;> (try first | exact xfC | exact bff hb (by assumption) | exact bff (by assumption) hb | (exfalso; simp only [List.length_nil] at hb; omega) | (exfalso; revert hb; decide) | (exfalso; simp at hb; done))) | (with_reducible refine Both.mk ?_ ?_) | ((with_reducible refine And.intro ?_ ?_); focus exact xoC) | ((with_reducible refine Or.inl ⟨?_, ?_, ?_⟩); (focus rfl); focus exact xaC) | ((with_reducible refine xwB ?_ ?_); focus exact xaC) | ((with_reducible refine xwC ?_ ?_); focus exact xaC) | ((with_reducible refine xwD ?_ ?_); focus exact xaC) | ((with_reducible refine xwE ?_ ?_); focus exact xaC) | (with_reducible intro hc; (try simp only [capsP, and_true] at hc); (try exact xfC)) | ((fail_if_success (with_reducible first | refine xgon ?_ | intro _)); (conv => whnf); (fail_if_success (fail_if_success (with_reducible first | refine xstp ?_ | refine Both.mk ?_ ?_ | refine xgon ?_ | intro _)))))
    refine ⟨⟨⟨i + 1, now + x.lt, W2, R2, ca, cf, cM, cb, cf2⟩, by simp only; omega, ⟨by simp only; omega, by simp only; omega⟩, hI2⟩, [0, 1, 2, 3, 4, 14, 6, 7, 8, 9, 10, 15, 12], by simp only; omega, ?_⟩
    (repeat' first | refine And.intro ?_ ?_ | exact xeC | fail)
    all_goals first
      | exact xmW
      | omega
      | (intro y; rw [← hW2]; exact rqs_un y)
      | skip
    all_goals trace_state
  · skip
    refine cH18ziL7 (σ := [.whole 2, .whole 3, .whole 4, .whole 5, .whole 6, .whole 7]) (nl := []) (cmatchW 7 per q W cw cf r r (now + x.lt) x.q hI.ok (by omega) ⟨hla.1, by omega⟩ (fun s hs => (hI.smp s hs).2.1.1)) ?_ (hle := by (repeat' first | refine And.intro ?_ ?_ | exact xeC | fail) <;> exact xmW)
    rintro v h' ⟨ca, rfl, rfl⟩ hcaps
    refine rH18ziL5 ?_
    repeat' (first | (fail_if_success (with_reducible refine xstp ?_)); first | ((with_reducible refine And.intro ?_ ?_); focus exact xoC) | ((fail_if_success (with_reducible first | refine xgon ?_ | intro _)); (conv => whnf); (fail_if_success (fail_if_success (with_reducible first | refine xstp ?_ | refine xgon ?_ | intro _)))))
    refine cH18ziL7 (σ := [.whole 8, .whole 9, .whole 10, .whole 11, .whole 12]) (nl := []) (rmatchW 7 per q R cM c2 cf2 r r (now + x.lt) x.q hok (by omega) hRl ⟨by omega, by omega⟩ (fun s hs => (hI.smp s (hI.rl.l ▸ hs)).2.1.1)) ?_ (hle := by (repeat' first | refine And.intro ?_ ?_ | exact xeC | fail) <;> exact xmW)
    rintro v h' ⟨cMb, cb, rfl, rfl⟩ hcaps
    have hI2 := hI.mt q r r (now + x.lt) x.q (by omega) (by omega)
    rw [hI.rl.mtE hI.ok]
    generalize maW q r r (now + x.lt) x.q W = W2 at *
    generalize maRr q r r (now + x.lt) x.q R = R2 at *
    refine rH18ziL5 ?_
    rw [rd_fun (G := 17) (fun x => rfl)]
    repeat' (first | (fail_if_success (with_reducible refine xstp ?_)); first | ((with_reducible refine And.intro (fun (hb : _ = true) => ?_) (fun (hb : _ = false) => ?_)) <;> replace hb := xnC hb <;> (try first | exact xfC | exact bff hb (by assumption) | exact bff (by assumption) hb | (exfalso; simp only [List.length_nil] at hb; omega) | (exfalso; revert hb; decide) | (exfalso; simp at hb; done))) | (with_reducible refine Both.mk ?_ ?_) | ((with_reducible refine And.intro ?_ ?_); focus exact xoC) | ((with_reducible refine Or.inl ⟨?_, ?_, ?_⟩); (focus rfl); focus exact xaC) | ((with_reducible refine xwB ?_ ?_); focus exact xaC) | ((with_reducible refine xwC ?_ ?_); focus exact xaC) | ((with_reducible refine xwD ?_ ?_); focus exact xaC) | ((with_reducible refine xwE ?_ ?_); focus exact xaC) | (with_reducible intro hc; (try simp only [capsP, and_true] at hc); (try exact xfC)) | ((fail_if_success (with_reducible first | refine xgon ?_ | intro _)); (conv => whnf); (fail_if_success (fail_if_success (with_reducible first | refine xstp ?_ | refine Both.mk ?_ ?_ | refine xgon ?_ | intro _)))))
    have hok2 := hI2.rl.ok hI2.ok
    have hM2 := hI2.M
    have hl2 := hI2.len
    have hl3 : R2.l.length ≤ 1000000 := by rw [hI2.rl.l]; omega
    refine cH18ziL7 (σ := [.whole 2, .name 3, .whole 4, .whole 14, .name 15]) (nl := []) (cnext 7 per q W2 ca hI2.ok) ?_ (hle := by (repeat' first | refine And.intro ?_ ?_ | exact xeC | fail) <;> exact xmW)
    rintro v h' ⟨b, is, hnx, rfl, rfl⟩ hcaps
    refine rH18ziL4 ?_
    repeat' (first | (fail_if_success (with_reducible refine xstp ?_)); first | ((fail_if_success (with_reducible first | refine xgon ?_ | intro _)); (conv => whnf); (fail_if_success (fail_if_success (with_reducible first | refine xstp ?_ | refine xgon ?_ | intro _)))))
    refine cH18ziL7 (σ := [.whole 8, .name 9, .whole 16, .name 11, .name 17]) (nl := []) (rnext 7 per q R2 cMb cb hok2 (by omega)) ?_ (hle := by (repeat' first | refine And.intro ?_ ?_ | exact xeC | fail) <;> exact xmW)
    rintro v h' ⟨b', is', hny, rfl, rfl⟩ hcaps
    obtain ⟨rfl, rfl⟩ := hI2.rl.next hnx hny
    refine rH18ziL4 ?_
    rw [rd_fun (G := 17) (fun x => rfl)]
    repeat' (first | (fail_if_success (with_reducible refine xstp ?_)); first | ((with_reducible refine And.intro (fun (hb : _ = true) => ?_) (fun (hb : _ = false) => ?_)) <;> replace hb := xnC hb <;> (try first | exact xfC | exact bff hb (by assumption) | exact bff (by assumption) hb | (exfalso; simp only [List.length_nil] at hb; omega) | (exfalso; revert hb; decide) | (exfalso; simp at hb; done))) | (with_reducible refine Both.mk ?_ ?_) | ((with_reducible refine And.intro ?_ ?_); focus exact xoC) | ((with_reducible refine Or.inl ⟨?_, ?_, ?_⟩); (focus rfl); focus exact xaC) | ((with_reducible refine xwB ?_ ?_); focus exact xaC) | ((with_reducible refine xwC ?_ ?_); focus exact xaC) | ((with_reducible refine xwD ?_ ?_); focus exact xaC) | ((with_reducible refine xwE ?_ ?_); focus exact xaC) | (with_reducible intro hc; (try simp only [capsP, and_true] at hc); (try exact xfC)) | ((fail_if_success (with_reducible first | refine xgon ?_ | intro _)); (conv => whnf); (fail_if_success (fail_if_success (with_reducible first | refine xstp ?_ | refine Both.mk ?_ ?_ | refine xgon ?_ | intro _)))))
    refine cH18ziL7 (σ := [.whole 2, .name 3, .whole 4, .whole 14, .name 15]) (nl := []) (cacked 7 per W2.la q W2 ca r hI2.ok) ?_ (hle := by (repeat' first | refine And.intro ?_ ?_ | exact xeC | fail) <;> exact xmW)
    rintro v h' ⟨rfl, rfl⟩ hcaps
    refine rH18ziL4 ?_
    repeat' (first | (fail_if_success (with_reducible refine xstp ?_)); first | ((fail_if_success (with_reducible first | refine xgon ?_ | intro _)); (conv => whnf); (fail_if_success (fail_if_success (with_reducible first | refine xstp ?_ | refine xgon ?_ | intro _)))))
    refine cH18ziL7 (σ := [.whole 8, .name 9, .whole 16, .name 11, .name 17]) (nl := []) (racked 7 per R2.la q R2 cMb cb r hok2 (by omega)) ?_ (hle := by (repeat' first | refine And.intro ?_ ?_ | exact xeC | fail) <;> exact xmW)
    rw [hI2.rl.acked]
    rintro v h' ⟨rfl, rfl⟩ hcaps
    refine rH18ziL4 ?_
    rw [rd_fun (G := 17) (fun x => rfl)]
    repeat' (first | (fail_if_success (with_reducible refine xstp ?_)); first | ((with_reducible refine And.intro (fun (hb : _ = true) => ?_) (fun (hb : _ = false) => ?_)) <;> replace hb := xnC hb <;> (try first | exact xfC | exact bff hb (by assumption) | exact bff (by assumption) hb | (exfalso; simp only [List.length_nil] at hb; omega) | (exfalso; revert hb; decide) | (exfalso; simp at hb; done))) | (with_reducible refine Both.mk ?_ ?_) | ((with_reducible refine And.intro ?_ ?_); focus exact xoC) | ((with_reducible refine Or.inl ⟨?_, ?_, ?_⟩); (focus rfl); focus exact xaC) | ((with_reducible refine xwB ?_ ?_); focus exact xaC) | ((with_reducible refine xwC ?_ ?_); focus exact xaC) | ((with_reducible refine xwD ?_ ?_); focus exact xaC) | ((with_reducible refine xwE ?_ ?_); focus exact xaC) | (with_reducible intro hc; (try simp only [capsP, and_true] at hc); (try exact xfC)) | ((fail_if_success (with_reducible first | refine xgon ?_ | intro _)); (conv => whnf); (fail_if_success (fail_if_success (with_reducible first | refine xstp ?_ | refine Both.mk ?_ ?_ | refine xgon ?_ | intro _)))))
    refine cH18ziL7 (σ := [.whole 2, .whole 3, .name 4, .whole 5]) (nl := []) (cheld 7 per W2.la q W2.l cw (by omega)) ?_
    rintro v h' ⟨cx, rfl, rfl⟩ hcaps
    refine rH18ziL4 ?_
    repeat' (first | (fail_if_success (with_reducible refine xstp ?_)); first | ((fail_if_success (with_reducible first | refine xgon ?_ | intro _)); (conv => whnf); (fail_if_success (fail_if_success (with_reducible first | refine xstp ?_ | refine xgon ?_ | intro _)))))
    refine cH18ziL7 (σ := [.whole 8, .whole 9, .name 16, .whole 11]) (nl := []) (rheld 7 per R2.la q R2.S.length cMb R2.l c2 hl3) ?_
    rintro v h' ⟨cy, rfl, rfl⟩ hcaps
    refine rH18ziL4 ?_
    repeat' (first | (fail_if_success (with_reducible refine xstp ?_)); first | ((fail_if_success (with_reducible first | refine xgon ?_ | intro _)); (conv => whnf); (fail_if_success (fail_if_success (with_reducible first | refine xstp ?_ | refine xgon ?_ | intro _)))))
    refine cH18ziL7 (σ := [.whole 18, .whole 19]) (nl := []) (rsame cx cy true true W2.l R2.l (by omega) hl3) ?_
    rw [show decide (W2.l = R2.l) = true from decide_eq_true hI2.rl.l.symm]
    rintro v h' ⟨rfl, rfl⟩ hcaps
    refine rH18ziL4 ?_
    repeat' (first | (fail_if_success (with_reducible refine xstp ?_)); first | ((with_reducible refine And.intro (fun (hb : _ = true) => ?_) (fun (hb : _ = false) => ?_)) <;> replace hb := xnC hb <;> (try first | exact xfC | exact bff hb (by assumption) | exact bff (by assumption) hb | (exfalso; simp only [List.length_nil] at hb; omega) | (exfalso; revert hb; decide) | (exfalso; simp at hb; done))) | (with_reducible refine Both.mk ?_ ?_) | ((with_reducible refine And.intro ?_ ?_); focus exact xoC) | ((with_reducible refine Or.inl ⟨?_, ?_, ?_⟩); (focus rfl); focus exact xaC) | ((with_reducible refine xwB ?_ ?_); focus exact xaC) | ((with_reducible refine xwC ?_ ?_); focus exact xaC) | ((with_reducible refine xwD ?_ ?_); focus exact xaC) | ((with_reducible refine xwE ?_ ?_); focus exact xaC) | (with_reducible intro hc; (try simp only [capsP, and_true] at hc); (try exact xfC)) | ((fail_if_success (with_reducible first | refine xgon ?_ | intro _)); (conv => whnf); (fail_if_success (fail_if_success (with_reducible first | refine xstp ?_ | refine Both.mk ?_ ?_ | refine xgon ?_ | intro _)))))
    refine ⟨⟨⟨i + 1, now + x.lt, W2, R2, cw, ca, cMb, c2, cb⟩, by simp only; omega, ⟨by simp only; omega, by simp only; omega⟩, hI2⟩, [0, 1, 2, 3, 4, 5, 14, 15, 8, 9, 16, 11, 17], by simp only; omega, ?_⟩
    (repeat' first | refine And.intro ?_ ?_ | exact xeC | fail)
    all_goals first
      | exact xmW
      | omega
      | (intro y; rw [← hW2]; exact rqs_un y)
      | skip
    all_goals trace_state
  · skip
    refine cH18ziL7 (σ := [.whole 2, .name 3, .whole 4, .whole 6, .name 7]) (nl := []) (cunW 7 per W.la q W cf r hI.ok) ?_ (hle := by (repeat' first | refine And.intro ?_ ?_ | exact xeC | fail) <;> exact xmW)
    rintro v h' ⟨rfl, rfl⟩ hcaps
    refine rH18ziL5 ?_
    repeat' (first | (fail_if_success (with_reducible refine xstp ?_)); first | ((fail_if_success (with_reducible first | refine xgon ?_ | intro _)); (conv => whnf); (fail_if_success (fail_if_success (with_reducible first | refine xstp ?_ | refine xgon ?_ | intro _)))))
    refine cH18ziL7 (σ := [.whole 8, .name 9, .whole 10, .name 11, .whole 12]) (nl := []) (runW 7 per q R cM cf2 r hok (by omega)) ?_ (hle := by (repeat' first | refine And.intro ?_ ?_ | exact xeC | fail) <;> exact xmW)
    rintro v h' ⟨cMb, rfl, rfl⟩ hcaps
    obtain ⟨g1, hI2⟩ := hI.un r
    rw [g1]
    obtain ⟨W2, hW2⟩ : ∃ W2, unW r W = W2 := ⟨_, rfl⟩
    obtain ⟨R2, hR2⟩ : ∃ R2, unRr r R = R2 := ⟨_, rfl⟩
    have ea : W.la = W2.la := by rw [← hW2]; unfold unW; split <;> rfl
    have el : W.l = W2.l := by rw [← hW2]; unfold unW; split <;> rfl
    have er : R.l = R2.l := by rw [← hR2]; unfold unRr; split <;> rfl
    rw [hW2, hR2] at hI2
    rw [hW2, hR2]
    refine rH18ziL5 ?_
    rw [rd_fun (G := 15) (fun x => rfl), ea, el, er]
    repeat' (first | (fail_if_success (with_reducible refine xstp ?_)); first | ((with_reducible refine And.intro (fun (hb : _ = true) => ?_) (fun (hb : _ = false) => ?_)) <;> replace hb := xnC hb <;> (try first | exact xfC | exact bff hb (by assumption) | exact bff (by assumption) hb | (exfalso; simp only [List.length_nil] at hb; omega) | (exfalso; revert hb; decide) | (exfalso; simp at hb; done))) | (with_reducible refine Both.mk ?_ ?_) | ((with_reducible refine And.intro ?_ ?_); focus exact xoC) | ((with_reducible refine Or.inl ⟨?_, ?_, ?_⟩); (focus rfl); focus exact xaC) | ((with_reducible refine xwB ?_ ?_); focus exact xaC) | ((with_reducible refine xwC ?_ ?_); focus exact xaC) | ((with_reducible refine xwD ?_ ?_); focus exact xaC) | ((with_reducible refine xwE ?_ ?_); focus exact xaC) | (with_reducible intro hc; (try simp only [capsP, and_true] at hc); (try exact xfC)) | ((fail_if_success (with_reducible first | refine xgon ?_ | intro _)); (conv => whnf); (fail_if_success (fail_if_success (with_reducible first | refine xstp ?_ | refine Both.mk ?_ ?_ | refine xgon ?_ | intro _)))))
    have hok2 := hI2.rl.ok hI2.ok
    have hM2 := hI2.M
    have hl2 := hI2.len
    have hl3 : R2.l.length ≤ 1000000 := by rw [hI2.rl.l]; omega
    refine cH18ziL7 (σ := [.whole 2, .name 3, .whole 4, .whole 6, .name 7]) (nl := []) (cnext 7 per q W2 cf hI2.ok) ?_ (hle := by (repeat' first | refine And.intro ?_ ?_ | exact xeC | fail) <;> exact xmW)
    rintro v h' ⟨b, is, hnx, rfl, rfl⟩ hcaps
    refine rH18ziL4 ?_
    repeat' (first | (fail_if_success (with_reducible refine xstp ?_)); first | ((fail_if_success (with_reducible first | refine xgon ?_ | intro _)); (conv => whnf); (fail_if_success (fail_if_success (with_reducible first | refine xstp ?_ | refine xgon ?_ | intro _)))))
    refine cH18ziL7 (σ := [.whole 8, .name 9, .whole 14, .name 11, .name 15]) (nl := []) (rnext 7 per q R2 cMb cf2 hok2 (by omega)) ?_ (hle := by (repeat' first | refine And.intro ?_ ?_ | exact xeC | fail) <;> exact xmW)
    rintro v h' ⟨b', is', hny, rfl, rfl⟩ hcaps
    obtain ⟨rfl, rfl⟩ := hI2.rl.next hnx hny
    refine rH18ziL4 ?_
    rw [rd_fun (G := 15) (fun x => rfl)]
    repeat' (first | (fail_if_success (with_reducible refine xstp ?_)); first | ((with_reducible refine And.intro (fun (hb : _ = true) => ?_) (fun (hb : _ = false) => ?_)) <;> replace hb := xnC hb <;> (try first | exact xfC | exact bff hb (by assumption) | exact bff (by assumption) hb | (exfalso; simp only [List.length_nil] at hb; omega) | (exfalso; revert hb; decide) | (exfalso; simp at hb; done))) | (with_reducible refine Both.mk ?_ ?_) | ((with_reducible refine And.intro ?_ ?_); focus exact xoC) | ((with_reducible refine Or.inl ⟨?_, ?_, ?_⟩); (focus rfl); focus exact xaC) | ((with_reducible refine xwB ?_ ?_); focus exact xaC) | ((with_reducible refine xwC ?_ ?_); focus exact xaC) | ((with_reducible refine xwD ?_ ?_); focus exact xaC) | ((with_reducible refine xwE ?_ ?_); focus exact xaC) | (with_reducible intro hc; (try simp only [capsP, and_true] at hc); (try exact xfC)) | ((fail_if_success (with_reducible first | refine xgon ?_ | intro _)); (conv => whnf); (fail_if_success (fail_if_success (with_reducible first | refine xstp ?_ | refine Both.mk ?_ ?_ | refine xgon ?_ | intro _)))))
    refine cH18ziL7 (σ := [.whole 2, .name 3, .whole 4, .whole 6, .name 7]) (nl := []) (cacked 7 per W2.la q W2 cf r hI2.ok) ?_ (hle := by (repeat' first | refine And.intro ?_ ?_ | exact xeC | fail) <;> exact xmW)
    rintro v h' ⟨rfl, rfl⟩ hcaps
    refine rH18ziL4 ?_
    repeat' (first | (fail_if_success (with_reducible refine xstp ?_)); first | ((fail_if_success (with_reducible first | refine xgon ?_ | intro _)); (conv => whnf); (fail_if_success (fail_if_success (with_reducible first | refine xstp ?_ | refine xgon ?_ | intro _)))))
    refine cH18ziL7 (σ := [.whole 8, .name 9, .whole 14, .name 11, .name 15]) (nl := []) (racked 7 per R2.la q R2 cMb cf2 r hok2 (by omega)) ?_ (hle := by (repeat' first | refine And.intro ?_ ?_ | exact xeC | fail) <;> exact xmW)
    rw [hI2.rl.acked]
    rintro v h' ⟨rfl, rfl⟩ hcaps
    refine rH18ziL4 ?_
    rw [rd_fun (G := 15) (fun x => rfl)]
    repeat' (first | (fail_if_success (with_reducible refine xstp ?_)); first | ((with_reducible refine And.intro (fun (hb : _ = true) => ?_) (fun (hb : _ = false) => ?_)) <;> replace hb := xnC hb <;> (try first | exact xfC | exact bff hb (by assumption) | exact bff (by assumption) hb | (exfalso; simp only [List.length_nil] at hb; omega) | (exfalso; revert hb; decide) | (exfalso; simp at hb; done))) | (with_reducible refine Both.mk ?_ ?_) | ((with_reducible refine And.intro ?_ ?_); focus exact xoC) | ((with_reducible refine Or.inl ⟨?_, ?_, ?_⟩); (focus rfl); focus exact xaC) | ((with_reducible refine xwB ?_ ?_); focus exact xaC) | ((with_reducible refine xwC ?_ ?_); focus exact xaC) | ((with_reducible refine xwD ?_ ?_); focus exact xaC) | ((with_reducible refine xwE ?_ ?_); focus exact xaC) | (with_reducible intro hc; (try simp only [capsP, and_true] at hc); (try exact xfC)) | ((fail_if_success (with_reducible first | refine xgon ?_ | intro _)); (conv => whnf); (fail_if_success (fail_if_success (with_reducible first | refine xstp ?_ | refine Both.mk ?_ ?_ | refine xgon ?_ | intro _)))))
    refine cH18ziL7 (σ := [.whole 2, .whole 3, .name 4, .whole 5]) (nl := []) (cheld 7 per W2.la q W2.l cw (by omega)) ?_
    rintro v h' ⟨cx, rfl, rfl⟩ hcaps
    refine rH18ziL4 ?_
    repeat' (first | (fail_if_success (with_reducible refine xstp ?_)); first | ((fail_if_success (with_reducible first | refine xgon ?_ | intro _)); (conv => whnf); (fail_if_success (fail_if_success (with_reducible first | refine xstp ?_ | refine xgon ?_ | intro _)))))
    refine cH18ziL7 (σ := [.whole 8, .whole 9, .name 14, .whole 11]) (nl := []) (rheld 7 per R2.la q R2.S.length cMb R2.l c2 hl3) ?_
    rintro v h' ⟨cy, rfl, rfl⟩ hcaps
    refine rH18ziL4 ?_
    repeat' (first | (fail_if_success (with_reducible refine xstp ?_)); first | ((fail_if_success (with_reducible first | refine xgon ?_ | intro _)); (conv => whnf); (fail_if_success (fail_if_success (with_reducible first | refine xstp ?_ | refine xgon ?_ | intro _)))))
    refine cH18ziL7 (σ := [.whole 16, .whole 17]) (nl := []) (rsame cx cy true true W2.l R2.l (by omega) hl3) ?_
    rw [show decide (W2.l = R2.l) = true from decide_eq_true hI2.rl.l.symm]
    rintro v h' ⟨rfl, rfl⟩ hcaps
    refine rH18ziL4 ?_
    repeat' (first | (fail_if_success (with_reducible refine xstp ?_)); first | ((with_reducible refine And.intro (fun (hb : _ = true) => ?_) (fun (hb : _ = false) => ?_)) <;> replace hb := xnC hb <;> (try first | exact xfC | exact bff hb (by assumption) | exact bff (by assumption) hb | (exfalso; simp only [List.length_nil] at hb; omega) | (exfalso; revert hb; decide) | (exfalso; simp at hb; done))) | (with_reducible refine Both.mk ?_ ?_) | ((with_reducible refine And.intro ?_ ?_); focus exact xoC) | ((with_reducible refine Or.inl ⟨?_, ?_, ?_⟩); (focus rfl); focus exact xaC) | ((with_reducible refine xwB ?_ ?_); focus exact xaC) | ((with_reducible refine xwC ?_ ?_); focus exact xaC) | ((with_reducible refine xwD ?_ ?_); focus exact xaC) | ((with_reducible refine xwE ?_ ?_); focus exact xaC) | (with_reducible intro hc; (try simp only [capsP, and_true] at hc); (try exact xfC)) | ((fail_if_success (with_reducible first | refine xgon ?_ | intro _)); (conv => whnf); (fail_if_success (fail_if_success (with_reducible first | refine xstp ?_ | refine Both.mk ?_ ?_ | refine xgon ?_ | intro _)))))
    refine ⟨⟨⟨i + 1, now + x.lt, W2, R2, cw, cf, cMb, c2, cf2⟩, by simp only; omega, ⟨by simp only; omega, by simp only; omega⟩, hI2⟩, [0, 1, 2, 3, 4, 5, 6, 7, 8, 9, 14, 11, 15], by simp only; omega, ?_⟩
    (repeat' first | refine And.intro ?_ ?_ | exact xeC | fail)
    all_goals first
      | exact xmW
      | omega
      | (intro y; rw [← hW2]; exact rqs_un y)
      | skip
    all_goals trace_state
  · skip
    have hback := rq_back (f := spG l) hsp
    have hback2 := rq_back (f := spG l) (x := i) (c := ints false (ackP 7 x).m x.cm) hsp
    refine cH18ziL7 (σ := [.mem 1 (i)]) (nl := []) (cackP 7 x hxr (by omega)) ?_ (hle := by (repeat' first | refine And.intro ?_ ?_ | exact xeC | fail) <;> (first | exact xmW | (refine ManyK.mk ⟨_, hsp, ?_⟩ <;> (repeat' first | refine And.intro ?_ ?_ | exact xeC | fail))))
    rintro v h' ⟨rfl, rfl⟩ hcaps
    refine rH18ziL6 ?_
    rw [hback]
    repeat' (first | (fail_if_success (with_reducible refine xstp ?_)); first | ((with_reducible refine And.intro ?_ ?_); focus exact xoC) | ((fail_if_success (with_reducible first | refine xgon ?_ | intro _)); (conv => whnf); (fail_if_success (fail_if_success (with_reducible first | refine xstp ?_ | refine xgon ?_ | intro _)))))
    refine cH18ziL7 (σ := [.whole 2, .name 3, .whole 4, .whole 6, .whole 7, .mem 1 (i)]) (nl := []) (cack 7 per q W cf (ackP 7 x) false x.cm (now + x.lt) hI.ok ⟨hla.1, by omega⟩ (Nat.zero_le _) (show x.m.length ≤ 1000000 by omega) (fun y p hy => (hI.pr y p hy).1.rq)) ?_ (hle := by (repeat' first | refine And.intro ?_ ?_ | exact xeC | fail) <;> (first | exact xmW | (refine ManyK.mk ⟨_, hsp, ?_⟩ <;> (repeat' first | refine And.intro ?_ ?_ | exact xeC | fail) <;> exact xmW)))
    rintro v h' ⟨ca, rfl, rfl⟩ hcaps
    refine rH18ziL6 ?_
    rw [hback2]
    repeat' (first | (fail_if_success (with_reducible refine xstp ?_)); first | ((with_reducible refine And.intro ?_ ?_); focus exact xoC) | ((fail_if_success (with_reducible first | refine xgon ?_ | intro _)); (conv => whnf); (fail_if_success (fail_if_success (with_reducible first | refine xstp ?_ | refine xgon ?_ | intro _)))))
    refine cH18ziL7 (σ := [.mem 1 (i)]) (nl := []) (cackP 7 x hxr (by omega)) ?_ (hle := by (repeat' first | refine And.intro ?_ ?_ | exact xeC | fail) <;> (first | exact xmW | (refine ManyK.mk ⟨_, hsp, ?_⟩ <;> (repeat' first | refine And.intro ?_ ?_ | exact xeC | fail))))
    rintro v h' ⟨rfl, rfl⟩ hcaps
    refine rH18ziL6 ?_
    rw [hback]
    repeat' (first | (fail_if_success (with_reducible refine xstp ?_)); first | ((fail_if_success (with_reducible first | refine xgon ?_ | intro _)); (conv => whnf); (fail_if_success (fail_if_success (with_reducible first | refine xstp ?_ | refine xgon ?_ | intro _)))))
    refine cH18ziL7 (σ := [.whole 8, .name 9, .whole 10, .name 11, .whole 12, .mem 1 (i)]) (nl := []) (rack 7 per q R cM cf2 (ackP 7 x) false x.cm (now + x.lt) hok (by omega) ⟨by omega, by omega⟩ (Nat.zero_le _) (show x.m.length ≤ 1000000 by omega) (fun y p hy => by have := hI.rq y p hy; omega)) ?_ (hle := by (repeat' first | refine And.intro ?_ ?_ | exact xeC | fail) <;> (first | exact xmW | (refine ManyK.mk ⟨_, hsp, ?_⟩ <;> (repeat' first | refine And.intro ?_ ?_ | exact xeC | fail) <;> exact xmW)))
    rintro v h' ⟨cb, rfl, rfl⟩ hcaps
    obtain ⟨g1, hI2⟩ := hI.ak (ackP 7 x) (by omega)
    rw [g1]
    have el : W.l = (akW 7 (ackP 7 x) W).l := by
      unfold akW
      split
      · split <;> rfl
      · rfl
    have er : R.l = (akRr 7 (ackP 7 x) R).l := by
      unfold akRr
      split
      · split <;> rfl
      · rfl
    generalize akW 7 (ackP 7 x) W = W2 at *
    generalize akRr 7 (ackP 7 x) R = R2 at *
    refine rH18ziL6 ?_
    rw [hback2, rd_fun (G := 15) (fun x => rfl), el, er]
    repeat' (first | (fail_if_success (with_reducible refine xstp ?_)); first | ((with_reducible refine And.intro (fun (hb : _ = true) => ?_) (fun (hb : _ = false) => ?_)) <;> replace hb := xnC hb <;> (try first | exact xfC | exact bff hb (by assumption) | exact bff (by assumption) hb | (exfalso; simp only [List.length_nil] at hb; omega) | (exfalso; revert hb; decide) | (exfalso; simp at hb; done))) | (with_reducible refine Both.mk ?_ ?_) | ((with_reducible refine And.intro ?_ ?_); focus exact xoC) | ((with_reducible refine Or.inl ⟨?_, ?_, ?_⟩); (focus rfl); focus exact xaC) | ((with_reducible refine xwB ?_ ?_); focus exact xaC) | ((with_reducible refine xwC ?_ ?_); focus exact xaC) | ((with_reducible refine xwD ?_ ?_); focus exact xaC) | ((with_reducible refine xwE ?_ ?_); focus exact xaC) | (with_reducible intro hc; (try simp only [capsP, and_true] at hc); (try exact xfC)) | ((fail_if_success (with_reducible first | refine xgon ?_ | intro _)); (conv => whnf); (fail_if_success (fail_if_success (with_reducible first | refine xstp ?_ | refine Both.mk ?_ ?_ | refine xgon ?_ | intro _)))))
    have hok2 := hI2.rl.ok hI2.ok
    have hM2 := hI2.M
    have hl2 := hI2.len
    have hl3 : R2.l.length ≤ 1000000 := by rw [hI2.rl.l]; omega
    refine cH18ziL7 (σ := [.whole 2, .name 3, .whole 4, .whole 6, .name 14]) (nl := []) (cnext 7 per q W2 ca hI2.ok) ?_ (hle := by (repeat' first | refine And.intro ?_ ?_ | exact xeC | fail) <;> exact xmW)
    rintro v h' ⟨b, is, hnx, rfl, rfl⟩ hcaps
    refine rH18ziL4 ?_
    repeat' (first | (fail_if_success (with_reducible refine xstp ?_)); first | ((fail_if_success (with_reducible first | refine xgon ?_ | intro _)); (conv => whnf); (fail_if_success (fail_if_success (with_reducible first | refine xstp ?_ | refine xgon ?_ | intro _)))))
    refine cH18ziL7 (σ := [.whole 8, .name 9, .whole 10, .name 11, .name 15]) (nl := []) (rnext 7 per q R2 cM cb hok2 (by omega)) ?_ (hle := by (repeat' first | refine And.intro ?_ ?_ | exact xeC | fail) <;> exact xmW)
    rintro v h' ⟨b', is', hny, rfl, rfl⟩ hcaps
    obtain ⟨rfl, rfl⟩ := hI2.rl.next hnx hny
    refine rH18ziL4 ?_
    rw [rd_fun (G := 15) (fun x => rfl)]
    repeat' (first | (fail_if_success (with_reducible refine xstp ?_)); first | ((with_reducible refine And.intro (fun (hb : _ = true) => ?_) (fun (hb : _ = false) => ?_)) <;> replace hb := xnC hb <;> (try first | exact xfC | exact bff hb (by assumption) | exact bff (by assumption) hb | (exfalso; simp only [List.length_nil] at hb; omega) | (exfalso; revert hb; decide) | (exfalso; simp at hb; done))) | (with_reducible refine Both.mk ?_ ?_) | ((with_reducible refine And.intro ?_ ?_); focus exact xoC) | ((with_reducible refine Or.inl ⟨?_, ?_, ?_⟩); (focus rfl); focus exact xaC) | ((with_reducible refine xwB ?_ ?_); focus exact xaC) | ((with_reducible refine xwC ?_ ?_); focus exact xaC) | ((with_reducible refine xwD ?_ ?_); focus exact xaC) | ((with_reducible refine xwE ?_ ?_); focus exact xaC) | (with_reducible intro hc; (try simp only [capsP, and_true] at hc); (try exact xfC)) | ((fail_if_success (with_reducible first | refine xgon ?_ | intro _)); (conv => whnf); (fail_if_success (fail_if_success (with_reducible first | refine xstp ?_ | refine Both.mk ?_ ?_ | refine xgon ?_ | intro _)))))
    refine cH18ziL7 (σ := [.whole 2, .name 3, .whole 4, .whole 6, .name 14]) (nl := []) (cacked 7 per W2.la q W2 ca r hI2.ok) ?_ (hle := by (repeat' first | refine And.intro ?_ ?_ | exact xeC | fail) <;> exact xmW)
    rintro v h' ⟨rfl, rfl⟩ hcaps
    refine rH18ziL4 ?_
    repeat' (first | (fail_if_success (with_reducible refine xstp ?_)); first | ((fail_if_success (with_reducible first | refine xgon ?_ | intro _)); (conv => whnf); (fail_if_success (fail_if_success (with_reducible first | refine xstp ?_ | refine xgon ?_ | intro _)))))
    refine cH18ziL7 (σ := [.whole 8, .name 9, .whole 10, .name 11, .name 15]) (nl := []) (racked 7 per R2.la q R2 cM cb r hok2 (by omega)) ?_ (hle := by (repeat' first | refine And.intro ?_ ?_ | exact xeC | fail) <;> exact xmW)
    rw [hI2.rl.acked]
    rintro v h' ⟨rfl, rfl⟩ hcaps
    refine rH18ziL4 ?_
    rw [rd_fun (G := 15) (fun x => rfl)]
    repeat' (first | (fail_if_success (with_reducible refine xstp ?_)); first | ((with_reducible refine And.intro (fun (hb : _ = true) => ?_) (fun (hb : _ = false) => ?_)) <;> replace hb := xnC hb <;> (try first | exact xfC | exact bff hb (by assumption) | exact bff (by assumption) hb | (exfalso; simp only [List.length_nil] at hb; omega) | (exfalso; revert hb; decide) | (exfalso; simp at hb; done))) | (with_reducible refine Both.mk ?_ ?_) | ((with_reducible refine And.intro ?_ ?_); focus exact xoC) | ((with_reducible refine Or.inl ⟨?_, ?_, ?_⟩); (focus rfl); focus exact xaC) | ((with_reducible refine xwB ?_ ?_); focus exact xaC) | ((with_reducible refine xwC ?_ ?_); focus exact xaC) | ((with_reducible refine xwD ?_ ?_); focus exact xaC) | ((with_reducible refine xwE ?_ ?_); focus exact xaC) | (with_reducible intro hc; (try simp only [capsP, and_true] at hc); (try exact xfC)) | ((fail_if_success (with_reducible first | refine xgon ?_ | intro _)); (conv => whnf); (fail_if_success (fail_if_success (with_reducible first | refine xstp ?_ | refine Both.mk ?_ ?_ | refine xgon ?_ | intro _)))))
    refine cH18ziL7 (σ := [.whole 2, .whole 3, .name 4, .whole 5]) (nl := []) (cheld 7 per W2.la q W2.l cw (by omega)) ?_
    rintro v h' ⟨cx, rfl, rfl⟩ hcaps
    refine rH18ziL4 ?_
    repeat' (first | (fail_if_success (with_reducible refine xstp ?_)); first | ((fail_if_success (with_reducible first | refine xgon ?_ | intro _)); (conv => whnf); (fail_if_success (fail_if_success (with_reducible first | refine xstp ?_ | refine xgon ?_ | intro _)))))
    refine cH18ziL7 (σ := [.whole 8, .whole 9, .name 10, .whole 11]) (nl := []) (rheld 7 per R2.la q R2.S.length cM R2.l c2 hl3) ?_
    rintro v h' ⟨cy, rfl, rfl⟩ hcaps
    refine rH18ziL4 ?_
    repeat' (first | (fail_if_success (with_reducible refine xstp ?_)); first | ((fail_if_success (with_reducible first | refine xgon ?_ | intro _)); (conv => whnf); (fail_if_success (fail_if_success (with_reducible first | refine xstp ?_ | refine xgon ?_ | intro _)))))
    refine cH18ziL7 (σ := [.whole 16, .whole 17]) (nl := []) (rsame cx cy true true W2.l R2.l (by omega) hl3) ?_
    rw [show decide (W2.l = R2.l) = true from decide_eq_true hI2.rl.l.symm]
    rintro v h' ⟨rfl, rfl⟩ hcaps
    refine rH18ziL4 ?_
    repeat' (first | (fail_if_success (with_reducible refine xstp ?_)); first | ((with_reducible refine And.intro (fun (hb : _ = true) => ?_) (fun (hb : _ = false) => ?_)) <;> replace hb := xnC hb <;> (try first | exact xfC | exact bff hb (by assumption) | exact bff (by assumption) hb | (exfalso; simp only [List.length_nil] at hb; omega) | (exfalso; revert hb; decide) | (exfalso; simp at hb; done))) | (with_reducible refine Both.mk ?_ ?_) | ((with_reducible refine And.intro ?_ ?_); focus exact xoC) | ((with_reducible refine Or.inl ⟨?_, ?_, ?_⟩); (focus rfl); focus exact xaC) | ((with_reducible refine xwB ?_ ?_); focus exact xaC) | ((with_reducible refine xwC ?_ ?_); focus exact xaC) | ((with_reducible refine xwD ?_ ?_); focus exact xaC) | ((with_reducible refine xwE ?_ ?_); focus exact xaC) | (with_reducible intro hc; (try simp only [capsP, and_true] at hc); (try exact xfC)) | ((fail_if_success (with_reducible first | refine xgon ?_ | intro _)); (conv => whnf); (fail_if_success (fail_if_success (with_reducible first | refine xstp ?_ | refine Both.mk ?_ ?_ | refine xgon ?_ | intro _)))))
    refine ⟨⟨⟨i + 1, now + x.lt, W2, R2, cw, ca, cM, c2, cb⟩, by simp only; omega, ⟨by simp only; omega, by simp only; omega⟩, hI2⟩, [0, 1, 2, 3, 4, 5, 6, 14, 8, 9, 10, 11, 15], by simp only; omega, ?_⟩
    (repeat' first | refine And.intro ?_ ?_ | exact xeC | fail)
    all_goals first
      | exact xmW
      | omega
      | (intro y; rw [← hW2]; exact rqs_un y)
      | skip
    all_goals trace_state
  · skip
    refine cH18ziL7 (σ := [.whole 2, .whole 3, .whole 4, .whole 5, .whole 6, .whole 7]) (nl := []) (cpollW 7 per q W cw cf (now + x.lt) hI.ok (by omega) (by omega) ⟨hla.1, by omega⟩ (fun y p hy => (hI.pr y p hy).1) hpe (fun s hs => (hI.smp s hs).2.2) hql) ?_ (hle := by (repeat' first | refine And.intro ?_ ?_ | exact xeC | fail) <;> exact xmW)
    rintro v h' ⟨ca, cfa, co, rfl, rfl⟩ hcaps
    refine rH18ziL3 ?_
    repeat' (first | (fail_if_success (with_reducible refine xstp ?_)); first | ((fail_if_success (with_reducible first | refine xgon ?_ | intro _)); (conv => whnf); (fail_if_success (fail_if_success (with_reducible first | refine xstp ?_ | refine xgon ?_ | intro _)))))
    refine cH18ziL7 (σ := [.whole 8, .whole 9, .whole 10, .whole 11, .whole 12]) (nl := []) (rpollW 7 per q R cM c2 cf2 (now + x.lt) hok (by omega) hRl ⟨by omega, by omega⟩ (fun y p hy => prR hI (by omega) hy) hpe (fun s hs => (hI.smp s (hI.rl.l ▸ hs)).2.2) hql.2) ?_ (hle := by (repeat' first | refine And.intro ?_ ?_ | exact xeC | fail) <;> exact xmW)
    rintro v h' ⟨cb, cfb, cp, rfl, rfl⟩ hcaps
    obtain ⟨g1, hI2⟩ := hI.po per q (now + x.lt)
    rw [g1]
    clear g1
    have hol := poL_le hI hMM.1 (by omega) q (now + x.lt)
    generalize poW per q (now + x.lt) W = W2 at *
    generalize poRr per q (now + x.lt) R = R2 at *
    generalize poL 7 q (now + x.lt) W = o at *
    refine rH18ziL3 ?_
    rw [rd_fun (G := 20) (fun x => rfl)]
    repeat' (first | (fail_if_success (with_reducible refine xstp ?_)); first | ((fail_if_success (with_reducible first | refine xgon ?_ | intro _)); (conv => whnf); (fail_if_success (fail_if_success (with_reducible first | refine xstp ?_ | refine xgon ?_ | intro _)))))
    refine cH18ziL7 (σ := [.whole 16, .whole 18]) (nl := []) (cPackets o co cp hol) ?_
    rintro v h' ⟨rfl, rfl⟩ hcaps
    refine rH18ziL6 ?_
    repeat' (first | (fail_if_success (with_reducible refine xstp ?_)); first | ((with_reducible refine And.intro (fun (hb : _ = true) => ?_) (fun (hb : _ = false) => ?_)) <;> replace hb := xnC hb <;> (try first | exact xfC | exact bff hb (by assumption) | exact bff (by assumption) hb | (exfalso; simp only [List.length_nil] at hb; omega) | (exfalso; revert hb; decide) | (exfalso; simp at hb; done))) | (with_reducible refine Both.mk ?_ ?_) | ((with_reducible refine And.intro ?_ ?_); focus exact xoC) | ((with_reducible refine Or.inl ⟨?_, ?_, ?_⟩); (focus rfl); focus exact xaC) | ((with_reducible refine xwB ?_ ?_); focus exact xaC) | ((with_reducible refine xwC ?_ ?_); focus exact xaC) | ((with_reducible refine xwD ?_ ?_); focus exact xaC) | ((with_reducible refine xwE ?_ ?_); focus exact xaC) | (with_reducible intro hc; (try simp only [capsP, and_true] at hc); (try exact xfC)) | ((fail_if_success (with_reducible first | refine xgon ?_ | intro _)); (conv => whnf); (fail_if_success (fail_if_success (with_reducible first | refine xstp ?_ | refine Both.mk ?_ ?_ | refine xgon ?_ | intro _)))))
    have hok2 := hI2.rl.ok hI2.ok
    have hM2 := hI2.M
    have hl2 := hI2.len
    have hl3 : R2.l.length ≤ 1000000 := by rw [hI2.rl.l]; omega
    refine cH18ziL7 (σ := [.whole 2, .name 3, .whole 4, .whole 6, .name 15]) (nl := []) (cnext 7 per q W2 cfa hI2.ok) ?_ (hle := by (repeat' first | refine And.intro ?_ ?_ | exact xeC | fail) <;> exact xmW)
    rintro v h' ⟨b, is, hnx, rfl, rfl⟩ hcaps
    refine rH18ziL4 ?_
    repeat' (first | (fail_if_success (with_reducible refine xstp ?_)); first | ((fail_if_success (with_reducible first | refine xgon ?_ | intro _)); (conv => whnf); (fail_if_success (fail_if_success (with_reducible first | refine xstp ?_ | refine xgon ?_ | intro _)))))
    refine cH18ziL7 (σ := [.whole 8, .name 9, .whole 19, .name 17, .name 20]) (nl := []) (rnext 7 per q R2 cM cfb hok2 (by omega)) ?_ (hle := by (repeat' first | refine And.intro ?_ ?_ | exact xeC | fail) <;> exact xmW)
    rintro v h' ⟨b', is', hny, rfl, rfl⟩ hcaps
    obtain ⟨rfl, rfl⟩ := hI2.rl.next hnx hny
    refine rH18ziL4 ?_
    rw [rd_fun (G := 20) (fun x => rfl)]
    repeat' (first | (fail_if_success (with_reducible refine xstp ?_)); first | ((with_reducible refine And.intro (fun (hb : _ = true) => ?_) (fun (hb : _ = false) => ?_)) <;> replace hb := xnC hb <;> (try first | exact xfC | exact bff hb (by assumption) | exact bff (by assumption) hb | (exfalso; simp only [List.length_nil] at hb; omega) | (exfalso; revert hb; decide) | (exfalso; simp at hb; done))) | (with_reducible refine Both.mk ?_ ?_) | ((with_reducible refine And.intro ?_ ?_); focus exact xoC) | ((with_reducible refine Or.inl ⟨?_, ?_, ?_⟩); (focus rfl); focus exact xaC) | ((with_reducible refine xwB ?_ ?_); focus exact xaC) | ((with_reducible refine xwC ?_ ?_); focus exact xaC) | ((with_reducible refine xwD ?_ ?_); focus exact xaC) | ((with_reducible refine xwE ?_ ?_); focus exact xaC) | (with_reducible intro hc; (try simp only [capsP, and_true] at hc); (try exact xfC)) | ((fail_if_success (with_reducible first | refine xgon ?_ | intro _)); (conv => whnf); (fail_if_success (fail_if_success (with_reducible first | refine xstp ?_ | refine Both.mk ?_ ?_ | refine xgon ?_ | intro _)))))
    refine cH18ziL7 (σ := [.whole 2, .name 3, .whole 4, .whole 6, .name 15]) (nl := []) (cacked 7 per W2.la q W2 cfa r hI2.ok) ?_ (hle := by (repeat' first | refine And.intro ?_ ?_ | exact xeC | fail) <;> exact xmW)
    rintro v h' ⟨rfl, rfl⟩ hcaps
    refine rH18ziL4 ?_
    repeat' (first | (fail_if_success (with_reducible refine xstp ?_)); first | ((fail_if_success (with_reducible first | refine xgon ?_ | intro _)); (conv => whnf); (fail_if_success (fail_if_success (with_reducible first | refine xstp ?_ | refine xgon ?_ | intro _)))))
    refine cH18ziL7 (σ := [.whole 8, .name 9, .whole 19, .name 17, .name 20]) (nl := []) (racked 7 per R2.la q R2 cM cfb r hok2 (by omega)) ?_ (hle := by (repeat' first | refine And.intro ?_ ?_ | exact xeC | fail) <;> exact xmW)
    rw [hI2.rl.acked]
    rintro v h' ⟨rfl, rfl⟩ hcaps
    refine rH18ziL4 ?_
    rw [rd_fun (G := 20) (fun x => rfl)]
    repeat' (first | (fail_if_success (with_reducible refine xstp ?_)); first | ((with_reducible refine And.intro (fun (hb : _ = true) => ?_) (fun (hb : _ = false) => ?_)) <;> replace hb := xnC hb <;> (try first | exact xfC | exact bff hb (by assumption) | exact bff (by assumption) hb | (exfalso; simp only [List.length_nil] at hb; omega) | (exfalso; revert hb; decide) | (exfalso; simp at hb; done))) | (with_reducible refine Both.mk ?_ ?_) | ((with_reducible refine And.intro ?_ ?_); focus exact xoC) | ((with_reducible refine Or.inl ⟨?_, ?_, ?_⟩); (focus rfl); focus exact xaC) | ((with_reducible refine xwB ?_ ?_); focus exact xaC) | ((with_reducible refine xwC ?_ ?_); focus exact xaC) | ((with_reducible refine xwD ?_ ?_); focus exact xaC) | ((with_reducible refine xwE ?_ ?_); focus exact xaC) | (with_reducible intro hc; (try simp only [capsP, and_true] at hc); (try exact xfC)) | ((fail_if_success (with_reducible first | refine xgon ?_ | intro _)); (conv => whnf); (fail_if_success (fail_if_success (with_reducible first | refine xstp ?_ | refine Both.mk ?_ ?_ | refine xgon ?_ | intro _)))))
    refine cH18ziL7 (σ := [.whole 2, .whole 3, .name 4, .whole 14]) (nl := []) (cheld 7 per W2.la q W2.l ca (by omega)) ?_
    rintro v h' ⟨cx, rfl, rfl⟩ hcaps
    refine rH18ziL4 ?_
    repeat' (first | (fail_if_success (with_reducible refine xstp ?_)); first | ((fail_if_success (with_reducible first | refine xgon ?_ | intro _)); (conv => whnf); (fail_if_success (fail_if_success (with_reducible first | refine xstp ?_ | refine xgon ?_ | intro _)))))
    refine cH18ziL7 (σ := [.whole 8, .whole 9, .name 19, .whole 17]) (nl := []) (rheld 7 per R2.la q R2.S.length cM R2.l cb hl3) ?_
    rintro v h' ⟨cy, rfl, rfl⟩ hcaps
    refine rH18ziL4 ?_
    repeat' (first | (fail_if_success (with_reducible refine xstp ?_)); first | ((fail_if_success (with_reducible first | refine xgon ?_ | intro _)); (conv => whnf); (fail_if_success (fail_if_success (with_reducible first | refine xstp ?_ | refine xgon ?_ | intro _)))))
    refine cH18ziL7 (σ := [.whole 21, .whole 22]) (nl := []) (rsame cx cy true true W2.l R2.l (by omega) hl3) ?_
    rw [show decide (W2.l = R2.l) = true from decide_eq_true hI2.rl.l.symm]
    rintro v h' ⟨rfl, rfl⟩ hcaps
    refine rH18ziL4 ?_
    repeat' (first | (fail_if_success (with_reducible refine xstp ?_)); first | ((with_reducible refine And.intro (fun (hb : _ = true) => ?_) (fun (hb : _ = false) => ?_)) <;> replace hb := xnC hb <;> (try first | exact xfC | exact bff hb (by assumption) | exact bff (by assumption) hb | (exfalso; simp only [List.length_nil] at hb; omega) | (exfalso; revert hb; decide) | (exfalso; simp at hb; done))) | (with_reducible refine Both.mk ?_ ?_) | ((with_reducible refine And.intro ?_ ?_); focus exact xoC) | ((with_reducible refine Or.inl ⟨?_, ?_, ?_⟩); (focus rfl); focus exact xaC) | ((with_reducible refine xwB ?_ ?_); focus exact xaC) | ((with_reducible refine xwC ?_ ?_); focus exact xaC) | ((with_reducible refine xwD ?_ ?_); focus exact xaC) | ((with_reducible refine xwE ?_ ?_); focus exact xaC) | (with_reducible intro hc; (try simp only [capsP, and_true] at hc); (try exact xfC)) | ((fail_if_success (with_reducible first | refine xgon ?_ | intro _)); (conv => whnf); (fail_if_success (fail_if_success (with_reducible first | refine xstp ?_ | refine Both.mk ?_ ?_ | refine xgon ?_ | intro _)))))
    refine ⟨⟨⟨i + 1, now + x.lt, W2, R2, ca, cfa, cM, cb, cfb⟩, by simp only; omega, ⟨by simp only; omega, by simp only; omega⟩, hI2⟩, [0, 1, 2, 3, 4, 14, 6, 15, 8, 9, 19, 17, 20], by simp only; omega, ?_⟩
    (repeat' first | refine And.intro ?_ ?_ | exact xeC | fail)
    all_goals first
      | exact xmW
      | omega
      | (intro y; rw [← hW2]; exact rqs_un y)
      | skip
    all_goals trace_state
end Go.Proofs.YtofcadbfjbefkaaGreat


namespace Go.Proofs.YtofcadbfjbefkaaGreat
open Go.X Go.RowKit
set_option linter.unusedVariables false
abbrev kQw : List K := [.b, .b, .b, .i .i64, .i .i64, .i .i64, .i .i64]
abbrev kSp : List K := [.i .u8, .i .u8, .i .i64, .sl [.i .i64], .b, .b, .b, .i .i64, .i .i64, .i .i64, .i .i64, .s, .i .u8]
theorem ft_Qw {l : List C} (h : FT kQw l) : ∃ q : Qos, l = encQ q := by
  obtain ⟨a, l1, rfl, h1⟩ := FT_b h
  obtain ⟨b, l2, rfl, h2⟩ := FT_b h1
  obtain ⟨c, l3, rfl, h3⟩ := FT_b h2
  obtain ⟨d, l4, rfl, _, h4⟩ := FT_i h3
  obtain ⟨e, l5, rfl, _, h5⟩ := FT_i h4
  obtain ⟨f, l6, rfl, _, h6⟩ := FT_i h5
  obtain ⟨g, l7, rfl, _, h7⟩ := FT_i h6
  obtain rfl := FT_nil h7
  exact ⟨⟨a, b, c, d, e, f, g⟩, rfl⟩
theorem ft_Iw {l : List C} (h : FT [.i .i64] l) : ∃ x : Int, l = Go.X.encI x ∧ True := by
  obtain ⟨a, _, rfl, _, h1⟩ := FT_i h
  obtain rfl := FT_nil h1
  exact ⟨a, rfl, trivial⟩
theorem ft_Sp {W : World} {B : Nat → Nat × Nat × Fl} {D : List DC} (h : FD W B 0 kSp D) :
    ∃ x : Sp, (∀ F i, layD F i 0 D = encSp (.sl (F 3) i 1 0 x.m.length x.cm) x) ∧ (∀ β, (ints false x.m x.cm).holds β W (B 3)) ∧ okSp x := by
  obtain ⟨a0, _, rfl, r0, h1⟩ := FD_i h
  obtain ⟨a1, _, rfl, r1, h2⟩ := FD_i h1
  obtain ⟨a2, _, rfl, _, h3⟩ := FD_i h2
  obtain ⟨n, c, R, _, rfl, hnc, hn, hh, hg, h4⟩ := FD_n h3
  obtain ⟨q0, _, rfl, h5⟩ := FD_b h4
  obtain ⟨q1, _, rfl, h6⟩ := FD_b h5
  obtain ⟨q2, _, rfl, h7⟩ := FD_b h6
  obtain ⟨q3, _, rfl, _, h8⟩ := FD_i h7
  obtain ⟨q4, _, rfl, _, h9⟩ := FD_i h8
  obtain ⟨q5, _, rfl, _, h10⟩ := FD_i h9
  obtain ⟨q6, _, rfl, _, h11⟩ := FD_i h10
  obtain ⟨p, _, rfl, hp, h12⟩ := FD_s h11
  obtain ⟨a3, _, rfl, r3, h13⟩ := FD_i h12
  obtain rfl := FD_nil h13
  obtain ⟨m, hl, hge, _⟩ := list_of Go.X.encI (Pr := fun _ => True) (fun i hi => ft_Iw (hg i hi))
  subst hl
  exact ⟨⟨a0, a1, a2, m, c, ⟨q0, q1, q2, q3, q4, q5, q6⟩, p, a3⟩, fun F i => rfl, fun β => holds_row_congr (hh β _) hge, r0, r1, r3⟩
theorem steps_view {W : World} {v : Value} (k : VK W (.sl kSp) v) :
    ∃ (β : Nm) (l : List Sp) (c : Nat), (C.sl 0 0 13 0 l.length c).ren β = v ∧ Fits β [.one (spR 1 l c), .many (spG l)] W ∧ (∀ f x, (Go.X.get [.one (spR 1 l c), .many (spG l)] f x).owned = false) ∧ l.length ≤ maxLen ∧ ∀ i, i < l.length → okSp (l.getD i default) := by
  obtain ⟨n, c, D, B, hv, hh, hn, _, _, hD⟩ := nest_view (by rfl) k
  obtain ⟨l, hl, hx⟩ := list_ix (fun i hi => ft_Sp (hD i hi))
  subst hl
  have hrow := hh (nmQ (nameOf v) B 3) (Fq 3) 40 (fun i y _ _ => nmQ_at _ B 3 i y)
  obtain ⟨hf, hno⟩ := fits_nest (β := nmQ (nameOf v) B 3) (g := spG l) (holds_rowK_congr hrow (fun i hi => (hx i hi).1 (Fq 3) i)) rfl (fun i => by
    unfold spG
    split
    · rename_i hi
      exact (hx i hi).2.1 _
    · trivial) (fun i => by unfold spG; split <;> rfl)
  exact ⟨nmQ (nameOf v) B 3, l, c, hv _ 0 0 13 rfl, hf, hno, hn, fun i hi => (hx i hi).2.2⟩
theorem walk_WriterPlays (W : World) (c0 : Array Value) (k0 : VKs W kQw c0.toList) (a1 : Int) (w1 : (Lit.int .u16 a1).wf = true) (v2 : Value) (k2 : VK W (.sl kSp) v2) (_e2 : ∀ a n c, v2 = .slice (some a) n c → a.spot = none) :
    Calls Tryz.prog 3 #[.agg c0, .int .u16 a1, v2] W fun e W' => e = .returned (.bool true) ∧ Below W.heap.size W W' := by
  obtain ⟨l0, f0, r0, _, _⟩ := flat_view (by rfl) k0
  obtain ⟨q, rfl⟩ := ft_Qw f0
  obtain ⟨β, l, c, hv, hf, hno, hn, hok⟩ := steps_view k2
  have e1 : renL β (encQ q) = c0 := by
    apply Array.toList_inj.1
    rw [← r0 β]; rfl
  have := glue ((cplaysW q a1 l c (wf_bounds w1) (by unfold maxLen at hn; omega) hok).mono' fun v h e => e.1) hf hno
  simp only [List.map_cons, List.map_nil, T.ren, hv, e1, show C.ren β (.i .u16 a1) = .int .u16 a1 from rfl] at this
  exact this
end Go.Proofs.YtofcadbfjbefkaaGreat

