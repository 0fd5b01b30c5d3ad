/- Part 5 of the texts that a walk of this program rests on: an abstract machine, its soundness, contracts of functions. No statement of the seat is proved in this file. -/
import Derived.Test.YtgcofipbdidhmaaVP4
namespace Go.Proofs.Ytgcofipbdidhmaa
open Go.X
set_option linter.unusedSimpArgs false
set_option linter.unusedVariables false
theorem rH29E0 {σ : List Sg} {H h' : List Fam} {v : T} {K : T → List Fam → Prop} {H' : List Fam} {v' : T} {N : Nat} (hk : K v' H') (hN : H.length = N := by (try simp only [↓List.length_cons, ↓List.length_nil, Nat.reduceAdd]) <;> rfl) (h : givesF σ N H σ h' = some H' := by (try simp (maxSteps := 1000000) only [givesF, setF, updF, Fam.zeroth, Fam.rk, Ck.rk, C.rk, E.rk, T.rk, key, List.map_cons, List.map_nil, List.cons_append, List.nil_append, List.length_cons, List.length_nil, Option.map_some, Option.bind_some, Nat.reduceAdd, Nat.zero_add, Nat.add_zero, Nat.add_sub_cancel_left, Int.toNat_natCast, reps, List.all_cons, List.all_nil, C.flat, List.append_eq, Bool.not_true, Bool.and_true, Bool.or_false, Bool.or_self, Bool.not_false, List.append_nil, Bool.and_self, ↓slG_rk]) <;> rfl) (hv : v.rk σ N = v' := by (try simp only [givesF, setF, updF, Fam.zeroth, Fam.rk, Ck.rk, C.rk, E.rk, T.rk, key, List.map_cons, List.map_nil, List.cons_append, List.nil_append, List.length_cons, List.length_nil, Option.map_some, Option.bind_some, Nat.reduceAdd, Nat.zero_add, Nat.add_zero, Nat.add_sub_cancel_left, Int.toNat_natCast, reps, List.all_cons, List.all_nil, C.flat, List.append_eq, Bool.not_true, Bool.and_true, Bool.or_false, Bool.or_self, Bool.not_false, List.append_nil, Bool.and_self, ↓slG_rk]) <;> rfl) : RetG σ H h' v K := ret_mk3 hN h hv hk
theorem cH29E1 {P : Program} {F : Nat} {args : List T} {H : List Fam} {K : T → List Fam → Prop} {σ : List Sg} {nl : List Fam} {args0 : List T} {h0 : List Fam} {Q : T → List Fam → Prop} {H2 H1 : List Fam} {N n : Nat} (hc : Ctr P F args0 h0 Q) (hk : ∀ v h', Q v h' → capsP h' → RetG σ H2 h' v K) (hap : apart σ = true := by rfl) (hnl : nl.all nilB = true := by rfl) (h1 : H ++ nl = H1 := by first | exact List.append_nil _ | ((try simp only [List.cons_append, List.nil_append]) <;> rfl)) (hN : H1.length = N := by (try simp only [↓List.length_cons, ↓List.length_nil, Nat.reduceAdd]) <;> rfl) (hn : H.length = n := by (try simp only [↓List.length_cons, ↓List.length_nil, Nat.reduceAdd]) <;> rfl) (hH : givesF σ N H1 σ h0 = some H2 := by (try simp (maxSteps := 1000000) only [givesF, setF, updF, Fam.zeroth, Fam.rk, Ck.rk, C.rk, E.rk, T.rk, key, List.map_cons, List.map_nil, List.cons_append, List.nil_append, List.length_cons, List.length_nil, Option.map_some, Option.bind_some, Nat.reduceAdd, Nat.zero_add, Nat.add_zero, Nat.add_sub_cancel_left, Int.toNat_natCast, reps, List.all_cons, List.all_nil, C.flat, List.append_eq, Bool.not_true, Bool.and_true, Bool.or_false, Bool.or_self, Bool.not_false, List.append_nil, Bool.and_self, ↓slG_rk]) <;> rfl) (hle : leS n H1 σ N σ h0 (belsK N (h0.map (Fam.rk σ N)) (argsK n args (args0.map (T.rk σ N)) True)) := by repeat' first | refine And.intro ?_ ?_ | exact xeC | fail) : CallK P F args H K := CallK.mk3 hc hap hnl h1 hN hn hH hle hk
set_option maxRecDepth 10000 in
set_option maxHeartbeats 4000000 in
theorem rrlapse (id : Int) (q : Qos) (R : Rd) (cM : Nat) (cf : Nat → Nat) (ls : List (Int × Int)) (cl : Nat) (k : Nat) (m : Mx) (e : Int) (hk : k < R.M.length) (hm : R.D (R.M.getD k default).2.toNat = some m) (hex : 1 ≤ m.ex ∧ m.ex ≤ 1099511627777) (he : 1 ≤ e ∧ e ≤ 1099511627777) (hls : ls.length ≤ 800000) (hl : R.M.length ≤ 1000000) :
    Ctr Try.prog 77 [.c (.p 0 0 0), .c (.i .i64 (k : Nat)), .c (.i .i64 e)] [.one (rrd 1 2 3 id q R.M.length cM ls.length cl), .one .no, .one (mtR 4 R cM cf), .one (lsr true ls cl), .one .no]
      fun v h => v = .t [] ∧ ∃ cl', h = [.one (rrd 1 2 5 id q R.M.length cM (ls ++ lapL (R.M.getD k default).2 m.ex e).length cl'), .one .no, .one (mtR 4 R cM cf), .one .no, .one .no, .one (lsr true (ls ++ lapL (R.M.getD k default).2 m.ex e) cl')] := by
  generalize hw : (R.M.getD k default).2 = w at *
  have e3 : 0 + ((k : Nat) : Int).toNat = k := by omega
  have hE : encMt 4 R cf k = _ := mt_at (by rw [hw]; exact hm)
  unfold mtc5 at hE
  rw [hw] at hE
  refine Ctr.mk' tbv mixed Try.func77 rfl rfl rfl (fun _ _ => by kernel_rfl) (by kernel_rfl) (by rfl) (by rfl) (by (repeat' first | refine And.intro ?_ ?_ | exact xeC | fail) <;> exact xmR) ?_
  repeat' (first | (fail_if_success (with_reducible refine xstp ?_)); first | ((with_reducible refine And.intro ?_ ?_); focus exact xoC) | (with_reducible intro hc; (try simp only [capsP, and_true] at hc); (try exact xfC)) | ((fail_if_success (with_reducible first | refine xgon ?_ | intro _)); (conv => whnf); (fail_if_success (fail_if_success (with_reducible first | refine xstp ?_ | refine xgon ?_ | intro _)))))
  rw [e3]
  rw [hE]
  repeat' (first | (fail_if_success (with_reducible refine xstp ?_)); first | ((with_reducible refine And.intro ?_ ?_); focus exact xoC) | ((fail_if_success (with_reducible first | refine xgon ?_ | intro _)); (conv => whnf); (fail_if_success (fail_if_success (with_reducible first | refine xstp ?_ | refine xgon ?_ | intro _)))))
  have hK : (e - max m.ex (e - 256)).toNat ≤ 256 := by omega
  refine LoopK.mk' ({j : Nat // j ≤ (e - max m.ex (e - 256)).toNat} × Nat)
    (fun ⟨⟨j, _⟩, cc⟩ => ⟨[(0, .c (.p 0 0 0)), (2, .c (.i .i64 e)), (6, .c (.pe 2 0 5 k 0)), (7, .c (.i .i64 (max m.ex (e - 256) + j)))],
      [.one (rrd 1 2 5 id q R.M.length cM (ls ++ (List.range j).map fun (i : Nat) => (w, max m.ex (e - 256) + (i : Int))).length cc), .one .no, .one (mtR 4 R cM cf), .one .no, .one .no, .one (lsr true (ls ++ (List.range j).map fun (i : Nat) => (w, max m.ex (e - 256) + (i : Int))) cc)]⟩)
    (fun j => (e - max m.ex (e - 256)).toNat - j.1.1)
    ⟨⟨⟨0, Nat.zero_le _⟩, cl⟩, [0, 1, 2, 3, 4, 3], ?_⟩ ?_
  · simp only [List.range_zero, List.map_nil, List.append_nil]
    (repeat' first | refine And.intro ?_ ?_ | exact xeC | fail)
    all_goals first | exact xmR | simp
  rintro ⟨⟨j, hj⟩, cc⟩
  have hlen : (ls ++ (List.range j).map fun (i : Nat) => (w, max m.ex (e - 256) + (i : Int))).length ≤ 1000000 := by
    simp only [List.length_append, List.length_map, List.length_range]; omega
  repeat' (first | (fail_if_success (with_reducible refine xstp ?_)); first | ((with_reducible refine And.intro (fun (hb : _ = true) => ?_) (fun (hb : _ = false) => ?_)) <;> replace hb := xnC hb <;> (try first | exact xfC | exact bff hb (by assumption) | exact bff (by assumption) hb)) | ((with_reducible refine And.intro ?_ ?_); focus exact xoC) | (with_reducible intro hc; (try simp only [capsP, and_true] at hc); (try exact xfC)) | ((fail_if_success (with_reducible first | refine xgon ?_ | intro _)); (conv => whnf); (fail_if_success (fail_if_success (with_reducible first | refine xstp ?_ | refine xgon ?_ | intro _)))))
  · rw [hE]
    repeat' (first | (fail_if_success (with_reducible refine xstp ?_)); first | ((fail_if_success (with_reducible first | refine xgon ?_ | intro _)); (conv => whnf); (fail_if_success (fail_if_success (with_reducible first | refine xstp ?_ | refine xgon ?_ | intro _)))))
    refine cH29E1 (σ := [.whole 0, .name 1, .name 2, .whole 5]) (nl := []) (rrlose id q R.M.length cM (ls ++ (List.range j).map fun (i : Nat) => (w, max m.ex (e - 256) + (i : Int))) cc w (max m.ex (e - 256) + (j : Int)) hlen) ?_ (hle := by (repeat' first | refine And.intro ?_ ?_ | exact xeC | fail) <;> exact xmR)
    rintro v h' ⟨rfl, c2, rfl⟩ hcaps
    refine rH29E0 ?_
    repeat' (first | (fail_if_success (with_reducible refine xstp ?_)); first | ((with_reducible refine And.intro ?_ ?_); focus exact xoC) | ((fail_if_success (with_reducible first | refine xgon ?_ | intro _)); (conv => whnf); (fail_if_success (fail_if_success (with_reducible first | refine xstp ?_ | refine xgon ?_ | intro _)))))
    refine ⟨⟨⟨j + 1, by omega⟩, c2⟩, [0, 1, 2, 3, 4, 6], by simp only; omega, ?_⟩
    simp only [lap_step, ← List.append_assoc]
    (repeat' first | refine And.intro ?_ ?_ | exact xeC | fail)
    all_goals first | exact xmR | omega
  · have ek : j = (e - max m.ex (e - 256)).toNat := by omega
    refine FinK.mk ⟨[0, 1, 2, 3, 4, 5], _, _, ⟨rfl, cc, rfl⟩, ?_⟩
    unfold lapL
    rw [← ek]
    (repeat' first | refine And.intro ?_ ?_ | exact xeC | fail)
    all_goals exact xmR
theorem wrongT {x : Pkt} {b : Bool} (h : b = true ↔ checkP x ≠ 0) : b = decide (checkP x ≠ 0) := by
  by_cases q : checkP x ≠ 0
  · rw [decide_eq_true q]; exact h.2 q
  · rw [decide_eq_false q]
    cases b with
    | false => rfl
    | true => exact absurd (h.1 rfl) q
set_option maxRecDepth 10000 in
theorem rrnum2 (n : Int) : Ctr Try.prog 76 [.c (.i .i64 n)] [] fun v h => v = .c (.b (decide (1 ≤ n ∧ n ≤ 1099511627776))) ∧ h = [] := rrnumber n
set_option maxRecDepth 10000 in
set_option maxHeartbeats 4000000 in
theorem rrwrong (x : Pkt) (n c : Nat) (hk : x.k = 1 ∨ x.k = 2 ∨ x.k = 4) (xm : Nat := 0) : Ctr Try.prog 65 [.a (encP (.sl 0 xm 1 0 n c) x)] [.one .no] fun v h => v = .c (.b (decide (checkP x ≠ 0))) ∧ h = [.one .no] := by
  refine Ctr.mk' tbv mixed Try.func65 rfl rfl rfl (fun _ _ => by kernel_rfl) (by kernel_rfl) (by rfl) (by rfl) (by (repeat' first | refine And.intro ?_ ?_ | exact xeC | fail)) ?_
  repeat' (first | (fail_if_success (with_reducible refine xstp ?_)); first | ((with_reducible refine And.intro (fun (hb : _ = true) => ?_) (fun (hb : _ = false) => ?_)) <;> replace hb := xnC hb <;> (try first | exact xfC | exact bff hb (by assumption) | exact bff (by assumption) hb)) | (with_reducible intro hc; (try simp only [capsP, and_true] at hc); (try exact xfC)) | ((fail_if_success (with_reducible first | refine xgon ?_ | intro _)); (conv => whnf); (fail_if_success (fail_if_success (with_reducible first | refine xstp ?_ | refine xgon ?_ | intro _)))))
  · refine cH29E1 (σ := []) (nl := []) (rrnum2 x.q) ?_
    rintro v h' ⟨rfl, rfl⟩ hcaps
    refine rH29E0 ?_
    repeat' (first | (fail_if_success (with_reducible refine xstp ?_)); first | ((with_reducible refine And.intro (fun (hb : _ = true) => ?_) (fun (hb : _ = false) => ?_)) <;> replace hb := xnC hb <;> (try first | exact xfC | exact bff hb (by assumption) | exact bff (by assumption) hb)) | ((fail_if_success (with_reducible first | refine xgon ?_ | intro _)); (conv => whnf); (fail_if_success (fail_if_success (with_reducible first | refine xstp ?_ | refine xgon ?_ | intro _)))))
    all_goals (
      refine FinK.mk ⟨[0], _, _, ⟨rfl, rfl⟩, ?_⟩; (repeat' first | refine And.intro ?_ ?_ | exact xeC | fail)
      all_goals (
        first | refine wrongT ?_ | refine (wrongT ?_).symm
        try simp only [decide_eq_true_eq, true_iff, iff_true, Bool.false_eq_true, false_iff]
        unfold checkP okN
        repeat' split
        all_goals first | omega | (simp only [Bool.not_eq_true', decide_eq_false_iff_not]; omega)))
  · refine cH29E1 (σ := []) (nl := []) (rrnum2 x.f) ?_
    rintro v h' ⟨rfl, rfl⟩ hcaps
    refine rH29E0 ?_
    repeat' (first | (fail_if_success (with_reducible refine xstp ?_)); first | ((with_reducible refine And.intro (fun (hb : _ = true) => ?_) (fun (hb : _ = false) => ?_)) <;> replace hb := xnC hb <;> (try first | exact xfC | exact bff hb (by assumption) | exact bff (by assumption) hb)) | ((with_reducible refine And.intro ?_ ?_); focus exact xoC) | ((fail_if_success (with_reducible first | refine xgon ?_ | intro _)); (conv => whnf); (fail_if_success (fail_if_success (with_reducible first | refine xstp ?_ | refine xgon ?_ | intro _)))))
    all_goals (
      refine FinK.mk ⟨[0], _, _, ⟨rfl, rfl⟩, ?_⟩; (repeat' first | refine And.intro ?_ ?_ | exact xeC | fail)
      all_goals (
        first | refine wrongT ?_ | refine (wrongT ?_).symm
        try simp only [decide_eq_true_eq, true_iff, iff_true, Bool.false_eq_true, false_iff]
        unfold checkP okN
        repeat' split
        all_goals first | omega | (simp only [Bool.not_eq_true', decide_eq_false_iff_not]; omega)))
end Go.Proofs.Ytgcofipbdidhmaa


namespace Go.Proofs.Ytgcofipbdidhmaa
open Go.X
set_option linter.unusedSimpArgs false
set_option linter.unusedVariables false
abbrev rrC (id : Int) (q : Qos) (R : Rd) (cM c cl : Nat) (cf : Nat → Nat) : List Fam :=
  [.one (rrd 1 2 3 id q R.M.length cM R.ls.length cl), .one (hist 4 q R.l.length c), .one (mtR 5 R cM cf), .one (lsr true R.ls cl), .one (smps true R.l c), .many (slG R cf), .one .no]
abbrev rrE (id : Int) (q : Qos) (R : Rd) (cM c cl : Nat) (cf : Nat → Nat) : List Fam :=
  [.one (rrd 1 2 7 id q R.M.length cM R.ls.length cl), .one (hist 8 q R.l.length c), .one (mtR 9 R cM cf), .one .no, .one .no, .one .no, .one .no, .one (lsr true R.ls cl), .one (smps true R.l c), .many (slG R cf)]
abbrev rrG (id : Int) (q : Qos) (R : Rd) (cM c cl : Nat) (cf : Nat → Nat) (k : Nat) (w : Int) (m : Mx) (c0 : Nat) : List Fam :=
  [.one (rrd 1 2 3 id q R.M.length cM R.ls.length cl), .one (hist 4 q R.l.length c), .one (.row true true 107 5 R.M.length cM fun i => if i = k then [.i .i64 w, .i .i64 m.nd, .b m.rel, .i .i64 m.ex, .sl 6 0 6 0 m.W.length c0] else encMt 5 R cf i), .one (lsr true R.ls cl), .one (smps true R.l c),
    .many (fun y => if y = w.toNat then .no else slG R cf y), .one (slR m.W c0)]
theorem mt_updR {F G k : Nat} {R R2 : Rd} {cf cf2 : Nat → Nat} {m : Mx} {c : Nat} {L : List C} {σ : List Sg} {N : Nat} (hR : RdN R) (hk : k < R.M.length)
    (h3 : ∀ x, x ≠ (R.M.getD k default).2.toNat → key σ N F x = (G, x)) (hM : R2.M = R.M) (hD : ∀ y, R2.D y = (updW R (R.M.getD k default).2 m).D y) (hcf : cf2 = updC cf (R.M.getD k default).2 c)
    (hL : L = [.i .i64 (R.M.getD k default).2, .i .i64 m.nd, .b m.rel, .i .i64 m.ex, .sl (key σ N F (R.M.getD k default).2.toNat).1 (key σ N F (R.M.getD k default).2.toNat).2 6 0 m.W.length c]) (i : Nat) (hi : i < R.M.length) :
    (if i = k then L else encMt G R cf i) = List.map (C.rk σ N) (encMt F R2 cf2 i) := by
  rw [mt_upd hR hk h3 hL i hi, hcf, encMt_cong (R := R2) (R' := updW R (R.M.getD k default).2 m) hM hD]
theorem mtUw {F G k : Nat} {R R2 : Rd} {w : Int} {cf : Nat → Nat} {m : Mx} {c : Nat} {L : List C} {σ : List Sg} {N : Nat} (hR : RdN R) (hk : k < R.M.length) (hw : (R.M.getD k default).2 = w)
    (hM : R2.M = R.M) (hD : ∀ y, R2.D y = (updW R w m).D y) (h3 : ∀ x, x ≠ w.toNat → key σ N F x = (G, x))
    (hL : L = [.i .i64 w, .i .i64 m.nd, .b m.rel, .i .i64 m.ex, .sl (key σ N F w.toNat).1 (key σ N F w.toNat).2 6 0 m.W.length c]) (i : Nat) (hi : i < R.M.length) :
    (if i = k then L else encMt G R cf i) = List.map (C.rk σ N) (encMt F R2 (updC cf w c) i) := by
  subst hw
  exact mt_updR hR hk h3 hM hD rfl hL i hi
theorem slG_leU {R R2 : Rd} {cf : Nat → Nat} {w : Int} {m : Mx} {c N N' x : Nat} {σ : List Sg} (hD : ∀ y, R2.D y = (updW R w m).D y) (h : x ≠ w.toNat) : ((fun y => if y = w.toNat then Ck.no else slG R cf y) x).leK N ((slG R2 (updC cf w c) x).rk σ N') True := by
  rw [slG_cong (R' := updW R w m) hD]
  exact slG_leX h
theorem slG_leV {R R2 : Rd} {cf : Nat → Nat} {w : Int} {m : Mx} {c N N' : Nat} {σ : List Sg} {q : Ck} {A : Prop} (hD : ∀ y, R2.D y = (updW R w m).D y) (h : q.leK N (slR m.W c) A) : q.leK N ((slG R2 (updC cf w c) w.toNat).rk σ N') A := by
  rw [slG_cong (R' := updW R w m) hD]
  exact slG_leN h
theorem keyW {w N : Nat} : (∀ x, x ≠ w → key [0, 1, 2, 3, 4, 5, 6, 3, 4, .adopt 5 w 6] N 9 x = (5, x)) ∧ key [0, 1, 2, 3, 4, 5, 6, 3, 4, .adopt 5 w 6] N 9 w = (6, 0) := ⟨fun x hx => by simp [key, hx], by simp [key]⟩
theorem rnUpd2 {R : Rd} {k : Nat} {m : Mx} {r : Rs} (hR : RdN R) (hk : k < R.M.length) : RdN (upd R (R.M.getD k default).2 m r) := by
  refine ⟨⟨fun i hi => ?_, fun x m' hx => ?_⟩, hR.nd⟩
  · obtain ⟨h1, m1, h2⟩ := hR.a i hi
    refine ⟨h1, ?_⟩
    show ∃ m', (if _ = _ then _ else _) = some m'
    split
    · exact ⟨_, rfl⟩
    · exact ⟨m1, h2⟩
  · have hx : (if x = (R.M.getD k default).2.toNat then _ else R.D x) = some m' := hx
    split at hx
    · rename_i h
      have h1 := (hR.a k hk).1
      exact ⟨k, hk, by show (R.M.getD k default).2 = (x : Int); omega, by omega⟩
    · exact hR.b x m' hx
theorem rH29M0 {σ : List Sg} {H h' : List Fam} {v : T} {K : T → List Fam → Prop} {H' : List Fam} {v' : T} {N : Nat} (hk : K v' H') (hN : H.length = N := by (try simp only [↓List.length_cons, ↓List.length_nil, Nat.reduceAdd]) <;> rfl) (h : givesF σ N H σ h' = some H' := by (try simp (maxSteps := 1000000) only [givesF, setF, updF, Fam.zeroth, Fam.rk, Ck.rk, C.rk, E.rk, T.rk, key, List.map_cons, List.map_nil, List.cons_append, List.nil_append, List.length_cons, List.length_nil, Option.map_some, Option.bind_some, Nat.reduceAdd, Nat.zero_add, Nat.add_zero, Nat.add_sub_cancel_left, Int.toNat_natCast, reps, List.all_cons, List.all_nil, C.flat, List.append_eq, Bool.not_true, Bool.and_true, Bool.or_false, Bool.or_self, Bool.not_false, List.append_nil, Bool.and_self, ↓slG_rk]) <;> rfl) (hv : v.rk σ N = v' := by (try simp only [givesF, setF, updF, Fam.zeroth, Fam.rk, Ck.rk, C.rk, E.rk, T.rk, key, List.map_cons, List.map_nil, List.cons_append, List.nil_append, List.length_cons, List.length_nil, Option.map_some, Option.bind_some, Nat.reduceAdd, Nat.zero_add, Nat.add_zero, Nat.add_sub_cancel_left, Int.toNat_natCast, reps, List.all_cons, List.all_nil, C.flat, List.append_eq, Bool.not_true, Bool.and_true, Bool.or_false, Bool.or_self, Bool.not_false, List.append_nil, Bool.and_self, ↓slG_rk]) <;> rfl) : RetG σ H h' v K := ret_mk3 hN h hv hk
theorem cH29M1 {P : Program} {F : Nat} {args : List T} {H : List Fam} {K : T → List Fam → Prop} {σ : List Sg} {nl : List Fam} {args0 : List T} {h0 : List Fam} {Q : T → List Fam → Prop} {H2 H1 : List Fam} {N n : Nat} (hc : Ctr P F args0 h0 Q) (hk : ∀ v h', Q v h' → capsP h' → RetG σ H2 h' v K) (hap : apart σ = true := by rfl) (hnl : nl.all nilB = true := by rfl) (h1 : H ++ nl = H1 := by first | exact List.append_nil _ | ((try simp only [List.cons_append, List.nil_append]) <;> rfl)) (hN : H1.length = N := by (try simp only [↓List.length_cons, ↓List.length_nil, Nat.reduceAdd]) <;> rfl) (hn : H.length = n := by (try simp only [↓List.length_cons, ↓List.length_nil, Nat.reduceAdd]) <;> rfl) (hH : givesF σ N H1 σ h0 = some H2 := by (try simp (maxSteps := 1000000) only [givesF, setF, updF, Fam.zeroth, Fam.rk, Ck.rk, C.rk, E.rk, T.rk, key, List.map_cons, List.map_nil, List.cons_append, List.nil_append, List.length_cons, List.length_nil, Option.map_some, Option.bind_some, Nat.reduceAdd, Nat.zero_add, Nat.add_zero, Nat.add_sub_cancel_left, Int.toNat_natCast, reps, List.all_cons, List.all_nil, C.flat, List.append_eq, Bool.not_true, Bool.and_true, Bool.or_false, Bool.or_self, Bool.not_false, List.append_nil, Bool.and_self, ↓slG_rk]) <;> rfl) (hle : leS n H1 σ N σ h0 (belsK N (h0.map (Fam.rk σ N)) (argsK n args (args0.map (T.rk σ N)) True)) := by repeat' first | refine And.intro ?_ ?_ | exact xeC | fail) : CallK P F args H K := CallK.mk3 hc hap hnl h1 hN hn hH hle hk
set_option maxRecDepth 10000 in
set_option maxHeartbeats 8000000 in
theorem rrmove2 (id : Int) (q : Qos) (R : Rd) (cM c cl : Nat) (cf : Nat → Nat) (k : Nat) (m : Mx) (hR : RdN R) (hk : k < R.M.length) (c0 : Nat) (hI : Inv (R.rs m) 900000 800000) (hq : q.keep = true ∨ 1 ≤ q.depth) (hl : R.M.length ≤ 1000000) :
    Ctr Try.prog 69 [.c (.p 0 0 0), .c (.i .i64 (k : Nat))] (rrG id q R cM c cl cf k (R.M.getD k default).2 m c0)
      fun v h => ∃ c' cl' cf', v = .t [] ∧ h = rrE id q (upd R (R.M.getD k default).2 m (mvA q (R.M.getD k default).2 (R.rs m))) cM c' cl' cf' := by
  generalize hw : (R.M.getD k default).2 = w at *
  generalize hF : mvA q w (R.rs m) = F
  have e3 : 0 + ((k : Nat) : Int).toNat = k := by omega
  refine Ctr.mk' tbv mixed Try.func69 rfl rfl rfl (fun _ _ => by kernel_rfl) (by kernel_rfl) (by rfl) (by rfl) (by (repeat' first | refine And.intro ?_ ?_ | exact xeC | fail) <;> (first | exact xmR | (intro i hi; dsimp only; split <;> first | rfl | exact mt_bel rfl _ _ _) | (intro x; dsimp only; split <;> first | trivial | exact slG_bel))) ?_
  repeat' (first | (fail_if_success (with_reducible refine xstp ?_)); first | ((with_reducible refine And.intro ?_ ?_); focus exact xoC) | (with_reducible intro hc; (try simp only [capsP, and_true] at hc); (try exact xfC)) | ((fail_if_success (with_reducible first | refine xgon ?_ | intro _)); (conv => whnf); (fail_if_success (fail_if_success (with_reducible first | refine xstp ?_ | refine xgon ?_ | intro _)))))
  refine LoopK.mk' ({r : Rs // mv q w r.W.length r = F ∧ WOk r.W r.ex ∧ (1 ≤ r.ex ∧ r.ex ≤ 1099511627777) ∧ r.l.length + r.W.length ≤ 900000 ∧ r.ls.length + 2 * r.W.length ≤ 800000} × Nat × Nat × (Nat → Nat))
    (fun ⟨⟨r, _⟩, c1, cl1, cf1⟩ => ⟨[(0, .c (.p 0 0 0)), (4, .c (.pe 2 0 5 k 0))],
      [.one (rrd 1 2 7 id q R.M.length cM r.ls.length cl1), .one (hist 8 q r.l.length c1), .one (mtR 9 (upd R w m r) cM cf1), .one .no, .one .no, .one .no, .one .no, .one (lsr true r.ls cl1), .one (smps true r.l c1), .many (slG (upd R w m r) cf1)]⟩)
    (fun r => r.1.1.W.length)
    ⟨⟨⟨R.rs m, hF, hI.ok, ⟨hI.lo, hI.hi⟩, hI.l, hI.ls⟩, c, cl, updC cf w c0⟩, [0, 1, 2, 3, 4, 5, 6, 3, 4, .adopt 5 w.toNat 6], ?_⟩ ?_
  · (repeat' first | refine And.intro ?_ ?_ | exact xeC | fail)
    all_goals first
      | exact xmR
      | (intro i hi
         have := mtUw (R2 := upd R w m (R.rs m)) (cf := cf) (c := c0) (F := 9) (G := 5) (N := 0) (σ := [0, 1, 2, 3, 4, 5, 6, 3, 4, .adopt 5 w.toNat 6]) (m := ⟨m.nd, m.ex, m.rel, m.W, m.ck⟩) hR hk hw rfl (fun y => rfl) keyW.1 (L := [.i .i64 w, .i .i64 m.nd, .b m.rel, .i .i64 m.ex, .sl 6 0 6 0 m.W.length c0]) (by rw [keyW.2]) i hi
         exact this)
      | exact fun x hx => slG_leU (m := ⟨m.nd, m.ex, m.rel, m.W, m.ck⟩) (fun y => rfl) hx
      | exact e3
      | skip
    refine slG_leV (m := ⟨m.nd, m.ex, m.rel, m.W, m.ck⟩) (fun y => rfl) ?_
    refine ⟨rfl, rfl, rfl, rfl, Nat.le_refl _, rfl, fun _ _ => rfl, ?_⟩
    (repeat' first | refine And.intro ?_ ?_ | exact xeC | fail)
    all_goals exact xmR
  rintro ⟨⟨r, hr, hW, hex, hrl, hrls⟩, c1, cl1, cf1⟩
  subst hw
  have hD1 : (upd R (R.M.getD k default).2 m r).D (R.M.getD k default).2.toNat = some ⟨m.nd, r.ex, m.rel, r.W, r.ck⟩ := if_pos rfl
  have hR1 := rnUpd2 (r := r) (m := m) hR hk
  have he : encMt 9 (upd R (R.M.getD k default).2 m r) cf1 k = _ := mt_at (m := ⟨m.nd, r.ex, m.rel, r.W, r.ck⟩) hD1
  unfold mtc5 at he
  have hs := slG_at (cf := cf1) hD1
  have hWl : r.W.length ≤ 1000000 := by omega
  repeat' (first | (fail_if_success (with_reducible refine xstp ?_)); first | ((with_reducible refine And.intro ?_ ?_); focus exact xoC) | (with_reducible intro hc; (try simp only [capsP, and_true] at hc); (try exact xfC)) | ((fail_if_success (with_reducible first | refine xgon ?_ | intro _)); (conv => whnf); (fail_if_success (fail_if_success (with_reducible first | refine xstp ?_ | refine xgon ?_ | intro _)))))
  rw [he]
  repeat' (first | (fail_if_success (with_reducible refine xstp ?_)); first | ((fail_if_success (with_reducible first | refine xgon ?_ | intro _)); (conv => whnf); (fail_if_success (fail_if_success (with_reducible first | refine xstp ?_ | refine xgon ?_ | intro _)))))
  refine cH29M1 (σ := [.whole 2, .whole 9]) (nl := []) (rrslot (upd R (R.M.getD k default).2 m r) cM cf1 k ⟨m.nd, r.ex, m.rel, r.W, r.ck⟩ r.ex hk hD1 hWl) ?_ (hle := by (repeat' first | refine And.intro ?_ ?_ | exact xeC | fail) <;> exact xmR)
  rcases fnd_get (W := r.W) (n := r.ex) hW.nd with ⟨h1, h2⟩ | ⟨i, h1, hi, h3, h2⟩
  · rw [h1, show idxM none = (-1 : Int) from rfl]
    rintro v h' ⟨rfl, rfl⟩ hcaps
    refine rH29M0 ?_
    repeat' (first | (fail_if_success (with_reducible refine xstp ?_)); first | ((with_reducible refine And.intro (fun (hb : _ = true) => ?_) (fun (hb : _ = false) => ?_)) <;> replace hb := xnC hb <;> (try first | exact xfC | exact bff hb (by assumption) | exact bff (by assumption) hb)) | ((fail_if_success (with_reducible first | refine xgon ?_ | intro _)); (conv => whnf); (fail_if_success (fail_if_success (with_reducible first | refine xstp ?_ | refine xgon ?_ | intro _)))))
    have hrF : r = F := by rw [← hr, mv_none h2]
    subst hrF
    refine FinK.mk ⟨[0, 1, 2, 3, 4, 5, 6, 7, 8, 9], _, _, ⟨c1, cl1, cf1, rfl, rfl⟩, ?_⟩
    (repeat' first | refine And.intro ?_ ?_ | exact xeC | fail)
    all_goals first
      | exact xmR
      | (intro i hi; dsimp only; rw [mt_key (G := 9) (fun x => rfl), mt_key (G := 9) (fun x => rfl)])
      | skip
    all_goals trace_state
  · rw [h1, show idxM (some i) = (i : Nat) from rfl]
    have e5 : 0 + ((i : Nat) : Int).toNat = i := by omega
    have hif : ∀ (A : List C) (B : Nat → List C), (fun i => if i = k then A else B i) k = A := fun A B => if_pos rfl
    rintro v h' ⟨rfl, rfl⟩ hcaps
    refine rH29M0 ?_
    rw [mt_fun (G := 9) (fun x => rfl)]
    repeat' (first | (fail_if_success (with_reducible refine xstp ?_)); first | ((with_reducible refine And.intro (fun (hb : _ = true) => ?_) (fun (hb : _ = false) => ?_)) <;> replace hb := xnC hb <;> (try first | exact xfC | exact bff hb (by assumption) | exact bff (by assumption) hb)) | ((with_reducible refine And.intro ?_ ?_); focus exact xoC) | ((fail_if_success (with_reducible first | refine xgon ?_ | intro _)); (conv => whnf); (fail_if_success (fail_if_success (with_reducible first | refine xstp ?_ | refine xgon ?_ | intro _)))))
    rw [he]
    repeat' (first | (fail_if_success (with_reducible refine xstp ?_)); first | ((fail_if_success (with_reducible first | refine xgon ?_ | intro _)); (conv => whnf); (fail_if_success (fail_if_success (with_reducible first | refine xstp ?_ | refine xgon ?_ | intro _)))))
    refine ManyK.mk ⟨slR r.W (cf1 (R.M.getD k default).2.toNat), hs, ?_⟩
    repeat' (first | (fail_if_success (with_reducible refine xstp ?_)); first | ((with_reducible refine And.intro ?_ ?_); focus exact xoC) | ((fail_if_success (with_reducible first | refine xgon ?_ | intro _)); (conv => whnf); (fail_if_success (fail_if_success (with_reducible first | refine xstp ?_ | refine xgon ?_ | intro _)))))
    refine ManyK.mk ⟨slR r.W (cf1 (R.M.getD k default).2.toNat), hs, ?_⟩
    repeat' (first | (fail_if_success (with_reducible refine xstp ?_)); first | ((with_reducible refine And.intro ?_ ?_); focus exact xoC) | ((fail_if_success (with_reducible first | refine xgon ?_ | intro _)); (conv => whnf); (fail_if_success (fail_if_success (with_reducible first | refine xstp ?_ | refine xgon ?_ | intro _)))))
    rw [he]
    repeat' (first | (fail_if_success (with_reducible refine xstp ?_)); first | ((with_reducible refine And.intro ?_ ?_); focus exact xoC) | ((fail_if_success (with_reducible first | refine xgon ?_ | intro _)); (conv => whnf); (fail_if_success (fail_if_success (with_reducible first | refine xstp ?_ | refine xgon ?_ | intro _)))))
    rw [he]
    repeat' (first | (fail_if_success (with_reducible refine xstp ?_)); first | ((with_reducible refine And.intro ?_ ?_); focus exact xoC) | ((fail_if_success (with_reducible first | refine xgon ?_ | intro _)); (conv => whnf); (fail_if_success (fail_if_success (with_reducible first | refine xstp ?_ | refine xgon ?_ | intro _)))))
    rw [hif]
    repeat' (first | (fail_if_success (with_reducible refine xstp ?_)); first | ((fail_if_success (with_reducible first | refine xgon ?_ | intro _)); (conv => whnf); (fail_if_success (fail_if_success (with_reducible first | refine xstp ?_ | refine xgon ?_ | intro _)))))
    rw [e5]
    have hm2 : (updW (upd R (R.M.getD k default).2 m r) (R.M.getD k default).2 ⟨m.nd, r.ex + 1, m.rel, r.W, r.ck⟩).D (R.M.getD k default).2.toNat = some ⟨m.nd, r.ex + 1, m.rel, r.W, r.ck⟩ := if_pos rfl
    have hR2 := rnUpdW (m2 := ⟨m.nd, r.ex + 1, m.rel, r.W, r.ck⟩) hR1 hk hD1
    have hsm := slG_same (cf := cf1) (m2 := ⟨m.nd, r.ex + 1, m.rel, r.W, r.ck⟩) hD1 rfl
    have hrow := fun i hi => mt_upd (F := 1) (G := 9) (N := 11) (σ := [.whole 2, .whole 9]) (cf := cf1) (m := ⟨m.nd, r.ex + 1, m.rel, r.W, r.ck⟩) (c := cf1 (R.M.getD k default).2.toNat) (L := [.i .i64 (R.M.getD k default).2, .i .i64 m.nd, .b m.rel, .i .i64 (r.ex + 1), .sl 9 (R.M.getD k default).2.toNat 6 0 r.W.length (cf1 (R.M.getD k default).2.toNat)]) hR1 hk (fun x _ => rfl) rfl i hi
    refine cH29M1 (σ := [.whole 2, .whole 9]) (nl := []) (rrcut (updW (upd R (R.M.getD k default).2 m r) (R.M.getD k default).2 ⟨m.nd, r.ex + 1, m.rel, r.W, r.ck⟩) cM (updC cf1 (R.M.getD k default).2 (cf1 (R.M.getD k default).2.toNat)) k ⟨m.nd, r.ex + 1, m.rel, r.W, r.ck⟩ (r.ex + 1) hR2 hk hm2 hWl) ?_ (hle := by (repeat' first | refine And.intro ?_ ?_ | exact xeC | fail) <;> (first | exact xmR | exact hrow | (intro x; rw [hsm]; exact slG_le) | skip))
    rintro v h' ⟨c2, rfl, rfl⟩ hcaps
    obtain ⟨f1, f2, f3⟩ := mv_next hr hW hex hrl hrls hi h3 hi h3
    have hch : ∀ y, (updW (updW (upd R (R.M.getD k default).2 m r) (R.M.getD k default).2 ⟨m.nd, r.ex + 1, m.rel, r.W, r.ck⟩) ((updW (upd R (R.M.getD k default).2 m r) (R.M.getD k default).2 ⟨m.nd, r.ex + 1, m.rel, r.W, r.ck⟩).M.getD k default).2 (cutM (r.ex + 1) ⟨m.nd, r.ex + 1, m.rel, r.W, r.ck⟩)).D y = (upd R (R.M.getD k default).2 m (mvStep q (R.M.getD k default).2 (r.W.getD i default).2.2 r)).D y := chain_eq (q := q) (m := m) (s := (r.W.getD i default).2.2) (R := R) (w := (R.M.getD k default).2) hW
    generalize updC (updC cf1 (R.M.getD k default).2 (cf1 (R.M.getD k default).2.toNat)) ((updW (upd R (R.M.getD k default).2 m r) (R.M.getD k default).2 ⟨m.nd, r.ex + 1, m.rel, r.W, r.ck⟩).M.getD k default).2 c2 = cf3 at *
    have hD3 : (upd R (R.M.getD k default).2 m (mvStep q (R.M.getD k default).2 (r.W.getD i default).2.2 r)).D (R.M.getD k default).2.toNat = some ⟨m.nd, r.ex + 1, m.rel, wne r.ex r.W, r.ck⟩ := if_pos rfl
    have he3 : encMt 11 (upd R (R.M.getD k default).2 m (mvStep q (R.M.getD k default).2 (r.W.getD i default).2.2 r)) cf3 k = _ := mt_at (m := ⟨m.nd, r.ex + 1, m.rel, wne r.ex r.W, r.ck⟩) hD3
    unfold mtc5 at he3
    refine rH29M0 ?_
    rw [mt_fun (G := 11) (fun x => rfl)]
    rw [encMt_cong (R := (updW (updW (upd R (R.M.getD k default).2 m r) (R.M.getD k default).2 ⟨m.nd, r.ex + 1, m.rel, r.W, r.ck⟩) ((updW (upd R (R.M.getD k default).2 m r) (R.M.getD k default).2 ⟨m.nd, r.ex + 1, m.rel, r.W, r.ck⟩).M.getD k default).2 (cutM (r.ex + 1) ⟨m.nd, r.ex + 1, m.rel, r.W, r.ck⟩))) (R' := (upd R (R.M.getD k default).2 m (mvStep q (R.M.getD k default).2 (r.W.getD i default).2.2 r))) rfl hch, slG_cong (R := (updW (updW (upd R (R.M.getD k default).2 m r) (R.M.getD k default).2 ⟨m.nd, r.ex + 1, m.rel, r.W, r.ck⟩) ((updW (upd R (R.M.getD k default).2 m r) (R.M.getD k default).2 ⟨m.nd, r.ex + 1, m.rel, r.W, r.ck⟩).M.getD k default).2 (cutM (r.ex + 1) ⟨m.nd, r.ex + 1, m.rel, r.W, r.ck⟩))) (R' := (upd R (R.M.getD k default).2 m (mvStep q (R.M.getD k default).2 (r.W.getD i default).2.2 r))) hch]
    repeat' (first | (fail_if_success (with_reducible refine xstp ?_)); first | ((with_reducible refine And.intro (fun (hb : _ = true) => ?_) (fun (hb : _ = false) => ?_)) <;> replace hb := xnC hb <;> (try first | exact xfC | exact bff hb (by assumption) | exact bff (by assumption) hb)) | ((with_reducible refine And.intro ?_ ?_); focus exact xoC) | ((fail_if_success (with_reducible first | refine xgon ?_ | intro _)); (conv => whnf); (fail_if_success (fail_if_success (with_reducible first | refine xstp ?_ | refine xgon ?_ | intro _)))))
    · have el : (mvStep q (R.M.getD k default).2 (r.W.getD i default).2.2 r).l = newS q r.l (r.W.getD i default).2.2.x := by simp only [mvStep, hb, if_true]
      have es : (mvStep q (R.M.getD k default).2 (r.W.getD i default).2.2 r).ls = dlvL q r.l r.ls (r.W.getD i default).2.2.x := by simp only [mvStep, hb, if_true]
      refine cH29M1 (σ := [.whole 0, .whole 1, .name 2, .whole 7, .whole 8]) (nl := []) (rrdeliver id q R.M.length cM r.l c1 r.ls cl1 (r.W.getD i default).2.2.x (by omega) (by omega) hq) ?_
      rintro v h' ⟨rfl, c4, cl4, rfl⟩ hcaps
      refine rH29M0 ?_
      repeat' (first | (fail_if_success (with_reducible refine xstp ?_)); first | ((with_reducible refine And.intro (fun (hb : _ = true) => ?_) (fun (hb : _ = false) => ?_)) <;> replace hb := xnC hb <;> (try first | exact xfC | exact bff hb (by assumption) | exact bff (by assumption) hb)) | ((fail_if_success (with_reducible first | refine xgon ?_ | intro _)); (conv => whnf); (fail_if_success (fail_if_success (with_reducible first | refine xstp ?_ | refine xgon ?_ | intro _)))))
      rw [← el, ← es]
      refine ⟨⟨⟨mvStep q (R.M.getD k default).2 (r.W.getD i default).2.2 r, f3⟩, c4, cl4, cf3⟩, [0, 1, 2, 3, 4, 5, 6, 12, 13, 11], f1.2, ?_⟩
      (repeat' first | refine And.intro ?_ ?_ | exact xeC | fail)
      all_goals first
        | exact xmR
        | (intro i' hi'; dsimp only; rw [mt_key (G := 11) (fun x => rfl)]; done)
        | exact fun x => slG_le
        | skip
      all_goals trace_state
    · rename_i hb0
      have el : (mvStep q (R.M.getD k default).2 (r.W.getD i default).2.2 r).l = r.l := by simp only [mvStep, hb, show ¬ (3 : Int) = 1 by decide, if_false]
      have es : (mvStep q (R.M.getD k default).2 (r.W.getD i default).2.2 r).ls = r.ls ++ [((R.M.getD k default).2, r.ex)] := by simp only [mvStep, hb, show ¬ (3 : Int) = 1 by decide, if_false, if_true]
      rw [he3]
      repeat' (first | (fail_if_success (with_reducible refine xstp ?_)); first | ((fail_if_success (with_reducible first | refine xgon ?_ | intro _)); (conv => whnf); (fail_if_success (fail_if_success (with_reducible first | refine xstp ?_ | refine xgon ?_ | intro _)))))
      rw [h3]
      refine cH29M1 (σ := [.whole 0, .name 1, .name 2, .whole 7]) (nl := []) (rrlose id q R.M.length cM r.ls cl1 (R.M.getD k default).2 r.ex (by omega)) ?_
      rintro v h' ⟨rfl, cl4, rfl⟩ hcaps
      refine rH29M0 ?_
      repeat' (first | (fail_if_success (with_reducible refine xstp ?_)); first | ((fail_if_success (with_reducible first | refine xgon ?_ | intro _)); (conv => whnf); (fail_if_success (fail_if_success (with_reducible first | refine xstp ?_ | refine xgon ?_ | intro _)))))
      refine ⟨⟨⟨mvStep q (R.M.getD k default).2 (r.W.getD i default).2.2 r, f3⟩, c1, cl4, cf3⟩, [0, 1, 2, 3, 4, 5, 6, 12, 8, 11], f1.2, ?_⟩
      rw [← el, ← es]
      (repeat' first | refine And.intro ?_ ?_ | exact xeC | fail)
      all_goals first
        | exact xmR
        | (intro i' hi'; dsimp only; rw [mt_key (G := 11) (fun x => rfl)]; done)
        | exact fun x => slG_le
        | skip
      all_goals trace_state
    · rename_i hb0
      have el : (mvStep q (R.M.getD k default).2 (r.W.getD i default).2.2 r).l = r.l := by simp only [mvStep, hb, hb0, if_false]
      have es : (mvStep q (R.M.getD k default).2 (r.W.getD i default).2.2 r).ls = r.ls := by simp only [mvStep, hb, hb0, if_false]
      refine ⟨⟨⟨mvStep q (R.M.getD k default).2 (r.W.getD i default).2.2 r, f3⟩, c1, cl1, cf3⟩, [0, 1, 2, 3, 4, 5, 6, 7, 8, 11], f1.2, ?_⟩
      rw [← el, ← es]
      (repeat' first | refine And.intro ?_ ?_ | exact xeC | fail)
      all_goals first
        | exact xmR
        | (intro i' hi'; dsimp only; rw [mt_key (G := 11) (fun x => rfl)]; done)
        | exact fun x => slG_le
        | skip
      all_goals trace_state
end Go.Proofs.Ytgcofipbdidhmaa


namespace Go.Proofs.Ytgcofipbdidhmaa
open Go.X
set_option linter.unusedSimpArgs false
set_option linter.unusedVariables false
theorem upd_self {R : Rd} {w : Int} {m : Mx} (hm : R.D w.toNat = some m) (y : Nat) : R.D y = (upd R w m (R.rs m)).D y := by
  show _ = if y = w.toNat then _ else _
  split
  · rename_i h; rw [h, hm]; rfl
  · rfl
theorem fndW_neg {W : Win} {n : Int} : idxM (fndW W n) < 0 ↔ ∀ i, i < W.length → (W.getD i default).2.1 ≠ n := by
  constructor
  · intro h i hi e
    cases q : fndW W n with
    | none =>
      unfold fndW at q
      rw [List.findIdx?_eq_none_iff] at q
      have := q (W.getD i default) (by rw [getD_at hi]; exact List.getElem_mem _)
      rw [e] at this
      simp at this
    | some j => rw [q] at h; exact absurd (show ((j : Nat) : Int) < 0 from h) (by omega)
  · intro h
    rw [fndW_no h]
    show (-1 : Int) < 0
    omega
theorem open_iff {r : Rs} {n : Int} (h : r.ex ≤ n) : openB r n ↔ n < r.ex + 256 ∧ idxM (fndW r.W n) < 0 := by
  rw [fndW_neg]
  unfold openB
  constructor
  · rintro ⟨h1, h2, h3⟩; exact ⟨by omega, h3⟩
  · rintro ⟨h1, h3⟩; exact ⟨h, by omega, h3⟩
theorem slG_sameR {R R2 : Rd} {cf : Nat → Nat} {w : Int} {m1 m2 : Mx} (h : R.D w.toNat = some m1) (hW : m1.W = m2.W) (hD : ∀ y, R2.D y = (updW R w m2).D y) : slG R2 cf = slG R cf := by
  rw [slG_cong (R' := updW R w m2) hD]
  have := slG_same (cf := cf) h hW
  rwa [updC_self] at this
theorem slG_leE {σ : List Sg} {N N' : Nat} {R R2 : Rd} {cf cf2 : Nat → Nat} {x : Nat} (h : slG R2 cf2 = slG R cf) : (slG R cf x).leK N ((slG R2 cf2 x).rk σ N') True := by
  rw [h]
  exact slG_le
theorem rowIf {A B : List C} {F G k : Nat} {R : Rd} {cf : Nat → Nat} {σ : List Sg} {N : Nat} (h : ∀ x, key σ N F x = (G, x)) (hA : A = List.map (C.rk σ N) B) (i : Nat) :
    (if i = k then A else encMt G R cf i) = List.map (C.rk σ N) (if i = k then B else encMt F R cf i) := by
  by_cases e : i = k
  · rw [if_pos e, if_pos e, hA]
  · rw [if_neg e, if_neg e, mt_key h]
theorem slG_noLe {R : Rd} {cf : Nat → Nat} {w x N N' : Nat} {σ : List Sg} : (if x = w then Ck.no else slG R cf x).leK N ((if x = w then Ck.no else slG R cf x).rk σ N') True := by
  split
  · trivial
  · exact slG_le
theorem slG_noBel {R : Rd} {cf : Nat → Nat} {w x N n : Nat} {σ : List Sg} : ((if x = w then Ck.no else slG R cf x).rk σ N).belK n True := by
  split
  · trivial
  · exact slG_belR
theorem rH29F0 {σ : List Sg} {H h' : List Fam} {v : T} {K : T → List Fam → Prop} {H' : List Fam} {v' : T} {N : Nat} (hk : K v' H') (hN : H.length = N := by (try simp only [↓List.length_cons, ↓List.length_nil, Nat.reduceAdd]) <;> rfl) (h : givesF σ N H σ h' = some H' := by (try simp (maxSteps := 1000000) only [givesF, setF, updF, Fam.zeroth, Fam.rk, Ck.rk, C.rk, E.rk, T.rk, key, List.map_cons, List.map_nil, List.cons_append, List.nil_append, List.length_cons, List.length_nil, Option.map_some, Option.bind_some, Nat.reduceAdd, Nat.zero_add, Nat.add_zero, Nat.add_sub_cancel_left, Int.toNat_natCast, reps, List.all_cons, List.all_nil, C.flat, List.append_eq, Bool.not_true, Bool.and_true, Bool.or_false, Bool.or_self, Bool.not_false, List.append_nil, Bool.and_self, ↓slG_rk, encP]) <;> rfl) (hv : v.rk σ N = v' := by (try simp only [givesF, setF, updF, Fam.zeroth, Fam.rk, Ck.rk, C.rk, E.rk, T.rk, key, List.map_cons, List.map_nil, List.cons_append, List.nil_append, List.length_cons, List.length_nil, Option.map_some, Option.bind_some, Nat.reduceAdd, Nat.zero_add, Nat.add_zero, Nat.add_sub_cancel_left, Int.toNat_natCast, reps, List.all_cons, List.all_nil, C.flat, List.append_eq, Bool.not_true, Bool.and_true, Bool.or_false, Bool.or_self, Bool.not_false, List.append_nil, Bool.and_self, ↓slG_rk, encP]) <;> rfl) : RetG σ H h' v K := ret_mk3 hN h hv hk
theorem rH29F1 {σ : List Sg} {H h' : List Fam} {v : T} {K : T → List Fam → Prop} {H' : List Fam} {v' : T} {N : Nat} (hk : K v' H') (hN : H.length = N := by (try simp only [↓List.length_cons, ↓List.length_nil, Nat.reduceAdd]) <;> rfl) (h : givesF σ N H σ h' = some H' := by (try simp (maxSteps := 1000000) only [givesF, setF, updF, Fam.zeroth, Fam.rk, Ck.rk, C.rk, E.rk, T.rk, key, List.map_cons, List.map_nil, List.cons_append, List.nil_append, List.length_cons, List.length_nil, Option.map_some, Option.bind_some, Nat.reduceAdd, Nat.zero_add, Nat.add_zero, Nat.add_sub_cancel_left, Int.toNat_natCast, reps, List.all_cons, List.all_nil, C.flat, List.append_eq, Bool.not_true, Bool.and_true, Bool.or_false, Bool.or_self, Bool.not_false, List.append_nil, Bool.and_self, ↓slG_rk, encP, encS]) <;> rfl) (hv : v.rk σ N = v' := by (try simp only [givesF, setF, updF, Fam.zeroth, Fam.rk, Ck.rk, C.rk, E.rk, T.rk, key, List.map_cons, List.map_nil, List.cons_append, List.nil_append, List.length_cons, List.length_nil, Option.map_some, Option.bind_some, Nat.reduceAdd, Nat.zero_add, Nat.add_zero, Nat.add_sub_cancel_left, Int.toNat_natCast, reps, List.all_cons, List.all_nil, C.flat, List.append_eq, Bool.not_true, Bool.and_true, Bool.or_false, Bool.or_self, Bool.not_false, List.append_nil, Bool.and_self, ↓slG_rk, encP, encS]) <;> rfl) : RetG σ H h' v K := ret_mk3 hN h hv hk
theorem cH29F2 {P : Program} {F : Nat} {args : List T} {H : List Fam} {K : T → List Fam → Prop} {σ : List Sg} {nl : List Fam} {args0 : List T} {h0 : List Fam} {Q : T → List Fam → Prop} {H2 H1 : List Fam} {N n : Nat} (hc : Ctr P F args0 h0 Q) (hk : ∀ v h', Q v h' → capsP h' → RetG σ H2 h' v K) (hap : apart σ = true := by rfl) (hnl : nl.all nilB = true := by rfl) (h1 : H ++ nl = H1 := by first | exact List.append_nil _ | ((try simp only [List.cons_append, List.nil_append]) <;> rfl)) (hN : H1.length = N := by (try simp only [↓List.length_cons, ↓List.length_nil, Nat.reduceAdd]) <;> rfl) (hn : H.length = n := by (try simp only [↓List.length_cons, ↓List.length_nil, Nat.reduceAdd]) <;> rfl) (hH : givesF σ N H1 σ h0 = some H2 := by (try simp (maxSteps := 1000000) only [givesF, setF, updF, Fam.zeroth, Fam.rk, Ck.rk, C.rk, E.rk, T.rk, key, List.map_cons, List.map_nil, List.cons_append, List.nil_append, List.length_cons, List.length_nil, Option.map_some, Option.bind_some, Nat.reduceAdd, Nat.zero_add, Nat.add_zero, Nat.add_sub_cancel_left, Int.toNat_natCast, reps, List.all_cons, List.all_nil, C.flat, List.append_eq, Bool.not_true, Bool.and_true, Bool.or_false, Bool.or_self, Bool.not_false, List.append_nil, Bool.and_self, ↓slG_rk]) <;> rfl) (hle : leS n H1 σ N σ h0 (belsK N (h0.map (Fam.rk σ N)) (argsK n args (args0.map (T.rk σ N)) True)) := by repeat' first | refine And.intro ?_ ?_ | exact xeC | fail) : CallK P F args H K := CallK.mk3 hc hap hnl h1 hN hn hH hle hk
set_option maxRecDepth 10000 in
set_option maxHeartbeats 8000000 in
theorem rrdata (id : Int) (q : Qos) (R : Rd) (cM c cl : Nat) (cf : Nat → Nat) (k : Nat) (m : Mx) (x : Pkt) (n cm : Nat) (hR : RdN R) (hk : k < R.M.length) (hw : (R.M.getD k default).2 = x.w) (hm : R.D (R.M.getD k default).2.toNat = some m) (hI : Inv (R.rs m) 800000 700000) (hq : q.keep = true ∨ 1 ≤ q.depth) (hl : R.M.length ≤ 1000000) (hx : okN x.q) (xm : Nat := 0) :
    Ctr Try.prog 66 [.c (.p 0 0 0), .c (.i .i64 (k : Nat)), .a (encP (.sl 6 xm 1 0 n cm) x)] (rrC id q R cM c cl cf)
      fun v h => ∃ c' cl' cf', v = .t [] ∧ h = rrE id q (upd R (R.M.getD k default).2 m (dataF q (R.M.getD k default).2 m.rel x (R.rs m))) cM c' cl' cf' := by
  unfold okN at hx
  have hIl : R.l.length + m.W.length ≤ 800000 := hI.l
  have hIs : R.ls.length + 2 * m.W.length ≤ 700000 := hI.ls
  have hIo : WOk m.W m.ex := hI.ok
  have hlo : 1 ≤ m.ex := hI.lo
  have hhi : m.ex ≤ 1099511627777 := hI.hi
  have hself : ∀ y, R.D y = (upd R (R.M.getD k default).2 m ⟨R.l, R.ls, m.ex, m.W, m.ck⟩).D y := upd_self hm
  have e3 : 0 + ((k : Nat) : Int).toNat = k := by omega
  have hWl : m.W.length ≤ 1000000 := by omega
  have hll : (R.ls ++ lapL (R.M.getD k default).2 m.ex x.q).length ≤ 900000 := by
    have := lap_len (R.M.getD k default).2 m.ex x.q
    simp only [List.length_append]; omega
  generalize hF : dataF q (R.M.getD k default).2 m.rel x (R.rs m) = F
  unfold dataF Rd.rs smpOf at hF
  dsimp only at hF
  have he : encMt 5 R cf k = _ := mt_at hm
  unfold mtc5 at he
  have hs := slG_at (cf := cf) hm
  refine Ctr.mk' tbv mixed Try.func66 rfl rfl rfl (fun _ _ => by kernel_rfl) (by kernel_rfl) (by rfl) (by rfl) (by (repeat' first | refine And.intro ?_ ?_ | exact xeC | fail) <;> exact xmR) ?_
  repeat' (first | (fail_if_success (with_reducible refine xstp ?_)); first | ((with_reducible refine And.intro ?_ ?_); focus exact xoC) | (with_reducible intro hc; (try simp only [capsP, and_true] at hc); (try exact xfC)) | ((fail_if_success (with_reducible first | refine xgon ?_ | intro _)); (conv => whnf); (fail_if_success (fail_if_success (with_reducible first | refine xstp ?_ | refine xgon ?_ | intro _)))))
  rw [e3]
  rw [he]
  repeat' (first | (fail_if_success (with_reducible refine xstp ?_)); first | ((with_reducible refine And.intro (fun (hb : _ = true) => ?_) (fun (hb : _ = false) => ?_)) <;> replace hb := xnC hb <;> (try first | exact xfC | exact bff hb (by assumption) | exact bff (by assumption) hb)) | ((with_reducible refine And.intro ?_ ?_); focus exact xoC) | ((fail_if_success (with_reducible first | refine xgon ?_ | intro _)); (conv => whnf); (fail_if_success (fail_if_success (with_reducible first | refine xstp ?_ | refine xgon ?_ | intro _)))))
  · rw [if_pos hb] at hF
    subst hF
    refine FinK.mk ⟨[0, 1, 2, 3, 4, 5, 6, 3, 4, 5], _, _, ⟨c, cl, cf, rfl, rfl⟩, ?_⟩
    (repeat' first | refine And.intro ?_ ?_ | exact xeC | fail)
    all_goals first
      | exact xmR
      | (intro i hi; dsimp only; rw [mt_key (G := 5) (fun x => rfl), ← encMt_cong (R := R) (R' := upd R (R.M.getD k default).2 m ⟨R.l, R.ls, m.ex, m.W, m.ck⟩) rfl hself])
      | exact fun x => by rw [← slG_cong (R := R) (R' := upd R (R.M.getD k default).2 m ⟨R.l, R.ls, m.ex, m.W, m.ck⟩) hself]; exact slG_le
  rw [he]
  repeat' (first | (fail_if_success (with_reducible refine xstp ?_)); first | ((with_reducible refine And.intro (fun (hb : _ = true) => ?_) (fun (hb : _ = false) => ?_)) <;> replace hb := xnC hb <;> (try first | exact xfC | exact bff hb (by assumption) | exact bff (by assumption) hb)) | ((with_reducible refine And.intro ?_ ?_); focus exact xoC) | ((fail_if_success (with_reducible first | refine xgon ?_ | intro _)); (conv => whnf); (fail_if_success (fail_if_success (with_reducible first | refine xstp ?_ | refine xgon ?_ | intro _)))))
  · rw [if_neg (by omega), if_pos hb] at hF
    refine cH29F2 (σ := [.whole 0, .name 1, .whole 2, .whole 3, .name 5]) (nl := []) (rrlapse id q R cM cf R.ls cl k m x.q hk hm ⟨hlo, hhi⟩ (by omega) (by omega) hl) ?_ (hle := by (repeat' first | refine And.intro ?_ ?_ | exact xeC | fail) <;> exact xmR)
    rintro v h' ⟨rfl, cl1, rfl⟩ hcaps
    refine rH29F0 ?_
    rw [mt_fun (G := 5) (fun x => rfl)]
    repeat' (first | (fail_if_success (with_reducible refine xstp ?_)); first | ((with_reducible refine And.intro ?_ ?_); focus exact xoC) | ((fail_if_success (with_reducible first | refine xgon ?_ | intro _)); (conv => whnf); (fail_if_success (fail_if_success (with_reducible first | refine xstp ?_ | refine xgon ?_ | intro _)))))
    rw [he]
    repeat' (first | (fail_if_success (with_reducible refine xstp ?_)); first | ((fail_if_success (with_reducible first | refine xgon ?_ | intro _)); (conv => whnf); (fail_if_success (fail_if_success (with_reducible first | refine xstp ?_ | refine xgon ?_ | intro _)))))
    refine cH29F2 (σ := [.whole 0, .whole 1, .name 2, .whole 9, .whole 4]) (nl := []) (rrdeliver id q R.M.length cM R.l c (R.ls ++ lapL (R.M.getD k default).2 m.ex x.q) cl1 ⟨x.w, x.q, x.at', x.p⟩ (by omega) hll hq) ?_
    rintro v h' ⟨rfl, c2, cl2, rfl⟩ hcaps
    refine rH29F1 ?_
    repeat' (first | (fail_if_success (with_reducible refine xstp ?_)); first | ((fail_if_success (with_reducible first | refine xgon ?_ | intro _)); (conv => whnf); (fail_if_success (fail_if_success (with_reducible first | refine xstp ?_ | refine xgon ?_ | intro _)))))
    subst hF
    refine FinK.mk ⟨[0, 1, 2, 3, 4, 5, 6, 10, 11, 5], _, _, ⟨c2, cl2, cf, rfl, rfl⟩, ?_⟩
    (repeat' first | refine And.intro ?_ ?_ | exact xeC | fail)
    all_goals first
      | exact xmR
      | (intro i hi
         have := mt_updR (R2 := upd R (R.M.getD k default).2 m ⟨newS q R.l ⟨x.w, x.q, x.at', x.p⟩, dlvL q R.l (R.ls ++ lapL (R.M.getD k default).2 m.ex x.q) ⟨x.w, x.q, x.at', x.p⟩, x.q + 1, m.W, m.ck⟩) (F := 9) (G := 5) (N := 0) (σ := [0, 1, 2, 3, 4, 5, 6, 10, 11, 5]) (cf := cf) (m := ⟨m.nd, x.q + 1, m.rel, m.W, m.ck⟩) hR hk (fun x _ => rfl) rfl (fun y => rfl) (updC_self cf (R.M.getD k default).2).symm rfl i hi
         exact this)
      | exact fun y => slG_leE (slG_sameR (m2 := ⟨m.nd, x.q + 1, m.rel, m.W, m.ck⟩) hm rfl (fun y => rfl))
      | skip
    all_goals trace_state
    all_goals stop
    all_goals skip
  rw [he]
  repeat' (first | (fail_if_success (with_reducible refine xstp ?_)); first | ((with_reducible refine And.intro (fun (hb : _ = true) => ?_) (fun (hb : _ = false) => ?_)) <;> replace hb := xnC hb <;> (try first | exact xfC | exact bff hb (by assumption) | exact bff (by assumption) hb)) | ((with_reducible refine And.intro ?_ ?_); focus exact xoC) | ((fail_if_success (with_reducible first | refine xgon ?_ | intro _)); (conv => whnf); (fail_if_success (fail_if_success (with_reducible first | refine xstp ?_ | refine xgon ?_ | intro _)))))
  · rename_i hb0
    have hop : openB ⟨R.l, R.ls, m.ex, m.W, m.ck⟩ x.q ↔ x.q < m.ex + 256 ∧ idxM (fndW m.W x.q) < 0 := open_iff (r := ⟨R.l, R.ls, m.ex, m.W, m.ck⟩) (by assumption)
    rw [if_neg (by omega), if_neg (by rw [hb0]; simp)] at hF
    refine cH29F2 (σ := [.whole 2, .whole 5]) (nl := []) (rrslot R cM cf k m x.q hk hm hWl) ?_ (hle := by (repeat' first | refine And.intro ?_ ?_ | exact xeC | fail) <;> exact xmR)
    rintro v h' ⟨rfl, rfl⟩ hcaps
    refine rH29F0 ?_
    rw [mt_fun (G := 5) (fun x => rfl)]
    repeat' (first | (fail_if_success (with_reducible refine xstp ?_)); first | ((with_reducible refine And.intro (fun (hb : _ = true) => ?_) (fun (hb : _ = false) => ?_)) <;> replace hb := xnC hb <;> (try first | exact xfC | exact bff hb (by assumption) | exact bff (by assumption) hb)) | ((with_reducible refine And.intro ?_ ?_); focus exact xoC) | ((fail_if_success (with_reducible first | refine xgon ?_ | intro _)); (conv => whnf); (fail_if_success (fail_if_success (with_reducible first | refine xstp ?_ | refine xgon ?_ | intro _)))))
    · rw [if_pos (hop.2 ⟨by assumption, by assumption⟩)] at hF
      rw [he]
      repeat' (first | (fail_if_success (with_reducible refine xstp ?_)); first | ((with_reducible refine And.intro ?_ ?_); focus exact xoC) | ((fail_if_success (with_reducible first | refine xgon ?_ | intro _)); (conv => whnf); (fail_if_success (fail_if_success (with_reducible first | refine xstp ?_ | refine xgon ?_ | intro _)))))
      refine ManyK.mk ⟨slR m.W (cf (R.M.getD k default).2.toNat), hs, ?_⟩
      repeat' (first | (fail_if_success (with_reducible refine xstp ?_)); first | ((with_reducible refine And.intro ?_ ?_); focus exact xoC) | ((with_reducible refine Or.inl ⟨?_, ?_, ?_⟩); (focus rfl); focus exact xaC) | (with_reducible intro hc; (try simp only [capsP, and_true] at hc); (try exact xfC)) | ((fail_if_success (with_reducible first | refine xgon ?_ | intro _)); (conv => whnf); (fail_if_success (fail_if_success (with_reducible first | refine xstp ?_ | refine xgon ?_ | intro _)))))
      rename Nat => c3
      rw [he]
      repeat' (first | (fail_if_success (with_reducible refine xstp ?_)); first | ((fail_if_success (with_reducible first | refine xgon ?_ | intro _)); (conv => whnf); (fail_if_success (fail_if_success (with_reducible first | refine xstp ?_ | refine xgon ?_ | intro _)))))
      have hput := put_ok (r := ⟨R.l, R.ls, m.ex, m.W, m.ck⟩) hIo (hop.2 ⟨by assumption, by assumption⟩) (s := ⟨1, ⟨x.w, x.q, x.at', x.p⟩⟩) hx.2
      have hl1 : (m.W ++ [(m.ck, x.q, (⟨1, ⟨x.w, x.q, x.at', x.p⟩⟩ : Slt))]).length = m.W.length + 1 := by rw [List.length_append]; rfl
      refine cH29F2 (σ := [.whole 0, .whole 1, .whole 2, .whole 3, .whole 4, .whole 5, .whole 10]) (nl := []) (rrmove2 id q R cM c cl cf k ⟨m.nd, m.ex, m.rel, m.W ++ [(m.ck, x.q, (⟨1, ⟨x.w, x.q, x.at', x.p⟩⟩ : Slt))], m.ck + 1⟩ hR hk c3 ⟨hput, hlo, hhi, by simp [Rd.rs]; omega, by simp [Rd.rs]; omega⟩ hq hl) ?_ (hle := by (repeat' first | refine And.intro ?_ ?_ | exact xeC | fail) <;> (first | exact xmR | exact fun i hi => rowIf (fun x => rfl) (by dsimp only; rw [hl1]; rfl) i | exact fun x => slG_noLe | exact fun x => slG_noBel | exact Nat.le_of_eq hl1 | (intro i hi; exact app_rowG encSl m.W (m.ck, x.q, ⟨1, ⟨x.w, x.q, x.at', x.p⟩⟩) _ rfl i hi) | (intro i hi; dsimp only; rw [← rowIf (F := 5) (G := 5) (fun x => rfl) rfl]; split <;> first | rfl | exact mt_bel rfl _ _ _) | skip))
      rintro v h' ⟨c4, cl4, cf4, rfl, rfl⟩ hcaps
      have hF2 : mvA q (R.M.getD k default).2 (R.rs ⟨m.nd, m.ex, m.rel, m.W ++ [(m.ck, x.q, ⟨1, ⟨x.w, x.q, x.at', x.p⟩⟩)], m.ck + 1⟩) = F := by
        rw [← hF]
        show mv q _ (m.W ++ [(m.ck, x.q, (⟨1, ⟨x.w, x.q, x.at', x.p⟩⟩ : Slt))]).length _ = _
        rw [hl1]
        rfl
      rw [hF2]
      rw [show upd R (R.M.getD k default).2 ⟨m.nd, m.ex, m.rel, m.W ++ [(m.ck, x.q, ⟨1, ⟨x.w, x.q, x.at', x.p⟩⟩)], m.ck + 1⟩ F = upd R (R.M.getD k default).2 m F from rfl]
      refine rH29F0 ?_
      rw [mt_fun (G := 13) (fun x => rfl)]
      repeat' (first | (fail_if_success (with_reducible refine xstp ?_)); first | ((fail_if_success (with_reducible first | refine xgon ?_ | intro _)); (conv => whnf); (fail_if_success (fail_if_success (with_reducible first | refine xstp ?_ | refine xgon ?_ | intro _)))))
      refine FinK.mk ⟨[0, 1, 2, 3, 4, 5, 6, 11, 12, 13], _, _, ⟨c4, cl4, cf4, rfl, rfl⟩, ?_⟩
      (repeat' first | refine And.intro ?_ ?_ | exact xeC | fail)
      all_goals first
        | exact xmR
        | (intro i hi; dsimp only; rw [mt_key (G := 13) (fun x => rfl)])
        | skip
    · rw [if_neg (fun h => by have := hop.1 h; omega)] at hF
      subst hF
      refine FinK.mk ⟨[0, 1, 2, 3, 4, 5, 6, 3, 4, 5], _, _, ⟨c, cl, cf, rfl, rfl⟩, ?_⟩
      (repeat' first | refine And.intro ?_ ?_ | exact xeC | fail)
      all_goals first
        | exact xmR
        | (intro i hi; dsimp only; rw [mt_key (G := 5) (fun x => rfl), ← encMt_cong (R := R) (R' := upd R (R.M.getD k default).2 m ⟨R.l, R.ls, m.ex, m.W, m.ck⟩) rfl hself])
        | exact fun x => by rw [← slG_cong (R := R) (R' := upd R (R.M.getD k default).2 m ⟨R.l, R.ls, m.ex, m.W, m.ck⟩) hself]; exact slG_le
  · rename_i hb0
    have hop : openB ⟨R.l, R.ls, m.ex, m.W, m.ck⟩ x.q ↔ x.q < m.ex + 256 ∧ idxM (fndW m.W x.q) < 0 := open_iff (r := ⟨R.l, R.ls, m.ex, m.W, m.ck⟩) (by assumption)
    rw [if_neg (by omega), if_neg (by rw [hb0]; simp), if_neg (fun h => by have := hop.1 h; omega)] at hF
    subst hF
    refine FinK.mk ⟨[0, 1, 2, 3, 4, 5, 6, 3, 4, 5], _, _, ⟨c, cl, cf, rfl, rfl⟩, ?_⟩
    (repeat' first | refine And.intro ?_ ?_ | exact xeC | fail)
    all_goals first
      | exact xmR
      | (intro i hi; dsimp only; rw [mt_key (G := 5) (fun x => rfl), ← encMt_cong (R := R) (R' := upd R (R.M.getD k default).2 m ⟨R.l, R.ls, m.ex, m.W, m.ck⟩) rfl hself])
      | exact fun x => by rw [← slG_cong (R := R) (R' := upd R (R.M.getD k default).2 m ⟨R.l, R.ls, m.ex, m.W, m.ck⟩) hself]; exact slG_le
end Go.Proofs.Ytgcofipbdidhmaa


namespace Go.Proofs.Ytgcofipbdidhmaa
open Go.X
set_option linter.unusedSimpArgs false
set_option linter.unusedVariables false
theorem upd_upd {R : Rd} {w : Int} {m m2 : Mx} {r r' : Rs} (h1 : m2.nd = m.nd) (h2 : m2.rel = m.rel) : upd (upd R w m r) w m2 r' = upd R w m r' := by
  unfold upd
  simp only [Rd.mk.injEq, true_and]
  funext y
  split
  · rw [h1, h2]
  · rfl
theorem upd_updW {R : Rd} {w : Int} {m m1 m2 : Mx} {r' : Rs} (h1 : m2.nd = m.nd) (h2 : m2.rel = m.rel) : upd (updW R w m1) w m2 r' = upd R w m r' := by
  unfold upd updW
  simp only [Rd.mk.injEq, true_and]
  funext y
  split
  · rw [h1, h2]
  · rfl
theorem updW_updW {R : Rd} {w : Int} {m1 m2 : Mx} : updW (updW R w m1) w m2 = updW R w m2 := by
  unfold updW
  simp only [Rd.mk.injEq, true_and]
  funext y
  split <;> rfl
theorem upd_put {R : Rd} {w : Int} {m : Mx} {l : List Smp} {ls : List (Int × Int)} {ex : Int} {W W2 : Win} {ck ck2 : Nat} : upd R w m ⟨l, ls, ex, W2, ck2⟩ = updW (upd R w m ⟨l, ls, ex, W, ck⟩) w ⟨m.nd, ex, m.rel, W2, ck2⟩ := by
  unfold updW upd
  simp only [Rd.mk.injEq, true_and]
  funext y
  split <;> rfl
theorem keyV {w : Nat} {N : Nat} : (∀ x, x ≠ w → key [0, 1, 2, 3, 4, 5, 6, 7, .adopt 8 w 10] N 8 x = (8, x)) ∧ key [0, 1, 2, 3, 4, 5, 6, 7, .adopt 8 w 10] N 8 w = (10, 0) := ⟨fun x hx => by simp [key, hx], by simp [key]⟩
theorem rnUpdW2 {R : Rd} {k : Nat} {m2 : Mx} (hR : RdN R) (hk : k < R.M.length) : RdN (updW R (R.M.getD k default).2 m2) := by
  refine ⟨⟨fun i hi => ?_, fun x m' hx => ?_⟩, hR.nd⟩
  · obtain ⟨h1, m1, h2⟩ := hR.a i hi
    refine ⟨h1, ?_⟩
    show ∃ m', (if _ = _ then _ else _) = some m'
    split
    · exact ⟨_, rfl⟩
    · exact ⟨m1, h2⟩
  · have hx : (if x = (R.M.getD k default).2.toNat then _ else R.D x) = some m' := hx
    split at hx
    · rename_i h
      have h1 := (hR.a k hk).1
      exact ⟨k, hk, by show (R.M.getD k default).2 = (x : Int); omega, by omega⟩
    · exact hR.b x m' hx
theorem rH29G0 {σ : List Sg} {H h' : List Fam} {v : T} {K : T → List Fam → Prop} {H' : List Fam} {v' : T} {N : Nat} (hk : K v' H') (hN : H.length = N := by (try simp only [↓List.length_cons, ↓List.length_nil, Nat.reduceAdd]) <;> rfl) (h : givesF σ N H σ h' = some H' := by (try simp (maxSteps := 1000000) only [givesF, setF, updF, Fam.zeroth, Fam.rk, Ck.rk, C.rk, E.rk, T.rk, key, List.map_cons, List.map_nil, List.cons_append, List.nil_append, List.length_cons, List.length_nil, Option.map_some, Option.bind_some, Nat.reduceAdd, Nat.zero_add, Nat.add_zero, Nat.add_sub_cancel_left, Int.toNat_natCast, reps, List.all_cons, List.all_nil, C.flat, List.append_eq, Bool.not_true, Bool.and_true, Bool.or_false, Bool.or_self, Bool.not_false, List.append_nil, Bool.and_self, ↓slG_rk, encP]) <;> rfl) (hv : v.rk σ N = v' := by (try simp only [givesF, setF, updF, Fam.zeroth, Fam.rk, Ck.rk, C.rk, E.rk, T.rk, key, List.map_cons, List.map_nil, List.cons_append, List.nil_append, List.length_cons, List.length_nil, Option.map_some, Option.bind_some, Nat.reduceAdd, Nat.zero_add, Nat.add_zero, Nat.add_sub_cancel_left, Int.toNat_natCast, reps, List.all_cons, List.all_nil, C.flat, List.append_eq, Bool.not_true, Bool.and_true, Bool.or_false, Bool.or_self, Bool.not_false, List.append_nil, Bool.and_self, ↓slG_rk, encP]) <;> rfl) : RetG σ H h' v K := ret_mk3 hN h hv hk
theorem cH29G1 {P : Program} {F : Nat} {args : List T} {H : List Fam} {K : T → List Fam → Prop} {σ : List Sg} {nl : List Fam} {args0 : List T} {h0 : List Fam} {Q : T → List Fam → Prop} {H2 H1 : List Fam} {N n : Nat} (hc : Ctr P F args0 h0 Q) (hk : ∀ v h', Q v h' → capsP h' → RetG σ H2 h' v K) (hap : apart σ = true := by rfl) (hnl : nl.all nilB = true := by rfl) (h1 : H ++ nl = H1 := by first | exact List.append_nil _ | ((try simp only [List.cons_append, List.nil_append]) <;> rfl)) (hN : H1.length = N := by (try simp only [↓List.length_cons, ↓List.length_nil, Nat.reduceAdd]) <;> rfl) (hn : H.length = n := by (try simp only [↓List.length_cons, ↓List.length_nil, Nat.reduceAdd]) <;> rfl) (hH : givesF σ N H1 σ h0 = some H2 := by (try simp (maxSteps := 1000000) only [givesF, setF, updF, Fam.zeroth, Fam.rk, Ck.rk, C.rk, E.rk, T.rk, key, List.map_cons, List.map_nil, List.cons_append, List.nil_append, List.length_cons, List.length_nil, Option.map_some, Option.bind_some, Nat.reduceAdd, Nat.zero_add, Nat.add_zero, Nat.add_sub_cancel_left, Int.toNat_natCast, reps, List.all_cons, List.all_nil, C.flat, List.append_eq, Bool.not_true, Bool.and_true, Bool.or_false, Bool.or_self, Bool.not_false, List.append_nil, Bool.and_self, ↓slG_rk]) <;> rfl) (hle : leS n H1 σ N σ h0 (belsK N (h0.map (Fam.rk σ N)) (argsK n args (args0.map (T.rk σ N)) True)) := by repeat' first | refine And.intro ?_ ?_ | exact xeC | fail) : CallK P F args H K := CallK.mk3 hc hap hnl h1 hN hn hH hle hk
set_option maxRecDepth 10000 in
set_option maxHeartbeats 8000000 in
theorem rrgap (id : Int) (q : Qos) (R : Rd) (cM c cl : Nat) (cf : Nat → Nat) (k : Nat) (m : Mx) (x : Pkt) (n cm : Nat) (hR : RdN R) (hk : k < R.M.length) (hm : R.D (R.M.getD k default).2.toNat = some m) (hI : Inv (R.rs m) 800000 700000) (hq : q.keep = true ∨ 1 ≤ q.depth) (hl : R.M.length ≤ 1000000) (hx : checkP x = 0) (hxk : x.k = 4) (xm : Nat := 0) :
    Ctr Try.prog 67 [.c (.p 0 0 0), .c (.i .i64 (k : Nat)), .a (encP (.sl 6 xm 1 0 n cm) x)] (rrC id q R cM c cl cf)
      fun v h => ∃ c' cl' cf', v = .t [] ∧ h = rrE id q (upd R (R.M.getD k default).2 m (gapF q (R.M.getD k default).2 m.rel x (R.rs m))) cM c' cl' cf' := by
  have hx : (x.q = 0 ∨ x.q = 1) ∧ (1 ≤ x.f ∧ x.f ≤ 1099511627776) ∧ x.f - 1 ≤ x.la ∧ x.la ≤ 1099511627776 := by
    unfold checkP okN at hx
    rw [if_neg (by omega), if_pos hxk] at hx
    split at hx
    · assumption
    · omega
  have hIl : R.l.length + m.W.length ≤ 800000 := hI.l
  have hIs : R.ls.length + 2 * m.W.length ≤ 700000 := hI.ls
  have hIo : WOk m.W m.ex := hI.ok
  have hlo : 1 ≤ m.ex := hI.lo
  have hhi : m.ex ≤ 1099511627777 := hI.hi
  have hself : ∀ y, R.D y = (upd R (R.M.getD k default).2 m ⟨R.l, R.ls, m.ex, m.W, m.ck⟩).D y := upd_self hm
  have e3 : 0 + ((k : Nat) : Int).toNat = k := by omega
  have hWl : m.W.length ≤ 1000000 := by omega
  generalize hF : gapF q (R.M.getD k default).2 m.rel x (R.rs m) = F
  unfold gapF Rd.rs at hF
  dsimp only at hF
  have he : encMt 5 R cf k = _ := mt_at hm
  unfold mtc5 at he
  have hs := slG_at (cf := cf) hm
  refine Ctr.mk' tbv mixed Try.func67 rfl rfl rfl (fun _ _ => by kernel_rfl) (by kernel_rfl) (by rfl) (by rfl) (by (repeat' first | refine And.intro ?_ ?_ | exact xeC | fail) <;> exact xmR) ?_
  repeat' (first | (fail_if_success (with_reducible refine xstp ?_)); first | ((with_reducible refine And.intro ?_ ?_); focus exact xoC) | (with_reducible intro hc; (try simp only [capsP, and_true] at hc); (try exact xfC)) | ((fail_if_success (with_reducible first | refine xgon ?_ | intro _)); (conv => whnf); (fail_if_success (fail_if_success (with_reducible first | refine xstp ?_ | refine xgon ?_ | intro _)))))
  rw [e3]
  rw [he]
  repeat' (first | (fail_if_success (with_reducible refine xstp ?_)); first | ((with_reducible refine And.intro (fun (hb : _ = true) => ?_) (fun (hb : _ = false) => ?_)) <;> replace hb := xnC hb <;> (try first | exact xfC | exact bff hb (by assumption) | exact bff (by assumption) hb)) | ((with_reducible refine And.intro ?_ ?_); focus exact xoC) | ((fail_if_success (with_reducible first | refine xgon ?_ | intro _)); (conv => whnf); (fail_if_success (fail_if_success (with_reducible first | refine xstp ?_ | refine xgon ?_ | intro _)))))
  · rw [if_pos (by omega)] at hF
    subst hF
    refine FinK.mk ⟨[0, 1, 2, 3, 4, 5, 6, 3, 4, 5], _, _, ⟨c, cl, cf, rfl, rfl⟩, ?_⟩
    (repeat' first | refine And.intro ?_ ?_ | exact xeC | fail)
    all_goals first
      | exact xmR
      | (intro i hi; dsimp only; rw [mt_key (G := 5) (fun x => rfl), ← encMt_cong (R := R) (R' := upd R (R.M.getD k default).2 m ⟨R.l, R.ls, m.ex, m.W, m.ck⟩) rfl hself])
      | exact fun x => by rw [← slG_cong (R := R) (R' := upd R (R.M.getD k default).2 m ⟨R.l, R.ls, m.ex, m.W, m.ck⟩) hself]; exact slG_le
  · rw [if_pos (by omega)] at hF
    subst hF
    refine FinK.mk ⟨[0, 1, 2, 3, 4, 5, 6, 3, 4, 5], _, _, ⟨c, cl, cf, rfl, rfl⟩, ?_⟩
    (repeat' first | refine And.intro ?_ ?_ | exact xeC | fail)
    all_goals first
      | exact xmR
      | (intro i hi; dsimp only; rw [mt_key (G := 5) (fun x => rfl), ← encMt_cong (R := R) (R' := upd R (R.M.getD k default).2 m ⟨R.l, R.ls, m.ex, m.W, m.ck⟩) rfl hself])
      | exact fun x => by rw [← slG_cong (R := R) (R' := upd R (R.M.getD k default).2 m ⟨R.l, R.ls, m.ex, m.W, m.ck⟩) hself]; exact slG_le
  rw [he]
  repeat' (first | (fail_if_success (with_reducible refine xstp ?_)); first | ((with_reducible refine And.intro (fun (hb : _ = true) => ?_) (fun (hb : _ = false) => ?_)) <;> replace hb := xnC hb <;> (try first | exact xfC | exact bff hb (by assumption) | exact bff (by assumption) hb)) | ((with_reducible refine And.intro ?_ ?_); focus exact xoC) | ((fail_if_success (with_reducible first | refine xgon ?_ | intro _)); (conv => whnf); (fail_if_success (fail_if_success (with_reducible first | refine xstp ?_ | refine xgon ?_ | intro _)))))
  · rw [if_neg (by omega), if_pos (by assumption)] at hF
    rw [he]
    repeat' (first | (fail_if_success (with_reducible refine xstp ?_)); first | ((with_reducible refine And.intro (fun (hb : _ = true) => ?_) (fun (hb : _ = false) => ?_)) <;> replace hb := xnC hb <;> (try first | exact xfC | exact bff hb (by assumption) | exact bff (by assumption) hb)) | ((with_reducible refine And.intro ?_ ?_); focus exact xoC) | ((fail_if_success (with_reducible first | refine xgon ?_ | intro _)); (conv => whnf); (fail_if_success (fail_if_success (with_reducible first | refine xstp ?_ | refine xgon ?_ | intro _)))))
    · rw [if_pos (by omega), if_pos hb] at hF
      refine cH29G1 (σ := [.whole 0, .name 1, .whole 2, .whole 3, .name 5]) (nl := []) (rrlapse id q R cM cf R.ls cl k m (x.la + 1) hk hm ⟨hlo, hhi⟩ (by omega) (by omega) hl) ?_ (hle := by (repeat' first | refine And.intro ?_ ?_ | exact xeC | fail) <;> exact xmR)
      rintro v h' ⟨rfl, cl1, rfl⟩ hcaps
      refine rH29G0 ?_
      rw [mt_fun (G := 5) (fun x => rfl)]
      repeat' (first | (fail_if_success (with_reducible refine xstp ?_)); first | ((with_reducible refine And.intro ?_ ?_); focus exact xoC) | ((fail_if_success (with_reducible first | refine xgon ?_ | intro _)); (conv => whnf); (fail_if_success (fail_if_success (with_reducible first | refine xstp ?_ | refine xgon ?_ | intro _)))))
      rw [he]
      repeat' (first | (fail_if_success (with_reducible refine xstp ?_)); first | ((fail_if_success (with_reducible first | refine xgon ?_ | intro _)); (conv => whnf); (fail_if_success (fail_if_success (with_reducible first | refine xstp ?_ | refine xgon ?_ | intro _)))))
      subst hF
      refine FinK.mk ⟨[0, 1, 2, 3, 4, 5, 6, 8, 4, 5], _, _, ⟨c, cl1, cf, rfl, rfl⟩, ?_⟩
      (repeat' first | refine And.intro ?_ ?_ | exact xeC | fail)
      all_goals first
        | exact xmR
        | (intro i hi
           have := mt_updR (R2 := upd R (R.M.getD k default).2 m ⟨R.l, R.ls ++ lapL (R.M.getD k default).2 m.ex (x.la + 1), x.la + 1, m.W, m.ck⟩) (F := 9) (G := 5) (N := 0) (σ := [0, 1, 2, 3, 4, 5, 6, 8, 4, 5]) (cf := cf) (m := ⟨m.nd, x.la + 1, m.rel, m.W, m.ck⟩) hR hk (fun x _ => rfl) rfl (fun y => rfl) (updC_self cf (R.M.getD k default).2).symm rfl i hi
           exact this)
        | exact fun y => slG_leE (slG_sameR (m2 := ⟨m.nd, x.la + 1, m.rel, m.W, m.ck⟩) hm rfl (fun y => rfl))
        | skip

    · rw [if_pos (by omega), if_neg hb] at hF
      rw [he]
      repeat' (first | (fail_if_success (with_reducible refine xstp ?_)); first | ((fail_if_success (with_reducible first | refine xgon ?_ | intro _)); (conv => whnf); (fail_if_success (fail_if_success (with_reducible first | refine xstp ?_ | refine xgon ?_ | intro _)))))
      subst hF
      refine FinK.mk ⟨[0, 1, 2, 3, 4, 5, 6, 3, 4, 5], _, _, ⟨c, cl, cf, rfl, rfl⟩, ?_⟩
      (repeat' first | refine And.intro ?_ ?_ | exact xeC | fail)
      all_goals first
        | exact xmR
        | (intro i hi
           have := mt_updR (R2 := upd R (R.M.getD k default).2 m ⟨R.l, R.ls, x.la + 1, m.W, m.ck⟩) (F := 9) (G := 5) (N := 0) (σ := [0, 1, 2, 3, 4, 5, 6, 3, 4, 5]) (cf := cf) (m := ⟨m.nd, x.la + 1, m.rel, m.W, m.ck⟩) hR hk (fun x _ => rfl) rfl (fun y => rfl) (updC_self cf (R.M.getD k default).2).symm rfl i hi
           exact this)
        | exact fun y => slG_leE (slG_sameR (m2 := ⟨m.nd, x.la + 1, m.rel, m.W, m.ck⟩) hm rfl (fun y => rfl))
        | skip

    · rw [if_neg (by omega)] at hF
      subst hF
      refine FinK.mk ⟨[0, 1, 2, 3, 4, 5, 6, 3, 4, 5], _, _, ⟨c, cl, cf, rfl, rfl⟩, ?_⟩
      (repeat' first | refine And.intro ?_ ?_ | exact xeC | fail)
      all_goals first
        | exact xmR
        | (intro i hi; dsimp only; rw [mt_key (G := 5) (fun x => rfl), ← encMt_cong (R := R) (R' := upd R (R.M.getD k default).2 m ⟨R.l, R.ls, m.ex, m.W, m.ck⟩) rfl hself])
        | exact fun x => by rw [← slG_cong (R := R) (R' := upd R (R.M.getD k default).2 m ⟨R.l, R.ls, m.ex, m.W, m.ck⟩) hself]; exact slG_le
  all_goals have hrel : ¬ m.rel = false := by simp [*]
  all_goals rw [if_neg (by omega), if_neg hrel] at hF
  rw [he]
  repeat' (first | (fail_if_success (with_reducible refine xstp ?_)); first | ((with_reducible refine And.intro (fun (hb : _ = true) => ?_) (fun (hb : _ = false) => ?_)) <;> replace hb := xnC hb <;> (try first | exact xfC | exact bff hb (by assumption) | exact bff (by assumption) hb)) | ((with_reducible refine And.intro ?_ ?_); focus exact xoC) | ((fail_if_success (with_reducible first | refine xgon ?_ | intro _)); (conv => whnf); (fail_if_success (fail_if_success (with_reducible first | refine xstp ?_ | refine xgon ?_ | intro _)))))
  · rw [if_pos ⟨by assumption, by assumption⟩] at hF
    have hif : ∀ (A : List C) (B : Nat → List C), (fun i => if i = k then A else B i) k = A := fun A B => if_pos rfl
    rw [he]
    repeat' (first | (fail_if_success (with_reducible refine xstp ?_)); first | ((with_reducible refine And.intro ?_ ?_); focus exact xoC) | ((fail_if_success (with_reducible first | refine xgon ?_ | intro _)); (conv => whnf); (fail_if_success (fail_if_success (with_reducible first | refine xstp ?_ | refine xgon ?_ | intro _)))))
    rw [hif]
    repeat' (first | (fail_if_success (with_reducible refine xstp ?_)); first | ((fail_if_success (with_reducible first | refine xgon ?_ | intro _)); (conv => whnf); (fail_if_success (fail_if_success (with_reducible first | refine xstp ?_ | refine xgon ?_ | intro _)))))
    have hm2 : (updW R (R.M.getD k default).2 ⟨m.nd, x.la + 1, m.rel, m.W, m.ck⟩).D (R.M.getD k default).2.toNat = some ⟨m.nd, x.la + 1, m.rel, m.W, m.ck⟩ := if_pos rfl
    have hR2 := rnUpdW2 (m2 := ⟨m.nd, x.la + 1, m.rel, m.W, m.ck⟩) hR hk
    have hsm := slG_same (cf := cf) (m2 := ⟨m.nd, x.la + 1, m.rel, m.W, m.ck⟩) hm rfl
    have hrow := fun i hi => mt_upd (F := 1) (G := 5) (N := 8) (σ := [.whole 2, .whole 5]) (cf := cf) (m := ⟨m.nd, x.la + 1, m.rel, m.W, m.ck⟩) (c := cf (R.M.getD k default).2.toNat) (L := [.i .i64 (R.M.getD k default).2, .i .i64 m.nd, .b m.rel, .i .i64 (x.la + 1), .sl 5 (R.M.getD k default).2.toNat 6 0 m.W.length (cf (R.M.getD k default).2.toNat)]) hR hk (fun x _ => rfl) rfl i hi
    refine cH29G1 (σ := [.whole 2, .whole 5]) (nl := []) (rrcut (updW R (R.M.getD k default).2 ⟨m.nd, x.la + 1, m.rel, m.W, m.ck⟩) cM (updC cf (R.M.getD k default).2 (cf (R.M.getD k default).2.toNat)) k ⟨m.nd, x.la + 1, m.rel, m.W, m.ck⟩ (x.la + 1) hR2 hk hm2 hWl) ?_ (hle := by (repeat' first | refine And.intro ?_ ?_ | exact xeC | fail) <;> (first | exact xmR | exact hrow | (intro x; rw [hsm]; exact slG_le) | skip))
    rintro v h' ⟨c2, rfl, rfl⟩ hcaps
    have hup : updW (updW R (R.M.getD k default).2 ⟨m.nd, x.la + 1, m.rel, m.W, m.ck⟩) ((updW R (R.M.getD k default).2 ⟨m.nd, x.la + 1, m.rel, m.W, m.ck⟩).M.getD k default).2 (cutM (x.la + 1) ⟨m.nd, x.la + 1, m.rel, m.W, m.ck⟩) = updW R (R.M.getD k default).2 ⟨m.nd, x.la + 1, m.rel, wge (x.la + 1) m.W, m.ck⟩ := updW_updW
    rw [hup]
    generalize updC (updC cf (R.M.getD k default).2 (cf (R.M.getD k default).2.toNat)) ((updW R (R.M.getD k default).2 ⟨m.nd, x.la + 1, m.rel, m.W, m.ck⟩).M.getD k default).2 c2 = cf3
    refine rH29G0 ?_
    rw [mt_fun (G := 8) (fun x => rfl)]
    repeat' (first | (fail_if_success (with_reducible refine xstp ?_)); first | ((fail_if_success (with_reducible first | refine xgon ?_ | intro _)); (conv => whnf); (fail_if_success (fail_if_success (with_reducible first | refine xstp ?_ | refine xgon ?_ | intro _)))))
    have hR3 := rnUpdW2 (m2 := ⟨m.nd, x.la + 1, m.rel, wge (x.la + 1) m.W, m.ck⟩) hR hk
    have hm3 : (updW R (R.M.getD k default).2 ⟨m.nd, x.la + 1, m.rel, wge (x.la + 1) m.W, m.ck⟩).D (R.M.getD k default).2.toNat = some ⟨m.nd, x.la + 1, m.rel, wge (x.la + 1) m.W, m.ck⟩ := if_pos rfl
    have hJ := jump_inv hI (n := x.la + 1) (show m.ex ≤ x.la + 1 by omega) (by omega)
    have hJl : R.l.length + (wge (x.la + 1) m.W).length ≤ 800000 := hJ.l
    have hJs : R.ls.length + 2 * (wge (x.la + 1) m.W).length ≤ 700000 := hJ.ls
    refine cH29G1 (σ := [.whole 0, .whole 1, .whole 2, .whole 3, .whole 4, .whole 8]) (nl := []) (rrmove id q (updW R (R.M.getD k default).2 ⟨m.nd, x.la + 1, m.rel, wge (x.la + 1) m.W, m.ck⟩) cM c cl cf3 k ⟨m.nd, x.la + 1, m.rel, wge (x.la + 1) m.W, m.ck⟩ hR3 hk hm3 ⟨hJ.ok, hJ.lo, hJ.hi, Nat.le_trans hJl (by omega), Nat.le_trans hJs (by omega)⟩ hq hl) ?_ (hle := by (repeat' first | refine And.intro ?_ ?_ | exact xeC | fail) <;> exact xmR)
    rintro v h' ⟨c4, cl4, cf4, rfl, rfl⟩ hcaps
    have hF2 : mvA q ((updW R (R.M.getD k default).2 ⟨m.nd, x.la + 1, m.rel, wge (x.la + 1) m.W, m.ck⟩).M.getD k default).2 ((updW R (R.M.getD k default).2 ⟨m.nd, x.la + 1, m.rel, wge (x.la + 1) m.W, m.ck⟩).rs ⟨m.nd, x.la + 1, m.rel, wge (x.la + 1) m.W, m.ck⟩) = F := hF
    rw [hF2]
    rw [show upd (updW R (R.M.getD k default).2 ⟨m.nd, x.la + 1, m.rel, wge (x.la + 1) m.W, m.ck⟩) ((updW R (R.M.getD k default).2 ⟨m.nd, x.la + 1, m.rel, wge (x.la + 1) m.W, m.ck⟩).M.getD k default).2 ⟨m.nd, x.la + 1, m.rel, wge (x.la + 1) m.W, m.ck⟩ F = upd R (R.M.getD k default).2 m F from upd_updW rfl rfl]
    refine rH29G0 ?_
    rw [mt_fun (G := 11) (fun x => rfl)]
    repeat' (first | (fail_if_success (with_reducible refine xstp ?_)); first | ((fail_if_success (with_reducible first | refine xgon ?_ | intro _)); (conv => whnf); (fail_if_success (fail_if_success (with_reducible first | refine xstp ?_ | refine xgon ?_ | intro _)))))
    refine FinK.mk ⟨[0, 1, 2, 3, 4, 5, 6, 9, 10, 11], _, _, ⟨c4, cl4, cf4, rfl, rfl⟩, ?_⟩
    (repeat' first | refine And.intro ?_ ?_ | exact xeC | fail)
    all_goals first
      | exact xmR
      | (intro i hi; dsimp only; rw [mt_key (G := 11) (fun x => rfl)])
      | skip
  all_goals (
    rw [if_neg (by omega)] at hF
    generalize hst : (if x.q = 1 then (3 : Int) else 2) = st at hF
    generalize hKK : (min x.la (m.ex + 255) - max x.f m.ex + 1).toNat = KK at hF
    have hfill := fun j (hj : j ≤ KK) => fill_ok (r := ⟨R.l, R.ls, m.ex, m.W, m.ck⟩) hIo st (max x.f m.ex) j (by omega)
    rw [he]
    repeat' (first | (fail_if_success (with_reducible refine xstp ?_)); first | ((with_reducible refine And.intro ?_ ?_); focus exact xoC) | ((fail_if_success (with_reducible first | refine xgon ?_ | intro _)); (conv => whnf); (fail_if_success (fail_if_success (with_reducible first | refine xstp ?_ | refine xgon ?_ | intro _)))))
    rw [he]
    repeat' (first | (fail_if_success (with_reducible refine xstp ?_)); first | ((fail_if_success (with_reducible first | refine xgon ?_ | intro _)); (conv => whnf); (fail_if_success (fail_if_success (with_reducible first | refine xstp ?_ | refine xgon ?_ | intro _)))))
    have h0 : fillW st 0 (max x.f m.ex) ⟨R.l, R.ls, m.ex, m.W, m.ck⟩ = ⟨R.l, R.ls, m.ex, m.W, m.ck⟩ := rfl
    refine LoopK.mk' ({j : Nat // j ≤ KK} × (Nat → Nat))
      (fun ⟨⟨j, _⟩, cf1⟩ => ⟨[(0, .c (.p 0 0 0)), (1, .c (.i .i64 (k : Nat))), (5, .c (.p 7 0 0)), (6, .c (.pe 2 0 5 k 0)), (7, .c (.i .i64 (m.ex + 256))), (8, .c (.i .i64 (max x.f m.ex + j)))],
        [.one (rrd 1 2 3 id q R.M.length cM R.ls.length cl), .one (hist 4 q R.l.length c), .one (mtR 8 (upd R (R.M.getD k default).2 m (fillW st j (max x.f m.ex) ⟨R.l, R.ls, m.ex, m.W, m.ck⟩)) cM cf1), .one (lsr true R.ls cl), .one (smps true R.l c), .one .no, .one .no, .one (.cells true (encP (.sl 6 xm 1 0 n cm) x)), .many (slG (upd R (R.M.getD k default).2 m (fillW st j (max x.f m.ex) ⟨R.l, R.ls, m.ex, m.W, m.ck⟩)) cf1)]⟩)
      (fun j => KK - j.1.1)
      ⟨⟨⟨0, Nat.zero_le _⟩, cf⟩, [0, 1, 2, 3, 4, 5, 6, 7, 5], ?_⟩ ?_
    · (repeat' first | refine And.intro ?_ ?_ | exact xeC | fail)
      all_goals first
        | exact xmR
        | omega
        | (intro i hi; dsimp only; rw [mt_key (G := 5) (fun x => rfl), h0, ← encMt_cong (R := R) (R' := upd R (R.M.getD k default).2 m ⟨R.l, R.ls, m.ex, m.W, m.ck⟩) rfl hself])
        | exact fun y => by dsimp only; rw [h0, ← slG_cong (R := R) (R' := upd R (R.M.getD k default).2 m ⟨R.l, R.ls, m.ex, m.W, m.ck⟩) hself]; exact slG_le
        | skip
    rintro ⟨⟨j, hj⟩, cf1⟩
    have hfj := hfill j hj
    have eS := fill_succ st j (max x.f m.ex) ⟨R.l, R.ls, m.ex, m.W, m.ck⟩
    have hm1 : (upd R (R.M.getD k default).2 m (fillW st j (max x.f m.ex) ⟨R.l, R.ls, m.ex, m.W, m.ck⟩)).D (R.M.getD k default).2.toNat = some ⟨m.nd, (fillW st j (max x.f m.ex) ⟨R.l, R.ls, m.ex, m.W, m.ck⟩).ex, m.rel, (fillW st j (max x.f m.ex) ⟨R.l, R.ls, m.ex, m.W, m.ck⟩).W, (fillW st j (max x.f m.ex) ⟨R.l, R.ls, m.ex, m.W, m.ck⟩).ck⟩ := if_pos rfl
    have hR1 := rnUpd (r := fillW st j (max x.f m.ex) ⟨R.l, R.ls, m.ex, m.W, m.ck⟩) hR hk hm
    have he1 : encMt 8 _ cf1 k = _ := mt_at hm1
    have hs1 := slG_at (cf := cf1) hm1
    unfold mtc5 at he1
    repeat' (first | (fail_if_success (with_reducible refine xstp ?_)); first | ((with_reducible refine And.intro (fun (hb : _ = true) => ?_) (fun (hb : _ = false) => ?_)) <;> replace hb := xnC hb <;> (try first | exact xfC | exact bff hb (by assumption) | exact bff (by assumption) hb)) | (with_reducible intro hc; (try simp only [capsP, and_true] at hc); (try exact xfC)) | ((fail_if_success (with_reducible first | refine xgon ?_ | intro _)); (conv => whnf); (fail_if_success (fail_if_success (with_reducible first | refine xstp ?_ | refine xgon ?_ | intro _)))))
    · generalize hr' : fillW st j (max x.f m.ex) ⟨R.l, R.ls, m.ex, m.W, m.ck⟩ = r' at *
      obtain ⟨l', ls', ex', W', ck'⟩ := r'
      obtain ⟨f1, f2, f3, f4, f5⟩ := hfj
      simp only at f1 f2 f3 f4 f5
      subst f1 f2 f3
      simp only at hm1 he1 hs1
      refine cH29G1 (σ := [.whole 2, .whole 8]) (nl := []) (rrslot (upd R (R.M.getD k default).2 m ⟨R.l, R.ls, m.ex, W', ck'⟩) cM cf1 k ⟨m.nd, m.ex, m.rel, W', ck'⟩ (max x.f m.ex + j) hk hm1 (by simp only; omega)) ?_ (hle := by (repeat' first | refine And.intro ?_ ?_ | exact xeC | fail) <;> exact xmR)
      rintro v h' ⟨rfl, rfl⟩ hcaps
      refine rH29G0 ?_
      rw [mt_fun (G := 8) (fun x => rfl)]
      repeat' (first | (fail_if_success (with_reducible refine xstp ?_)); first | ((with_reducible refine And.intro (fun (hb : _ = true) => ?_) (fun (hb : _ = false) => ?_)) <;> replace hb := xnC hb <;> (try first | exact xfC | exact bff hb (by assumption) | exact bff (by assumption) hb)) | ((with_reducible refine And.intro ?_ ?_); focus exact xoC) | ((fail_if_success (with_reducible first | refine xgon ?_ | intro _)); (conv => whnf); (fail_if_success (fail_if_success (with_reducible first | refine xstp ?_ | refine xgon ?_ | intro _)))))
      · have hop : openB ⟨R.l, R.ls, m.ex, W', ck'⟩ (max x.f m.ex + j) := (open_iff (r := ⟨R.l, R.ls, m.ex, W', ck'⟩) (show m.ex ≤ max x.f m.ex + j by omega)).2 ⟨by assumption, by assumption⟩
        have e1 : stepW st (max x.f m.ex + j) ⟨R.l, R.ls, m.ex, W', ck'⟩ = ⟨R.l, R.ls, m.ex, W' ++ [(ck', max x.f m.ex + j, ⟨st, zS⟩)], ck' + 1⟩ := if_pos hop
        rw [e1] at eS
        rw [he1]
        repeat' (first | (fail_if_success (with_reducible refine xstp ?_)); first | ((with_reducible refine And.intro ?_ ?_); focus exact xoC) | ((fail_if_success (with_reducible first | refine xgon ?_ | intro _)); (conv => whnf); (fail_if_success (fail_if_success (with_reducible first | refine xstp ?_ | refine xgon ?_ | intro _)))))
        refine ManyK.mk ⟨slR W' (cf1 (R.M.getD k default).2.toNat), hs1, ?_⟩
        repeat' (first | (fail_if_success (with_reducible refine xstp ?_)); first | ((with_reducible refine And.intro ?_ ?_); focus exact xoC) | ((with_reducible refine Or.inl ⟨?_, ?_, ?_⟩); (focus rfl); focus exact xaC) | (with_reducible intro hc; (try simp only [capsP, and_true] at hc); (try exact xfC)) | ((fail_if_success (with_reducible first | refine xgon ?_ | intro _)); (conv => whnf); (fail_if_success (fail_if_success (with_reducible first | refine xstp ?_ | refine xgon ?_ | intro _)))))
        rename Nat => c3
        rw [he1]
        repeat' (first | (fail_if_success (with_reducible refine xstp ?_)); first | ((with_reducible refine And.intro ?_ ?_); focus exact xoC) | ((fail_if_success (with_reducible first | refine xgon ?_ | intro _)); (conv => whnf); (fail_if_success (fail_if_success (with_reducible first | refine xstp ?_ | refine xgon ?_ | intro _)))))
        have hl1 : (W' ++ [(ck', max x.f m.ex + (j : Int), (⟨st, zS⟩ : Slt))]).length = W'.length + 1 := by rw [List.length_append]; rfl
        have hst2 : 2 + x.q = st := by rw [← hst]; split <;> omega
        rw [hst2]
        refine ⟨⟨⟨j + 1, by omega⟩, updC cf1 (R.M.getD k default).2 c3⟩, [0, 1, 2, 3, 4, 5, 6, 7, .adopt 8 (R.M.getD k default).2.toNat 10], by simp only; omega, ?_⟩
        simp only [eS]
        rw [upd_put (W := W') (ck := ck') (W2 := W' ++ [(ck', max x.f m.ex + (j : Int), (⟨st, zS⟩ : Slt))]) (ck2 := ck' + 1)]
        (repeat' first | refine And.intro ?_ ?_ | exact xeC | fail)
        all_goals first
          | exact xmR
          | omega
          | (intro i hi
             refine mt_upd (R := upd R (R.M.getD k default).2 m ⟨R.l, R.ls, m.ex, W', ck'⟩) hR1 hk (keyV (w := (R.M.getD k default).2.toNat)).1 ?_ i hi
             show _ = [_, _, _, _, C.sl (key _ _ 8 (R.M.getD k default).2.toNat).1 (key _ _ 8 (R.M.getD k default).2.toNat).2 6 0 _ _]
             rw [(keyV (w := (R.M.getD k default).2.toNat) (N := 0)).2, hl1])
          | exact fun x hx => slG_leX hx
          | skip
        refine slG_leN ?_
        refine ⟨rfl, rfl, rfl, rfl, Nat.le_of_eq hl1, rfl, fun i hi => app_rowG encSl W' (ck', max x.f m.ex + (j : Int), (⟨st, zS⟩ : Slt)) _ rfl i hi, ?_⟩
        (repeat' first | refine And.intro ?_ ?_ | exact xeC | fail)
        all_goals first | exact xmR | omega
      · have hop : ¬ openB ⟨R.l, R.ls, m.ex, W', ck'⟩ (max x.f m.ex + j) := fun h => absurd ((open_iff (r := ⟨R.l, R.ls, m.ex, W', ck'⟩) (show m.ex ≤ max x.f m.ex + j by omega)).1 h).2 (Int.not_lt.2 (by assumption))
        have e1 : stepW st (max x.f m.ex + j) ⟨R.l, R.ls, m.ex, W', ck'⟩ = ⟨R.l, R.ls, m.ex, W', ck'⟩ := if_neg hop
        rw [e1] at eS
        refine ⟨⟨⟨j + 1, by omega⟩, cf1⟩, [0, 1, 2, 3, 4, 5, 6, 7, 8], by simp only; omega, ?_⟩
        simp only [eS]
        (repeat' first | refine And.intro ?_ ?_ | exact xeC | fail)
        all_goals first | exact xmR | omega | skip
    all_goals (
      have ek : j = KK := by omega
      subst ek
      generalize hr' : fillW st j (max x.f m.ex) ⟨R.l, R.ls, m.ex, m.W, m.ck⟩ = r' at *
      obtain ⟨l', ls', ex', W', ck'⟩ := r'
      obtain ⟨f1, f2, f3, f4, f5⟩ := hfj
      simp only at f1 f2 f3 f4 f5
      subst f1 f2 f3
      simp only at hm1 he1 hs1
      refine cH29G1 (σ := [.whole 0, .whole 1, .whole 2, .whole 3, .whole 4, .whole 8]) (nl := []) (rrmove id q (upd R (R.M.getD k default).2 m ⟨R.l, R.ls, m.ex, W', ck'⟩) cM c cl cf1 k ⟨m.nd, m.ex, m.rel, W', ck'⟩ hR1 hk hm1 ⟨f4, hlo, hhi, by simp only [Rd.rs, upd]; omega, by simp only [Rd.rs, upd]; omega⟩ hq hl) ?_ (hle := by (repeat' first | refine And.intro ?_ ?_ | exact xeC | fail) <;> exact xmR)
      rintro v h' ⟨c4, cl4, cf4, rfl, rfl⟩ hcaps
      have hF2 : mvA q ((upd R (R.M.getD k default).2 m ⟨R.l, R.ls, m.ex, W', ck'⟩).M.getD k default).2 ((upd R (R.M.getD k default).2 m ⟨R.l, R.ls, m.ex, W', ck'⟩).rs ⟨m.nd, m.ex, m.rel, W', ck'⟩) = F := hF
      rw [hF2]
      rw [show upd (upd R (R.M.getD k default).2 m ⟨R.l, R.ls, m.ex, W', ck'⟩) ((upd R (R.M.getD k default).2 m ⟨R.l, R.ls, m.ex, W', ck'⟩).M.getD k default).2 ⟨m.nd, m.ex, m.rel, W', ck'⟩ F = upd R (R.M.getD k default).2 m F from upd_upd rfl rfl]
      refine rH29G0 ?_
      rw [mt_fun (G := 11) (fun x => rfl)]
      repeat' (first | (fail_if_success (with_reducible refine xstp ?_)); first | ((fail_if_success (with_reducible first | refine xgon ?_ | intro _)); (conv => whnf); (fail_if_success (fail_if_success (with_reducible first | refine xstp ?_ | refine xgon ?_ | intro _)))))
      refine FinK.mk ⟨[0, 1, 2, 3, 4, 5, 6, 9, 10, 11], _, _, ⟨c4, cl4, cf4, rfl, rfl⟩, ?_⟩
      (repeat' first | refine And.intro ?_ ?_ | exact xeC | fail)
      all_goals first
        | exact xmR
        | (intro i hi; dsimp only; rw [mt_key (G := 11) (fun x => rfl)])
        | skip
      all_goals skip))
end Go.Proofs.Ytgcofipbdidhmaa


namespace Go.Proofs.Ytgcofipbdidhmaa
open Go.X
set_option linter.unusedSimpArgs false
set_option linter.unusedVariables false
theorem fnd_m {R : Rd} (hR : RdN R) (w : Int) : (fndM R w = none ∧ R.get w = none) ∨ ∃ k m, fndM R w = some k ∧ k < R.M.length ∧ (R.M.getD k default).2 = w ∧ R.D (R.M.getD k default).2.toNat = some m ∧ R.get w = some m ∧ 1 ≤ w := by
  cases h : fndM R w with
  | none =>
    refine .inl ⟨rfl, get_no hR.toRdOk fun i hi e => ?_⟩
    unfold fndM at h
    rw [List.findIdx?_eq_none_iff] at h
    have := h (R.M.getD i default) (by rw [getD_at hi]; exact List.getElem_mem _)
    rw [e] at this
    simp at this
  | some i =>
    unfold fndM at h
    rw [List.findIdx?_eq_some_iff_getElem] at h
    obtain ⟨hi, h1, _⟩ := h
    have h1 : (R.M.getD i default).2 = w := by rw [getD_at hi]; exact of_decide_eq_true h1
    obtain ⟨m, e1, e2, e3⟩ := get_yes hR.toRdOk hi h1
    exact .inr ⟨i, m, rfl, hi, h1, by rw [h1]; exact e2, e1, e3⟩
theorem check4 {x : Pkt} (h : ¬ checkP x = 0) (hk : x.k = 1 ∨ x.k = 2 ∨ x.k = 4) : checkP x = 4 := by
  unfold checkP at h ⊢
  rcases hk with h1 | h1 | h1
  · rw [if_pos h1] at h ⊢
    split at h
    · exact absurd rfl h
    · rw [if_neg (by assumption)]
  · rw [if_neg (by omega), if_neg (by omega), if_pos h1] at h ⊢
    split at h
    · exact absurd rfl h
    · rw [if_neg (by assumption)]
  · rw [if_neg (by omega), if_pos h1] at h ⊢
    split at h
    · exact absurd rfl h
    · rw [if_neg (by assumption)]
abbrev rrH (id : Int) (q : Qos) (R : Rd) (cM c cl : Nat) (cf : Nat → Nat) (a : Option (Pkt × List Int)) (cm cp : Nat) : List Fam :=
  [.one (rrd 1 2 7 id q R.M.length cM R.ls.length cl), .one (hist 8 q R.l.length c), .one (mtR 9 R cM cf), .one .no, .one .no, .one .no, .one .no, .one (lsr true R.ls cl), .one (smps true R.l c), .many (slG R cf),
    .one (ints true (ackL a) cm), .one (pkts true 10 (ackN a) cp (ackL a).length cm (ackK a))]
theorem rH29H0 {σ : List Sg} {H h' : List Fam} {v : T} {K : T → List Fam → Prop} {H' : List Fam} {v' : T} {N : Nat} (hk : K v' H') (hN : H.length = N := by (try simp only [↓List.length_cons, ↓List.length_nil, Nat.reduceAdd]) <;> rfl) (h : givesF σ N H σ h' = some H' := by (try simp (maxSteps := 1000000) only [givesF, setF, updF, Fam.zeroth, Fam.rk, Ck.rk, C.rk, E.rk, T.rk, key, List.map_cons, List.map_nil, List.cons_append, List.nil_append, List.length_cons, List.length_nil, Option.map_some, Option.bind_some, Nat.reduceAdd, Nat.zero_add, Nat.add_zero, Nat.add_sub_cancel_left, Int.toNat_natCast, reps, List.all_cons, List.all_nil, C.flat, List.append_eq, Bool.not_true, Bool.and_true, Bool.or_false, Bool.or_self, Bool.not_false, List.append_nil, Bool.and_self, ↓slG_rk, encP]) <;> rfl) (hv : v.rk σ N = v' := by (try simp only [givesF, setF, updF, Fam.zeroth, Fam.rk, Ck.rk, C.rk, E.rk, T.rk, key, List.map_cons, List.map_nil, List.cons_append, List.nil_append, List.length_cons, List.length_nil, Option.map_some, Option.bind_some, Nat.reduceAdd, Nat.zero_add, Nat.add_zero, Nat.add_sub_cancel_left, Int.toNat_natCast, reps, List.all_cons, List.all_nil, C.flat, List.append_eq, Bool.not_true, Bool.and_true, Bool.or_false, Bool.or_self, Bool.not_false, List.append_nil, Bool.and_self, ↓slG_rk, encP]) <;> rfl) : RetG σ H h' v K := ret_mk3 hN h hv hk
theorem cH29H1 {P : Program} {F : Nat} {args : List T} {H : List Fam} {K : T → List Fam → Prop} {σ : List Sg} {nl : List Fam} {args0 : List T} {h0 : List Fam} {Q : T → List Fam → Prop} {H2 H1 : List Fam} {N n : Nat} (hc : Ctr P F args0 h0 Q) (hk : ∀ v h', Q v h' → capsP h' → RetG σ H2 h' v K) (hap : apart σ = true := by rfl) (hnl : nl.all nilB = true := by rfl) (h1 : H ++ nl = H1 := by first | exact List.append_nil _ | ((try simp only [List.cons_append, List.nil_append]) <;> rfl)) (hN : H1.length = N := by (try simp only [↓List.length_cons, ↓List.length_nil, Nat.reduceAdd]) <;> rfl) (hn : H.length = n := by (try simp only [↓List.length_cons, ↓List.length_nil, Nat.reduceAdd]) <;> rfl) (hH : givesF σ N H1 σ h0 = some H2 := by (try simp (maxSteps := 1000000) only [givesF, setF, updF, Fam.zeroth, Fam.rk, Ck.rk, C.rk, E.rk, T.rk, key, List.map_cons, List.map_nil, List.cons_append, List.nil_append, List.length_cons, List.length_nil, Option.map_some, Option.bind_some, Nat.reduceAdd, Nat.zero_add, Nat.add_zero, Nat.add_sub_cancel_left, Int.toNat_natCast, reps, List.all_cons, List.all_nil, C.flat, List.append_eq, Bool.not_true, Bool.and_true, Bool.or_false, Bool.or_self, Bool.not_false, List.append_nil, Bool.and_self, ↓slG_rk]) <;> rfl) (hle : leS n H1 σ N σ h0 (belsK N (h0.map (Fam.rk σ N)) (argsK n args (args0.map (T.rk σ N)) True)) := by repeat' first | refine And.intro ?_ ?_ | exact xeC | fail) : CallK P F args H K := CallK.mk3 hc hap hnl h1 hN hn hH hle hk
set_option maxRecDepth 10000 in
set_option maxHeartbeats 8000000 in
theorem rrrecv (id : Int) (q : Qos) (R : Rd) (cM c cl : Nat) (cf : Nat → Nat) (x : Pkt) (n cm : Nat) (at' : Int) (hR : RdN R) (hI : AllInv R 800000 700000) (hq : q.keep = true ∨ 1 ≤ q.depth) (hl : R.M.length ≤ 1000000) (xm : Nat := 0) :
    Ctr Try.prog 49 [.c (.p 0 0 0), .a (encP (.sl 6 xm 1 0 n cm) x), .c (.i .i64 at')] (rrC id q R cM c cl cf)
      fun v h => ∃ c' cl' cf' cm' cp', v = .t [.c (.sl 11 0 11 0 (ackN (recvA id q x at' R)) cp'), .c (.i .i64 (recvE x R))] ∧ h = rrH id q (recvR q x R) cM c' cl' cf' (recvA id q x at' R) cm' cp' := by
  refine Ctr.mk' tbv mixed Try.func49 rfl rfl rfl (fun _ _ => by kernel_rfl) (by kernel_rfl) (by rfl) (by rfl) (by (repeat' first | refine And.intro ?_ ?_ | exact xeC | fail) <;> exact xmR) ?_
  repeat' (first | (fail_if_success (with_reducible refine xstp ?_)); first | (with_reducible intro hc; (try simp only [capsP, and_true] at hc); (try exact xfC)) | ((fail_if_success (with_reducible first | refine xgon ?_ | intro _)); (conv => whnf); (fail_if_success (fail_if_success (with_reducible first | refine xstp ?_ | refine xgon ?_ | intro _)))))
  refine cH29H1 (σ := [.whole 0, .name 1, .whole 2, .name 3, .name 5]) (nl := []) (rrfind id q R cM R.ls.length cl cf x.w hR.toRdOk hl) ?_ (hle := by (repeat' first | refine And.intro ?_ ?_ | exact xeC | fail) <;> exact xmR)
  rcases fnd_m hR x.w with ⟨h1, hn⟩ | ⟨k, m, h1, hk, hw, hD, hm, hw1⟩
  · rw [h1, show idxM none = (-1 : Int) from rfl]
    rintro v h' ⟨rfl, rfl⟩ hcaps
    refine rH29H0 ?_
    rw [mt_fun (G := 5) (fun x => rfl)]
    repeat' (first | (fail_if_success (with_reducible refine xstp ?_)); first | ((with_reducible refine And.intro (fun (hb : _ = true) => ?_) (fun (hb : _ = false) => ?_)) <;> replace hb := xnC hb <;> (try first | exact xfC | exact bff hb (by assumption) | exact bff (by assumption) hb)) | ((fail_if_success (with_reducible first | refine xgon ?_ | intro _)); (conv => whnf); (fail_if_success (fail_if_success (with_reducible first | refine xstp ?_ | refine xgon ?_ | intro _)))))
    have e2 : recvE x R = 6 := by unfold recvE; rw [hn]
    have e3 : recvR q x R = R := by unfold recvR; rw [hn]
    have e4 : recvA id q x at' R = none := by unfold recvA; rw [hn]
    rw [e2, e3, e4]
    refine FinK.mk ⟨[0, 1, 2, 3, 4, 5, 6, 3, 4, 5, 98, 99], _, _, ⟨c, cl, cf, 0, 0, rfl, rfl⟩, ?_⟩
    (repeat' first | refine And.intro ?_ ?_ | exact xeC | fail)
    all_goals exact xmR
  rw [h1, show idxM (some k) = (k : Nat) from rfl]
  rintro v h' ⟨rfl, rfl⟩ hcaps
  refine rH29H0 ?_
  rw [mt_fun (G := 5) (fun x => rfl)]
  have hIm := hI _ _ hD
  have he : encMt 5 R cf k = _ := mt_at hD
  unfold mtc5 at he
  have hself : ∀ y, R.D y = (upd R (R.M.getD k default).2 m (R.rs m)).D y := upd_self hD
  have e3 : 0 + ((k : Nat) : Int).toNat = k := by omega
  repeat' (first | (fail_if_success (with_reducible refine xstp ?_)); first | ((with_reducible refine And.intro (fun (hb : _ = true) => ?_) (fun (hb : _ = false) => ?_)) <;> replace hb := xnC hb <;> (try first | exact xfC | exact bff hb (by assumption) | exact bff (by assumption) hb)) | ((fail_if_success (with_reducible first | refine xgon ?_ | intro _)); (conv => whnf); (fail_if_success (fail_if_success (with_reducible first | refine xstp ?_ | refine xgon ?_ | intro _)))))
  · have e2 : recvE x R = 10 := by
      unfold recvE checkP
      rw [hm]
      show (if x.k = 1 then _ else _) = (10 : Int)
      rw [if_neg (by assumption), if_neg (by assumption), if_neg (by assumption)]
    have hc0 : ¬ checkP x = 0 := by
      have : recvE x R = checkP x := by unfold recvE; rw [hm]
      omega
    have e3 : recvR q x R = R := by unfold recvR; rw [hm]; exact if_neg hc0
    have e4 : recvA id q x at' R = none := by unfold recvA; rw [hm]; exact if_neg (fun h => hc0 h.1)
    rw [e2, e3, e4]
    refine FinK.mk ⟨[0, 1, 2, 3, 4, 5, 6, 3, 4, 5, 98, 99], _, _, ⟨c, cl, cf, 0, 0, rfl, rfl⟩, ?_⟩
    (repeat' first | refine And.intro ?_ ?_ | exact xeC | fail)
    all_goals exact xmR
  all_goals (
    refine cH29H1 (σ := [.name 6]) (nl := []) (rrwrong x n cm (by omega) xm) ?_
    rintro v h' ⟨rfl, rfl⟩ hcaps
    refine rH29H0 ?_
    repeat' (first | (fail_if_success (with_reducible refine xstp ?_)); first | ((with_reducible refine And.intro (fun (hb : _ = true) => ?_) (fun (hb : _ = false) => ?_)) <;> replace hb := xnC hb <;> (try first | exact xfC | exact bff hb (by assumption) | exact bff (by assumption) hb)) | ((with_reducible refine And.intro ?_ ?_); focus exact xoC) | ((fail_if_success (with_reducible first | refine xgon ?_ | intro _)); (conv => whnf); (fail_if_success (fail_if_success (with_reducible first | refine xstp ?_ | refine xgon ?_ | intro _)))))
    skip)
  all_goals try (
    have hc0 : ¬ checkP x = 0 := by assumption
    have e2 : recvE x R = 4 := by
      have : recvE x R = checkP x := by unfold recvE; rw [hm]
      rw [this]
      exact check4 hc0 (by omega)
    have e3 : recvR q x R = R := by unfold recvR; rw [hm]; exact if_neg hc0
    have e4 : recvA id q x at' R = none := by unfold recvA; rw [hm]; exact if_neg (fun h => hc0 h.1)
    rw [e2, e3, e4]
    refine FinK.mk ⟨[0, 1, 2, 3, 4, 5, 6, 3, 4, 5, 98, 99], _, _, ⟨c, cl, cf, 0, 0, rfl, rfl⟩, ?_⟩
    (repeat' first | refine And.intro ?_ ?_ | exact xeC | fail)
    all_goals exact xmR
    done)
  all_goals have hck : checkP x = 0 := Classical.not_not.1 (by assumption)
  all_goals have e2 : recvE x R = 0 := by unfold recvE; rw [hm]; exact hck
  all_goals rw [e2]
  · have hk4 : x.k = 4 := by assumption
    have e3' : recvR q x R = upd R (R.M.getD k default).2 m (gapF q (R.M.getD k default).2 m.rel x (R.rs m)) := by
      rw [hw]; unfold recvR; rw [hm]; simp only [if_pos hck, stepF, if_neg (show ¬ x.k = 1 by omega), if_pos hk4]
    have e4 : recvA id q x at' R = none := by unfold recvA; rw [hm]; exact if_neg (fun h => by omega)
    rw [e3', e4]
    refine cH29H1 (σ := [.whole 0, .whole 1, .whole 2, .whole 3, .whole 4, .whole 5, .name 6]) (nl := []) (rrgap id q R cM c cl cf k m x n cm hR hk hD hIm hq hl hck hk4 xm) ?_ (hle := by (repeat' first | refine And.intro ?_ ?_ | exact xeC | fail) <;> exact xmR)
    rintro v h' ⟨c4, cl4, cf4, rfl, rfl⟩ hcaps
    generalize gapF q (R.M.getD k default).2 m.rel x (R.rs m) = r'
    refine rH29H0 ?_
    rw [mt_fun (G := 10) (fun x => rfl)]
    repeat' (first | (fail_if_success (with_reducible refine xstp ?_)); first | ((fail_if_success (with_reducible first | refine xgon ?_ | intro _)); (conv => whnf); (fail_if_success (fail_if_success (with_reducible first | refine xstp ?_ | refine xgon ?_ | intro _)))))
    refine FinK.mk ⟨[0, 1, 2, 3, 4, 5, 6, 8, 9, 10, 98, 99], _, _, ⟨c4, cl4, cf4, 0, 0, rfl, rfl⟩, ?_⟩
    (repeat' first | refine And.intro ?_ ?_ | exact xeC | fail)
    all_goals exact xmR
  rotate_left 1
  · have hk1 : x.k = 1 := by assumption
    have e3' : recvR q x R = upd R (R.M.getD k default).2 m (dataF q (R.M.getD k default).2 m.rel x (R.rs m)) := by
      rw [hw]; unfold recvR; rw [hm]; simp only [if_pos hck, stepF, if_pos hk1]
    have e4 : recvA id q x at' R = none := by unfold recvA; rw [hm]; exact if_neg (fun h => by omega)
    rw [e3', e4]
    refine cH29H1 (σ := [.whole 0, .whole 1, .whole 2, .whole 3, .whole 4, .whole 5, .name 6]) (nl := []) (rrdata id q R cM c cl cf k m x n cm hR hk hw hD hIm hq hl (okN_of hck hk1) xm) ?_ (hle := by (repeat' first | refine And.intro ?_ ?_ | exact xeC | fail) <;> exact xmR)
    rintro v h' ⟨c4, cl4, cf4, rfl, rfl⟩ hcaps
    generalize dataF q (R.M.getD k default).2 m.rel x (R.rs m) = r'
    refine rH29H0 ?_
    rw [mt_fun (G := 10) (fun x => rfl)]
    repeat' (first | (fail_if_success (with_reducible refine xstp ?_)); first | ((fail_if_success (with_reducible first | refine xgon ?_ | intro _)); (conv => whnf); (fail_if_success (fail_if_success (with_reducible first | refine xstp ?_ | refine xgon ?_ | intro _)))))
    refine FinK.mk ⟨[0, 1, 2, 3, 4, 5, 6, 8, 9, 10, 98, 99], _, _, ⟨c4, cl4, cf4, 0, 0, rfl, rfl⟩, ?_⟩
    (repeat' first | refine And.intro ?_ ?_ | exact xeC | fail)
    all_goals exact xmR
  have hk2 : x.k = 2 := by assumption
  have hx : (1 ≤ x.f ∧ x.f ≤ 1099511627776) ∧ x.f - 1 ≤ x.la ∧ x.la ≤ 1099511627776 := by
    unfold checkP okN at hck
    rw [if_neg (by omega), if_neg (by omega), if_pos hk2] at hck
    split at hck
    · assumption
    · omega
  have e3' : recvR q x R = upd R (R.M.getD k default).2 m (hbF q (R.M.getD k default).2 m.rel x (R.rs m)) := by
    rw [hw]; unfold recvR; rw [hm]; simp only [if_pos hck, stepF, if_neg (show ¬ x.k = 1 by omega), if_neg (show ¬ x.k = 4 by omega)]
  rw [e3', e3, he]
  repeat' (first | (fail_if_success (with_reducible refine xstp ?_)); first | ((with_reducible refine And.intro (fun (hb : _ = true) => ?_) (fun (hb : _ = false) => ?_)) <;> replace hb := xnC hb <;> (try first | exact xfC | exact bff hb (by assumption) | exact bff (by assumption) hb)) | ((with_reducible refine And.intro ?_ ?_); focus exact xoC) | ((fail_if_success (with_reducible first | refine xgon ?_ | intro _)); (conv => whnf); (fail_if_success (fail_if_success (with_reducible first | refine xstp ?_ | refine xgon ?_ | intro _)))))
  · have hrel : m.rel = false := by assumption
    have e4 : recvA id q x at' R = none := by unfold recvA; rw [hm]; exact if_neg (fun h => by rw [hrel] at h; simp at h)
    have e5 : hbF q (R.M.getD k default).2 m.rel x (R.rs m) = R.rs m := if_pos hrel
    rw [e4, e5]
    refine FinK.mk ⟨[0, 1, 2, 3, 4, 5, 6, 3, 4, 5, 98, 99], _, _, ⟨c, cl, cf, 0, 0, rfl, rfl⟩, ?_⟩
    (repeat' first | refine And.intro ?_ ?_ | exact xeC | fail)
    all_goals first
      | exact xmR
      | (intro i hi; dsimp only; rw [mt_key (G := 5) (fun x => rfl), ← encMt_cong (R := R) (R' := upd R (R.M.getD k default).2 m (R.rs m)) rfl hself])
      | exact fun x => by rw [← slG_cong (R := R) (R' := upd R (R.M.getD k default).2 m (R.rs m)) hself]; exact slG_le
      | skip
    all_goals trace_state
  rw [he]
  repeat' (first | (fail_if_success (with_reducible refine xstp ?_)); first | ((with_reducible refine And.intro (fun (hb : _ = true) => ?_) (fun (hb : _ = false) => ?_)) <;> replace hb := xnC hb <;> (try first | exact xfC | exact bff hb (by assumption) | exact bff (by assumption) hb)) | ((with_reducible refine And.intro ?_ ?_); focus exact xoC) | ((fail_if_success (with_reducible first | refine xgon ?_ | intro _)); (conv => whnf); (fail_if_success (fail_if_success (with_reducible first | refine xstp ?_ | refine xgon ?_ | intro _)))))
  · have hrel : ¬ m.rel = false := by simp [*]
    have e5 : hbF q (R.M.getD k default).2 m.rel x (R.rs m) = mvA q (R.M.getD k default).2 (jumpF x.f (R.rs m)) := by unfold hbF; rw [if_neg hrel, if_pos (by assumption)]
    have hif : ∀ (A : List C) (B : Nat → List C), (fun i => if i = k then A else B i) k = A := fun A B => if_pos rfl
    rw [he]
    repeat' (first | (fail_if_success (with_reducible refine xstp ?_)); first | ((with_reducible refine And.intro ?_ ?_); focus exact xoC) | ((fail_if_success (with_reducible first | refine xgon ?_ | intro _)); (conv => whnf); (fail_if_success (fail_if_success (with_reducible first | refine xstp ?_ | refine xgon ?_ | intro _)))))
    rw [hif]
    repeat' (first | (fail_if_success (with_reducible refine xstp ?_)); first | ((fail_if_success (with_reducible first | refine xgon ?_ | intro _)); (conv => whnf); (fail_if_success (fail_if_success (with_reducible first | refine xstp ?_ | refine xgon ?_ | intro _)))))
    have hm2 : (updW R (R.M.getD k default).2 ⟨m.nd, x.f, m.rel, m.W, m.ck⟩).D (R.M.getD k default).2.toNat = some ⟨m.nd, x.f, m.rel, m.W, m.ck⟩ := if_pos rfl
    have hR2 := rnUpdW2 (m2 := ⟨m.nd, x.f, m.rel, m.W, m.ck⟩) hR hk
    have hsm := slG_same (cf := cf) (m2 := ⟨m.nd, x.f, m.rel, m.W, m.ck⟩) hD rfl
    have hrow := fun i hi => mt_upd (F := 1) (G := 5) (N := 8) (σ := [.whole 2, .whole 5]) (cf := cf) (m := ⟨m.nd, x.f, m.rel, m.W, m.ck⟩) (c := cf (R.M.getD k default).2.toNat) (L := [.i .i64 (R.M.getD k default).2, .i .i64 m.nd, .b m.rel, .i .i64 x.f, .sl 5 (R.M.getD k default).2.toNat 6 0 m.W.length (cf (R.M.getD k default).2.toNat)]) hR hk (fun x _ => rfl) rfl i hi
    have hWl : m.W.length ≤ 1000000 := by have : R.l.length + m.W.length ≤ 800000 := hIm.l; omega
    refine cH29H1 (σ := [.whole 2, .whole 5]) (nl := []) (rrcut (updW R (R.M.getD k default).2 ⟨m.nd, x.f, m.rel, m.W, m.ck⟩) cM (updC cf (R.M.getD k default).2 (cf (R.M.getD k default).2.toNat)) k ⟨m.nd, x.f, m.rel, m.W, m.ck⟩ x.f hR2 hk hm2 hWl) ?_ (hle := by (repeat' first | refine And.intro ?_ ?_ | exact xeC | fail) <;> (first | exact xmR | exact hrow | (intro x; rw [hsm]; exact slG_le) | skip))
    rintro v h' ⟨c2, rfl, rfl⟩ hcaps
    have hup : updW (updW R (R.M.getD k default).2 ⟨m.nd, x.f, m.rel, m.W, m.ck⟩) ((updW R (R.M.getD k default).2 ⟨m.nd, x.f, m.rel, m.W, m.ck⟩).M.getD k default).2 (cutM x.f ⟨m.nd, x.f, m.rel, m.W, m.ck⟩) = updW R (R.M.getD k default).2 ⟨m.nd, x.f, m.rel, wge x.f m.W, m.ck⟩ := updW_updW
    rw [hup]
    generalize updC (updC cf (R.M.getD k default).2 (cf (R.M.getD k default).2.toNat)) ((updW R (R.M.getD k default).2 ⟨m.nd, x.f, m.rel, m.W, m.ck⟩).M.getD k default).2 c2 = cf3
    refine rH29H0 ?_
    rw [mt_fun (G := 8) (fun x => rfl)]
    repeat' (first | (fail_if_success (with_reducible refine xstp ?_)); first | ((fail_if_success (with_reducible first | refine xgon ?_ | intro _)); (conv => whnf); (fail_if_success (fail_if_success (with_reducible first | refine xstp ?_ | refine xgon ?_ | intro _)))))
    have hR3 := rnUpdW2 (m2 := ⟨m.nd, x.f, m.rel, wge x.f m.W, m.ck⟩) hR hk
    have hm3 : (updW R (R.M.getD k default).2 ⟨m.nd, x.f, m.rel, wge x.f m.W, m.ck⟩).D (R.M.getD k default).2.toNat = some ⟨m.nd, x.f, m.rel, wge x.f m.W, m.ck⟩ := if_pos rfl
    have hJ := jump_inv hIm (n := x.f) (show m.ex ≤ x.f by omega) (by omega)
    have hJl : R.l.length + (wge x.f m.W).length ≤ 800000 := hJ.l
    have hJs : R.ls.length + 2 * (wge x.f m.W).length ≤ 700000 := hJ.ls
    refine cH29H1 (σ := [.whole 0, .whole 1, .whole 2, .whole 3, .whole 4, .whole 8]) (nl := []) (rrmove id q (updW R (R.M.getD k default).2 ⟨m.nd, x.f, m.rel, wge x.f m.W, m.ck⟩) cM c cl cf3 k ⟨m.nd, x.f, m.rel, wge x.f m.W, m.ck⟩ hR3 hk hm3 ⟨hJ.ok, hJ.lo, hJ.hi, Nat.le_trans hJl (by omega), Nat.le_trans hJs (by omega)⟩ hq hl) ?_ (hle := by (repeat' first | refine And.intro ?_ ?_ | exact xeC | fail) <;> exact xmR)
    rintro v h' ⟨c4, cl4, cf4, rfl, rfl⟩ hcaps
    have hFI : Inv (mvA q (R.M.getD k default).2 (jumpF x.f (R.rs m))) 800000 700000 := mvA_inv hJ
    rw [e5]
    generalize hF : mvA q (R.M.getD k default).2 (jumpF x.f (R.rs m)) = F at *
    have hF2 : mvA q ((updW R (R.M.getD k default).2 ⟨m.nd, x.f, m.rel, wge x.f m.W, m.ck⟩).M.getD k default).2 ((updW R (R.M.getD k default).2 ⟨m.nd, x.f, m.rel, wge x.f m.W, m.ck⟩).rs ⟨m.nd, x.f, m.rel, wge x.f m.W, m.ck⟩) = F := hF
    rw [hF2]
    rw [show upd (updW R (R.M.getD k default).2 ⟨m.nd, x.f, m.rel, wge x.f m.W, m.ck⟩) ((updW R (R.M.getD k default).2 ⟨m.nd, x.f, m.rel, wge x.f m.W, m.ck⟩).M.getD k default).2 ⟨m.nd, x.f, m.rel, wge x.f m.W, m.ck⟩ F = upd R (R.M.getD k default).2 m F from upd_updW rfl rfl]
    have e4 : recvA id q x at' R = some (ackP id x.w m.nd at' x F, missF F x.la) := by unfold recvA; rw [hm]; show (if _ then some (ackP id x.w m.nd at' x (hbF q x.w m.rel x (R.rs m)), missF (hbF q x.w m.rel x (R.rs m)) x.la) else none) = _; rw [← hw, e5]; exact if_pos ⟨hck, hk2, by simpa using hrel⟩
    rw [e4]
    have heF : encMt 11 (upd R (R.M.getD k default).2 m F) cf4 k = _ := mt_at (m := ⟨m.nd, F.ex, m.rel, F.W, F.ck⟩) (if_pos rfl)
    unfold mtc5 at heF
    refine rH29H0 ?_
    rw [mt_fun (G := 11) (fun x => rfl)]
    repeat' (first | (fail_if_success (with_reducible refine xstp ?_)); first | ((with_reducible refine And.intro ?_ ?_); focus exact xoC) | ((fail_if_success (with_reducible first | refine xgon ?_ | intro _)); (conv => whnf); (fail_if_success (fail_if_success (with_reducible first | refine xstp ?_ | refine xgon ?_ | intro _)))))
    rw [heF]
    repeat' (first | (fail_if_success (with_reducible refine xstp ?_)); first | ((fail_if_success (with_reducible first | refine xgon ?_ | intro _)); (conv => whnf); (fail_if_success (fail_if_success (with_reducible first | refine xstp ?_ | refine xgon ?_ | intro _)))))
    have hrI : Inv (F) 800000 700000 := by assumption
    have hW1 := hrI.l
    have hlo1 := hrI.lo
    have hhi1 := hrI.hi
    have hD2 : (upd R (R.M.getD k default).2 m (F)).D (R.M.getD k default).2.toNat = some ⟨m.nd, (F).ex, m.rel, (F).W, (F).ck⟩ := if_pos rfl
    refine LoopK.mk' ({j : Nat // j ≤ (x.la - (F).ex + 1).toNat ∧ (missK (F).W (F).ex j).length ≤ 32} × Nat)
      (fun ⟨⟨j, _⟩, cc⟩ => ⟨[(0, .c (.p 0 0 0)), (2, .c (.i .i64 at')), (4, .c (.p 11 0 0)), (9, .c (.pe 2 0 5 k 0)), (10, .c (.sl 10 0 1 0 (missK (F).W (F).ex j).length cc)), (11, .c (.i .i64 ((F).ex + j)))],
        [.one (rrd 1 2 7 id q R.M.length cM (F).ls.length cl4), .one (hist 8 q (F).l.length c4), .one (mtR 9 (upd R (R.M.getD k default).2 m (F)) cM cf4), .one .no, .one .no, .one .no, .one .no, .one (lsr true (F).ls cl4), .one (smps true (F).l c4), .many (slG (upd R (R.M.getD k default).2 m (F)) cf4), .one (ints true (missK (F).W (F).ex j) cc), .one (.cells true (encP (.sl 6 xm 1 0 n cm) x))]⟩)
      (fun j => (x.la - (F).ex + 1).toNat - j.1.1)
      ⟨⟨⟨0, Nat.zero_le _, by simp [missK]⟩, 0⟩, [0, 1, 2, 3, 4, 5, 6, 9, 10, 11, 99, 7], ?_⟩ ?_
    · (repeat' first | refine And.intro ?_ ?_ | exact xeC | fail)
      all_goals first
        | exact xmR
        | rfl
        | (simp [missK]; done)
        | (simp; done)
        | exact (Int.add_zero _).symm
        | (intro i hi; dsimp only; rw [mt_key (G := 5) (fun x => rfl), ← encMt_cong (R := R) (R' := upd R (R.M.getD k default).2 m (R.rs m)) rfl hself])
        | exact fun x => by rw [← slG_cong (R := R) (R' := upd R (R.M.getD k default).2 m (R.rs m)) hself]; exact slG_le
        | skip
      all_goals skip
    rintro ⟨⟨j, hj, hm32⟩, cc⟩
    have he2 : encMt 9 (upd R (R.M.getD k default).2 m (F)) cf4 k = _ := mt_at (m := ⟨m.nd, (F).ex, m.rel, (F).W, (F).ck⟩) hD2
    unfold mtc5 at he2
    repeat' (first | (fail_if_success (with_reducible refine xstp ?_)); first | ((with_reducible refine And.intro (fun (hb : _ = true) => ?_) (fun (hb : _ = false) => ?_)) <;> replace hb := xnC hb <;> (try first | exact xfC | exact bff hb (by assumption) | exact bff (by assumption) hb)) | ((with_reducible refine And.intro ?_ ?_); focus exact xoC) | (with_reducible intro hc; (try simp only [capsP, and_true] at hc); (try exact xfC)) | ((fail_if_success (with_reducible first | refine xgon ?_ | intro _)); (conv => whnf); (fail_if_success (fail_if_success (with_reducible first | refine xstp ?_ | refine xgon ?_ | intro _)))))
    · refine cH29H1 (σ := [.whole 2, .whole 9]) (nl := []) (rrslot (upd R (R.M.getD k default).2 m (F)) cM cf4 k ⟨m.nd, (F).ex, m.rel, (F).W, (F).ck⟩ ((F).ex + j) hk hD2 (by simp only; omega)) ?_ (hle := by (repeat' first | refine And.intro ?_ ?_ | exact xeC | fail) <;> exact xmR)
      rintro v h' ⟨rfl, rfl⟩ hcaps
      refine rH29H0 ?_
      rw [mt_fun (G := 9) (fun x => rfl)]
      repeat' (first | (fail_if_success (with_reducible refine xstp ?_)); first | ((with_reducible refine And.intro (fun (hb : _ = true) => ?_) (fun (hb : _ = false) => ?_)) <;> replace hb := xnC hb <;> (try first | exact xfC | exact bff hb (by assumption) | exact bff (by assumption) hb)) | ((with_reducible refine And.intro ?_ ?_); focus exact xoC) | ((with_reducible refine Or.inl ⟨?_, ?_, ?_⟩); (focus rfl); focus exact xaC) | (with_reducible intro hc; (try simp only [capsP, and_true] at hc); (try exact xfC)) | ((fail_if_success (with_reducible first | refine xgon ?_ | intro _)); (conv => whnf); (fail_if_success (fail_if_success (with_reducible first | refine xstp ?_ | refine xgon ?_ | intro _)))))
      · rename Nat => c3
        have e1 : missK (F).W (F).ex (j + 1) = missK (F).W (F).ex j ++ [(F).ex + (j : Int)] := by
          rw [miss_succ, if_pos (by unfold unk; exact decide_eq_true (fndW_neg.1 (by assumption)))]
        refine ⟨⟨⟨j + 1, by omega, by rw [e1, List.length_append, List.length_singleton]; omega⟩, c3⟩, [0, 1, 2, 3, 4, 5, 6, 7, 8, 9, 13, 11], by simp only; omega, ?_⟩
        simp only [e1]
        (repeat' first | refine And.intro ?_ ?_ | exact xeC | fail)
        all_goals first | exact xmR | omega | (simp; done) | (intro i hi; exact app_rowG encI _ _ _ rfl i hi) | skip
        all_goals trace_state
      · have e1 : missK (F).W (F).ex (j + 1) = missK (F).W (F).ex j := by
          rw [miss_succ, if_neg (by unfold unk; exact fun h => absurd (fndW_neg.2 (of_decide_eq_true h)) (Int.not_lt.2 (by assumption))), List.append_nil]
        refine ⟨⟨⟨j + 1, by omega, by rw [e1]; omega⟩, cc⟩, [0, 1, 2, 3, 4, 5, 6, 7, 8, 9, 10, 11], by simp only; omega, ?_⟩
        simp only [e1]
        (repeat' first | refine And.intro ?_ ?_ | exact xeC | fail)
        all_goals first | exact xmR | omega | skip
        all_goals trace_state
    all_goals (
      have e2 : missF (F) x.la = missK (F).W (F).ex j := miss_end hj hm32 (by omega)
      rw [he2]
      repeat' (first | (fail_if_success (with_reducible refine xstp ?_)); first | ((with_reducible refine And.intro ?_ ?_); focus exact xoC) | ((fail_if_success (with_reducible first | refine xgon ?_ | intro _)); (conv => whnf); (fail_if_success (fail_if_success (with_reducible first | refine xstp ?_ | refine xgon ?_ | intro _)))))
      rw [he2]
      repeat' (first | (fail_if_success (with_reducible refine xstp ?_)); first | ((with_reducible refine And.intro ?_ ?_); focus exact xoC) | ((fail_if_success (with_reducible first | refine xgon ?_ | intro _)); (conv => whnf); (fail_if_success (fail_if_success (with_reducible first | refine xstp ?_ | refine xgon ?_ | intro _)))))
      rw [he2]
      repeat' (first | (fail_if_success (with_reducible refine xstp ?_)); first | ((fail_if_success (with_reducible first | refine xgon ?_ | intro _)); (conv => whnf); (fail_if_success (fail_if_success (with_reducible first | refine xstp ?_ | refine xgon ?_ | intro _)))))
      rw [e2]
      simp only [hw]
      refine FinK.mk ⟨[0, 1, 2, 3, 4, 5, 6, 7, 8, 9, 10, 12], _, _, ⟨c4, cl4, cf4, cc, 1, rfl, rfl⟩, ?_⟩
      (repeat' first | refine And.intro ?_ ?_ | exact xeC | fail)
      all_goals first
        | exact xmR
        | (intro i hi
           have hi1 : i < 1 := hi
           obtain rfl : i = 0 := by omega
           rw [show ((upd R x.w m (F)).M.getD k default).2 = x.w from hw]
           rfl)
      skip)
  have hrel : ¬ m.rel = false := by simp [*]
  have e5 : hbF q (R.M.getD k default).2 m.rel x (R.rs m) = R.rs m := by unfold hbF; rw [if_neg hrel, if_neg (by show ¬ m.ex < x.f; omega)]
  have e4 : recvA id q x at' R = some (ackP id x.w m.nd at' x (R.rs m), missF (R.rs m) x.la) := by unfold recvA; rw [hm]; show (if _ then some (ackP id x.w m.nd at' x (hbF q x.w m.rel x (R.rs m)), missF (hbF q x.w m.rel x (R.rs m)) x.la) else none) = _; rw [← hw, e5]; exact if_pos ⟨hck, hk2, by simpa using hrel⟩
  rw [e4, e5, he]
  repeat' (first | (fail_if_success (with_reducible refine xstp ?_)); first | ((fail_if_success (with_reducible first | refine xgon ?_ | intro _)); (conv => whnf); (fail_if_success (fail_if_success (with_reducible first | refine xstp ?_ | refine xgon ?_ | intro _)))))
  have hrI : Inv (R.rs m) 800000 700000 := by assumption
  have hW1 := hrI.l
  have hlo1 := hrI.lo
  have hhi1 := hrI.hi
  have hD2 : (upd R (R.M.getD k default).2 m (R.rs m)).D (R.M.getD k default).2.toNat = some ⟨m.nd, (R.rs m).ex, m.rel, (R.rs m).W, (R.rs m).ck⟩ := if_pos rfl
  refine LoopK.mk' ({j : Nat // j ≤ (x.la - (R.rs m).ex + 1).toNat ∧ (missK (R.rs m).W (R.rs m).ex j).length ≤ 32} × Nat)
    (fun ⟨⟨j, _⟩, cc⟩ => ⟨[(0, .c (.p 0 0 0)), (2, .c (.i .i64 at')), (4, .c (.p 11 0 0)), (9, .c (.pe 2 0 5 k 0)), (10, .c (.sl 10 0 1 0 (missK (R.rs m).W (R.rs m).ex j).length cc)), (11, .c (.i .i64 ((R.rs m).ex + j)))],
      [.one (rrd 1 2 7 id q R.M.length cM (R.rs m).ls.length cl), .one (hist 8 q (R.rs m).l.length c), .one (mtR 9 (upd R (R.M.getD k default).2 m (R.rs m)) cM cf), .one .no, .one .no, .one .no, .one .no, .one (lsr true (R.rs m).ls cl), .one (smps true (R.rs m).l c), .many (slG (upd R (R.M.getD k default).2 m (R.rs m)) cf), .one (ints true (missK (R.rs m).W (R.rs m).ex j) cc), .one (.cells true (encP (.sl 6 xm 1 0 n cm) x))]⟩)
    (fun j => (x.la - (R.rs m).ex + 1).toNat - j.1.1)
    ⟨⟨⟨0, Nat.zero_le _, by simp [missK]⟩, 0⟩, [0, 1, 2, 3, 4, 5, 6, 3, 4, 5, 99, 7], ?_⟩ ?_
  · (repeat' first | refine And.intro ?_ ?_ | exact xeC | fail)
    all_goals first
      | exact xmR
      | rfl
      | (simp [missK]; done)
      | (simp; done)
      | exact (Int.add_zero _).symm
      | (intro i hi; dsimp only; rw [mt_key (G := 5) (fun x => rfl), ← encMt_cong (R := R) (R' := upd R (R.M.getD k default).2 m (R.rs m)) rfl hself])
      | exact fun x => by rw [← slG_cong (R := R) (R' := upd R (R.M.getD k default).2 m (R.rs m)) hself]; exact slG_le
      | skip
    all_goals skip
  rintro ⟨⟨j, hj, hm32⟩, cc⟩
  have he2 : encMt 9 (upd R (R.M.getD k default).2 m (R.rs m)) cf k = _ := mt_at (m := ⟨m.nd, (R.rs m).ex, m.rel, (R.rs m).W, (R.rs m).ck⟩) hD2
  unfold mtc5 at he2
  repeat' (first | (fail_if_success (with_reducible refine xstp ?_)); first | ((with_reducible refine And.intro (fun (hb : _ = true) => ?_) (fun (hb : _ = false) => ?_)) <;> replace hb := xnC hb <;> (try first | exact xfC | exact bff hb (by assumption) | exact bff (by assumption) hb)) | ((with_reducible refine And.intro ?_ ?_); focus exact xoC) | (with_reducible intro hc; (try simp only [capsP, and_true] at hc); (try exact xfC)) | ((fail_if_success (with_reducible first | refine xgon ?_ | intro _)); (conv => whnf); (fail_if_success (fail_if_success (with_reducible first | refine xstp ?_ | refine xgon ?_ | intro _)))))
  · refine cH29H1 (σ := [.whole 2, .whole 9]) (nl := []) (rrslot (upd R (R.M.getD k default).2 m (R.rs m)) cM cf k ⟨m.nd, (R.rs m).ex, m.rel, (R.rs m).W, (R.rs m).ck⟩ ((R.rs m).ex + j) hk hD2 (by simp only; omega)) ?_ (hle := by (repeat' first | refine And.intro ?_ ?_ | exact xeC | fail) <;> exact xmR)
    rintro v h' ⟨rfl, rfl⟩ hcaps
    refine rH29H0 ?_
    rw [mt_fun (G := 9) (fun x => rfl)]
    repeat' (first | (fail_if_success (with_reducible refine xstp ?_)); first | ((with_reducible refine And.intro (fun (hb : _ = true) => ?_) (fun (hb : _ = false) => ?_)) <;> replace hb := xnC hb <;> (try first | exact xfC | exact bff hb (by assumption) | exact bff (by assumption) hb)) | ((with_reducible refine And.intro ?_ ?_); focus exact xoC) | ((with_reducible refine Or.inl ⟨?_, ?_, ?_⟩); (focus rfl); focus exact xaC) | (with_reducible intro hc; (try simp only [capsP, and_true] at hc); (try exact xfC)) | ((fail_if_success (with_reducible first | refine xgon ?_ | intro _)); (conv => whnf); (fail_if_success (fail_if_success (with_reducible first | refine xstp ?_ | refine xgon ?_ | intro _)))))
    · rename Nat => c3
      have e1 : missK (R.rs m).W (R.rs m).ex (j + 1) = missK (R.rs m).W (R.rs m).ex j ++ [(R.rs m).ex + (j : Int)] := by
        rw [miss_succ, if_pos (by unfold unk; exact decide_eq_true (fndW_neg.1 (by assumption)))]
      refine ⟨⟨⟨j + 1, by omega, by rw [e1, List.length_append, List.length_singleton]; omega⟩, c3⟩, [0, 1, 2, 3, 4, 5, 6, 7, 8, 9, 13, 11], by simp only; omega, ?_⟩
      simp only [e1]
      (repeat' first | refine And.intro ?_ ?_ | exact xeC | fail)
      all_goals first | exact xmR | omega | (simp; done) | (intro i hi; exact app_rowG encI _ _ _ rfl i hi) | skip
      all_goals trace_state
    · have e1 : missK (R.rs m).W (R.rs m).ex (j + 1) = missK (R.rs m).W (R.rs m).ex j := by
        rw [miss_succ, if_neg (by unfold unk; exact fun h => absurd (fndW_neg.2 (of_decide_eq_true h)) (Int.not_lt.2 (by assumption))), List.append_nil]
      refine ⟨⟨⟨j + 1, by omega, by rw [e1]; omega⟩, cc⟩, [0, 1, 2, 3, 4, 5, 6, 7, 8, 9, 10, 11], by simp only; omega, ?_⟩
      simp only [e1]
      (repeat' first | refine And.intro ?_ ?_ | exact xeC | fail)
      all_goals first | exact xmR | omega | skip
      all_goals trace_state
  all_goals (
    have e2 : missF (R.rs m) x.la = missK (R.rs m).W (R.rs m).ex j := miss_end hj hm32 (by omega)
    rw [he2]
    repeat' (first | (fail_if_success (with_reducible refine xstp ?_)); first | ((with_reducible refine And.intro ?_ ?_); focus exact xoC) | ((fail_if_success (with_reducible first | refine xgon ?_ | intro _)); (conv => whnf); (fail_if_success (fail_if_success (with_reducible first | refine xstp ?_ | refine xgon ?_ | intro _)))))
    rw [he2]
    repeat' (first | (fail_if_success (with_reducible refine xstp ?_)); first | ((with_reducible refine And.intro ?_ ?_); focus exact xoC) | ((fail_if_success (with_reducible first | refine xgon ?_ | intro _)); (conv => whnf); (fail_if_success (fail_if_success (with_reducible first | refine xstp ?_ | refine xgon ?_ | intro _)))))
    rw [he2]
    repeat' (first | (fail_if_success (with_reducible refine xstp ?_)); first | ((fail_if_success (with_reducible first | refine xgon ?_ | intro _)); (conv => whnf); (fail_if_success (fail_if_success (with_reducible first | refine xstp ?_ | refine xgon ?_ | intro _)))))
    rw [e2]
    simp only [hw]
    refine FinK.mk ⟨[0, 1, 2, 3, 4, 5, 6, 7, 8, 9, 10, 12], _, _, ⟨c, cl, cf, cc, 1, rfl, rfl⟩, ?_⟩
    (repeat' first | refine And.intro ?_ ?_ | exact xeC | fail)
    all_goals first
      | exact xmR
      | (intro i hi
         have hi1 : i < 1 := hi
         obtain rfl : i = 0 := by omega
         rw [show ((upd R x.w m (R.rs m)).M.getD k default).2 = x.w from hw]
         rfl)
    skip)
end Go.Proofs.Ytgcofipbdidhmaa


namespace Go.Proofs.Ytgcofipbdidhmaa
open Go.X
set_option linter.unusedSimpArgs false
set_option linter.unusedVariables false
theorem rH29I0 {σ : List Sg} {H h' : List Fam} {v : T} {K : T → List Fam → Prop} {H' : List Fam} {v' : T} {N : Nat} (hk : K v' H') (hN : H.length = N := by (try simp only [↓List.length_cons, ↓List.length_nil, Nat.reduceAdd]) <;> rfl) (h : givesF σ N H σ h' = some H' := by (try simp (maxSteps := 1000000) only [givesF, setF, updF, Fam.zeroth, Fam.rk, Ck.rk, C.rk, E.rk, T.rk, key, List.map_cons, List.map_nil, List.cons_append, List.nil_append, List.length_cons, List.length_nil, Option.map_some, Option.bind_some, Nat.reduceAdd, Nat.zero_add, Nat.add_zero, Nat.add_sub_cancel_left, Int.toNat_natCast, reps, List.all_cons, List.all_nil, C.flat, List.append_eq, Bool.not_true, Bool.and_true, Bool.or_false, Bool.or_self, Bool.not_false, List.append_nil, Bool.and_self, ↓slG_rk, ↓mtG_rk, ↓winO_rk]) <;> rfl) (hv : v.rk σ N = v' := by (try simp only [givesF, setF, updF, Fam.zeroth, Fam.rk, Ck.rk, C.rk, E.rk, T.rk, key, List.map_cons, List.map_nil, List.cons_append, List.nil_append, List.length_cons, List.length_nil, Option.map_some, Option.bind_some, Nat.reduceAdd, Nat.zero_add, Nat.add_zero, Nat.add_sub_cancel_left, Int.toNat_natCast, reps, List.all_cons, List.all_nil, C.flat, List.append_eq, Bool.not_true, Bool.and_true, Bool.or_false, Bool.or_self, Bool.not_false, List.append_nil, Bool.and_self, ↓slG_rk, ↓mtG_rk, ↓winO_rk]) <;> rfl) : RetG σ H h' v K := ret_mk3 hN h hv hk
theorem cH29I1 {P : Program} {F : Nat} {args : List T} {H : List Fam} {K : T → List Fam → Prop} {σ : List Sg} {nl : List Fam} {args0 : List T} {h0 : List Fam} {Q : T → List Fam → Prop} {H2 H1 : List Fam} {N n : Nat} (hc : Ctr P F args0 h0 Q) (hk : ∀ v h', Q v h' → capsP h' → RetG σ H2 h' v K) (hap : apart σ = true := by rfl) (hnl : nl.all nilB = true := by rfl) (h1 : H ++ nl = H1 := by first | exact List.append_nil _ | ((try simp only [List.cons_append, List.nil_append]) <;> rfl)) (hN : H1.length = N := by (try simp only [↓List.length_cons, ↓List.length_nil, Nat.reduceAdd]) <;> rfl) (hn : H.length = n := by (try simp only [↓List.length_cons, ↓List.length_nil, Nat.reduceAdd]) <;> rfl) (hH : givesF σ N H1 σ h0 = some H2 := by (try simp (maxSteps := 1000000) only [givesF, setF, updF, Fam.zeroth, Fam.rk, Ck.rk, C.rk, E.rk, T.rk, key, List.map_cons, List.map_nil, List.cons_append, List.nil_append, List.length_cons, List.length_nil, Option.map_some, Option.bind_some, Nat.reduceAdd, Nat.zero_add, Nat.add_zero, Nat.add_sub_cancel_left, Int.toNat_natCast, reps, List.all_cons, List.all_nil, C.flat, List.append_eq, Bool.not_true, Bool.and_true, Bool.or_false, Bool.or_self, Bool.not_false, List.append_nil, Bool.and_self, ↓slG_rk, ↓mtG_rk, ↓winO_rk]) <;> rfl) (hle : leS n H1 σ N σ h0 (belsK N (h0.map (Fam.rk σ N)) (argsK n args (args0.map (T.rk σ N)) True)) := by repeat' first | refine And.intro ?_ ?_ | exact xeC | fail) : CallK P F args H K := CallK.mk3 hc hap hnl h1 hN hn hH hle hk
set_option maxRecDepth 10000 in
theorem rrexp (id : Int) (q : Qos) (R : Rd) (cM n c : Nat) (cf : Nat → Nat) (w : Int) (hR : RdN R) (hl : R.M.length ≤ 1000000) :
    Ctr Try.prog 30 [.c (.p 0 0 0), .c (.i .i64 w)] [.one (rrd 1 2 3 id q R.M.length cM n c), .one .no, .one (mtR 4 R cM cf), .one .no, .one .no]
      fun v h => v = .c (.i .i64 (R.exp w)) ∧ h = [.one (rrd 1 2 3 id q R.M.length cM n c), .one .no, .one (mtR 4 R cM cf), .one .no, .one .no] := by
  refine Ctr.mk' tbv mixed Try.func30 rfl rfl rfl (fun _ _ => by kernel_rfl) (by kernel_rfl) (by rfl) (by rfl) (by (repeat' first | refine And.intro ?_ ?_ | exact xeC | fail) <;> exact xmR) ?_
  repeat' (first | (fail_if_success (with_reducible refine xstp ?_)); first | (with_reducible intro hc; (try simp only [capsP, and_true] at hc); (try exact xfC)) | ((fail_if_success (with_reducible first | refine xgon ?_ | intro _)); (conv => whnf); (fail_if_success (fail_if_success (with_reducible first | refine xstp ?_ | refine xgon ?_ | intro _)))))
  refine cH29I1 (σ := [.whole 0, .name 1, .whole 2, .name 3, .name 4]) (nl := []) (rrfind id q R cM n c cf w hR.toRdOk hl) ?_ (hle := by (repeat' first | refine And.intro ?_ ?_ | exact xeC | fail) <;> exact xmR)
  rcases fnd_m hR w with ⟨h1, hn⟩ | ⟨k, m, h1, hk, hw, hD, hm, hw1⟩
  · rw [h1, show idxM none = (-1 : Int) from rfl]
    rintro v h' ⟨rfl, rfl⟩ hcaps
    refine rH29I0 ?_
    rw [mt_fun (G := 4) (fun x => rfl)]
    repeat' (first | (fail_if_success (with_reducible refine xstp ?_)); first | ((with_reducible refine And.intro (fun (hb : _ = true) => ?_) (fun (hb : _ = false) => ?_)) <;> replace hb := xnC hb <;> (try first | exact xfC | exact bff hb (by assumption) | exact bff (by assumption) hb)) | ((fail_if_success (with_reducible first | refine xgon ?_ | intro _)); (conv => whnf); (fail_if_success (fail_if_success (with_reducible first | refine xstp ?_ | refine xgon ?_ | intro _)))))
    have e2 : R.exp w = 0 := by unfold Rd.exp; rw [hn]
    rw [e2]
    refine FinK.mk ⟨[0, 1, 2, 3, 4], _, _, ⟨rfl, rfl⟩, ?_⟩
    (repeat' first | refine And.intro ?_ ?_ | exact xeC | fail)
    all_goals exact xmR
  rw [h1, show idxM (some k) = (k : Nat) from rfl]
  rintro v h' ⟨rfl, rfl⟩ hcaps
  refine rH29I0 ?_
  rw [mt_fun (G := 4) (fun x => rfl)]
  have he : encMt 4 R cf k = _ := mt_at hD
  unfold mtc5 at he
  have e3 : 0 + ((k : Nat) : Int).toNat = k := by omega
  repeat' (first | (fail_if_success (with_reducible refine xstp ?_)); first | ((with_reducible refine And.intro (fun (hb : _ = true) => ?_) (fun (hb : _ = false) => ?_)) <;> replace hb := xnC hb <;> (try first | exact xfC | exact bff hb (by assumption) | exact bff (by assumption) hb)) | ((with_reducible refine And.intro ?_ ?_); focus exact xoC) | ((fail_if_success (with_reducible first | refine xgon ?_ | intro _)); (conv => whnf); (fail_if_success (fail_if_success (with_reducible first | refine xstp ?_ | refine xgon ?_ | intro _)))))
  rw [e3, he]
  repeat' (first | (fail_if_success (with_reducible refine xstp ?_)); first | ((fail_if_success (with_reducible first | refine xgon ?_ | intro _)); (conv => whnf); (fail_if_success (fail_if_success (with_reducible first | refine xstp ?_ | refine xgon ?_ | intro _)))))
  have e2 : R.exp w = m.ex := by unfold Rd.exp; rw [hm]
  rw [e2]
  refine FinK.mk ⟨[0, 1, 2, 3, 4], _, _, ⟨rfl, rfl⟩, ?_⟩
  (repeat' first | refine And.intro ?_ ?_ | exact xeC | fail)
  all_goals exact xmR
set_option maxRecDepth 10000 in
theorem rrwait (id : Int) (q : Qos) (l : List Smp) (nM cM n c cl : Nat) :
    Ctr Try.prog 29 [.c (.p 0 0 0)] [.one (rrd 1 2 3 id q nM cM n cl), .one (hist 4 q l.length c), .one .no, .one .no, .one .no]
      fun v h => v = .c (.i .i64 l.length) ∧ h = [.one (rrd 1 2 3 id q nM cM n cl), .one (hist 4 q l.length c), .one .no, .one .no, .one .no] := by
  refine Ctr.mk' tbv mixed Try.func29 rfl rfl rfl (fun _ _ => by kernel_rfl) (by kernel_rfl) (by rfl) (by rfl) (by (repeat' first | refine And.intro ?_ ?_ | exact xeC | fail)) ?_
  repeat' (first | (fail_if_success (with_reducible refine xstp ?_)); first | (with_reducible intro hc; (try simp only [capsP, and_true] at hc); (try exact xfC)) | ((fail_if_success (with_reducible first | refine xgon ?_ | intro _)); (conv => whnf); (fail_if_success (fail_if_success (with_reducible first | refine xstp ?_ | refine xgon ?_ | intro _)))))
  refine FinK.mk ⟨[0, 1, 2, 3, 4], _, _, ⟨rfl, rfl⟩, ?_⟩; (repeat' first | refine And.intro ?_ ?_ | exact xeC | fail)
set_option maxRecDepth 10000 in
theorem rrlosses (id : Int) (q : Qos) (nM cM : Nat) (ls : List (Int × Int)) (c : Nat) :
    Ctr Try.prog 48 [.c (.p 0 0 0)] [.one (rrd 1 2 3 id q nM cM ls.length c), .one .no, .one .no, .one (lsr true ls c)]
      fun v h => v = .c (.sl 4 0 2 0 ls.length c) ∧ h = [.one (rrd 1 2 5 id q nM cM 0 0), .one .no, .one .no, .one .no, .one (lsr true ls c), .one (lsr true [] 0)] := by
  refine Ctr.mk' tbv mixed Try.func48 rfl rfl rfl (fun _ _ => by kernel_rfl) (by kernel_rfl) (by rfl) (by rfl) (by (repeat' first | refine And.intro ?_ ?_ | exact xeC | fail)) ?_
  repeat' (first | (fail_if_success (with_reducible refine xstp ?_)); first | (with_reducible intro hc; (try simp only [capsP, and_true] at hc); (try exact xfC)) | ((fail_if_success (with_reducible first | refine xgon ?_ | intro _)); (conv => whnf); (fail_if_success (fail_if_success (with_reducible first | refine xstp ?_ | refine xgon ?_ | intro _)))))
  refine FinK.mk ⟨[0, 1, 2, 3, 3, 99], _, _, ⟨rfl, rfl⟩, ?_⟩
  (repeat' first | refine And.intro ?_ ?_ | exact xeC | fail)
set_option maxRecDepth 10000 in
set_option maxHeartbeats 4000000 in
theorem rrtake (id : Int) (q : Qos) (l : List Smp) (nM cM n c cl : Nat) (at' most : Int) (hl : l.length ≤ 1000000) :
    Ctr Try.prog 47 [.c (.p 0 0 0), .c (.i .i64 at'), .c (.i .i64 most)] [.one (rrd 1 2 3 id q nM cM n cl), .one (hist 4 q l.length c), .one .no, .one .no, .one (smps true l c)]
      fun v h => ∃ co c', v = .c (.sl 5 0 4 0 (l.take (tkN l most)).length co) ∧ h = [.one (rrd 1 2 3 id q nM cM n cl), .one (hist 6 q (l.drop (tkN l most)).length c'), .one .no, .one .no, .one .no, .one (smps true (l.take (tkN l most)) co), .one (smps true (l.drop (tkN l most)) c')] := by
  refine Ctr.mk' tbv mixed Try.func47 rfl rfl rfl (fun _ _ => by kernel_rfl) (by kernel_rfl) (by rfl) (by rfl) (by (repeat' first | refine And.intro ?_ ?_ | exact xeC | fail)) ?_
  repeat' (first | (fail_if_success (with_reducible refine xstp ?_)); first | ((with_reducible refine And.intro ?_ ?_); focus exact xoC) | (with_reducible intro hc; (try simp only [capsP, and_true] at hc); (try exact xfC)) | ((fail_if_success (with_reducible first | refine xgon ?_ | intro _)); (conv => whnf); (fail_if_success (fail_if_success (with_reducible first | refine xstp ?_ | refine xgon ?_ | intro _)))))
  rename_i h0 c1 h1 c2
  have hK : (min (max most 0) (l.length : Int)).toNat = tkN l most := by unfold tkN; omega
  have hKl : tkN l most ≤ l.length := by unfold tkN; omega
  simp only [hK] at *
  have h3 : (l.take (tkN l most)).length = tkN l most := by rw [List.length_take]; omega
  refine FinK.mk ⟨[0, 1, 2, 3, 4, 5, 6], _, _, ⟨c1, c2, rfl, rfl⟩, ?_⟩
  (repeat' first | refine And.intro ?_ ?_ | exact xeC | fail)
  all_goals first
    | exact h3.symm
    | exact Nat.le_of_eq h3
    | (rw [List.length_drop]; done)
    | (rw [List.length_drop]; exact Nat.le_refl _)
    | (intro i hi; rw [h3] at hi; dsimp only; unfold rowOf; rw [Nat.zero_add, getD_at (show i < l.length by omega), getD_at (show i < (l.take (tkN l most)).length by omega), List.getElem_take]; done)
    | (intro i hi; rw [List.length_drop] at hi; dsimp only; unfold rowOf; rw [getD_at (show i < (l.drop (tkN l most)).length by rw [List.length_drop]; omega), List.getElem_drop]
       split
       · omega
       · rw [Nat.zero_add, getD_at (show tkN l most + i < l.length by omega)])
    | skip
  all_goals trace_state
end Go.Proofs.Ytgcofipbdidhmaa


namespace Go.Proofs.Ytgcofipbdidhmaa
open Go.X
set_option linter.unusedSimpArgs false
set_option linter.unusedVariables false
set_option maxRecDepth 10000 in
theorem rwithin (o r : Int) : Ctr Try.prog 83 [.c (.i .i64 o), .c (.i .i64 r)] [] fun v h => v = .c (.b (decide (wthn o r))) ∧ h = [] := by
  refine Ctr.mk' tbv mixed Try.func83 rfl rfl rfl (fun _ _ => by kernel_rfl) (by kernel_rfl) (by rfl) (by rfl) (by (repeat' first | refine And.intro ?_ ?_ | exact xeC | fail)) ?_
  repeat' (first | (fail_if_success (with_reducible refine xstp ?_)); first | ((with_reducible refine And.intro (fun (hb : _ = true) => ?_) (fun (hb : _ = false) => ?_)) <;> replace hb := xnC hb <;> (try first | exact xfC | exact bff hb (by assumption) | exact bff (by assumption) hb)) | (with_reducible intro hc; (try simp only [capsP, and_true] at hc); (try exact xfC)) | ((fail_if_success (with_reducible first | refine xgon ?_ | intro _)); (conv => whnf); (fail_if_success (fail_if_success (with_reducible first | refine xstp ?_ | refine xgon ?_ | intro _)))))
  all_goals (
    refine FinK.mk ⟨[], _, _, ⟨rfl, rfl⟩, ?_⟩; (repeat' first | refine And.intro ?_ ?_ | exact xeC | fail)
    all_goals first | exact decide_eq_decide.2 (by unfold wthn; omega) | exact (decide_eq_true (by unfold wthn; omega)).symm | exact (decide_eq_false (by unfold wthn; omega)).symm | exact decide_eq_true (by unfold wthn; omega) | exact decide_eq_false (by unfold wthn; omega) | (apply Bool.eq_iff_iff.2; simp [wthn]; omega))

theorem rH29J0 {σ : List Sg} {H h' : List Fam} {v : T} {K : T → List Fam → Prop} {H' : List Fam} {v' : T} {N : Nat} (hk : K v' H') (hN : H.length = N := by (try simp only [↓List.length_cons, ↓List.length_nil, Nat.reduceAdd]) <;> rfl) (h : givesF σ N H σ h' = some H' := by (try simp (maxSteps := 1000000) only [givesF, setF, updF, Fam.zeroth, Fam.rk, Ck.rk, C.rk, E.rk, T.rk, key, List.map_cons, List.map_nil, List.cons_append, List.nil_append, List.length_cons, List.length_nil, Option.map_some, Option.bind_some, Nat.reduceAdd, Nat.zero_add, Nat.add_zero, Nat.add_sub_cancel_left, Int.toNat_natCast, reps, List.all_cons, List.all_nil, C.flat, List.append_eq, Bool.not_true, Bool.and_true, Bool.or_false, Bool.or_self, Bool.not_false, List.append_nil, Bool.and_self, ↓slG_rk]) <;> rfl) (hv : v.rk σ N = v' := by (try simp only [givesF, setF, updF, Fam.zeroth, Fam.rk, Ck.rk, C.rk, E.rk, T.rk, key, List.map_cons, List.map_nil, List.cons_append, List.nil_append, List.length_cons, List.length_nil, Option.map_some, Option.bind_some, Nat.reduceAdd, Nat.zero_add, Nat.add_zero, Nat.add_sub_cancel_left, Int.toNat_natCast, reps, List.all_cons, List.all_nil, C.flat, List.append_eq, Bool.not_true, Bool.and_true, Bool.or_false, Bool.or_self, Bool.not_false, List.append_nil, Bool.and_self, ↓slG_rk]) <;> rfl) : RetG σ H h' v K := ret_mk3 hN h hv hk
theorem cH29J2 {P : Program} {F : Nat} {args : List T} {H : List Fam} {K : T → List Fam → Prop} {σ : List Sg} {nl : List Fam} {args0 : List T} {h0 : List Fam} {Q : T → List Fam → Prop} {H2 H1 : List Fam} {N n : Nat} (hc : Ctr P F args0 h0 Q) (hk : ∀ v h', Q v h' → capsP h' → RetG σ H2 h' v K) (hap : apart σ = true := by rfl) (hnl : nl.all nilB = true := by rfl) (h1 : H ++ nl = H1 := by first | exact List.append_nil _ | ((try simp only [List.cons_append, List.nil_append]) <;> rfl)) (hN : H1.length = N := by (try simp only [↓List.length_cons, ↓List.length_nil, Nat.reduceAdd]) <;> rfl) (hn : H.length = n := by (try simp only [↓List.length_cons, ↓List.length_nil, Nat.reduceAdd]) <;> rfl) (hH : givesF σ N H1 σ h0 = some H2 := by (try simp (maxSteps := 1000000) only [givesF, setF, updF, Fam.zeroth, Fam.rk, Ck.rk, C.rk, E.rk, T.rk, key, List.map_cons, List.map_nil, List.cons_append, List.nil_append, List.length_cons, List.length_nil, Option.map_some, Option.bind_some, Nat.reduceAdd, Nat.zero_add, Nat.add_zero, Nat.add_sub_cancel_left, Int.toNat_natCast, reps, List.all_cons, List.all_nil, C.flat, List.append_eq, Bool.not_true, Bool.and_true, Bool.or_false, Bool.or_self, Bool.not_false, List.append_nil, Bool.and_self, ↓slG_rk]) <;> rfl) (hle : leS n H1 σ N σ h0 (belsK N (h0.map (Fam.rk σ N)) (argsK n args (args0.map (T.rk σ N)) True)) := by repeat' first | refine And.intro ?_ ?_ | exact xeC | fail) : CallK P F args H K := CallK.mk3 hc hap hnl h1 hN hn hH hle hk
set_option maxRecDepth 10000 in
set_option maxHeartbeats 4000000 in
theorem rviol (o r : Qos) : Ctr Try.prog 75 [.a (encQ o), .a (encQ r)] [] fun v h => v = .c (.i .i64 (viol o r)) ∧ h = [] := by
  refine Ctr.mk' tbv mixed Try.func75 rfl rfl rfl (fun _ _ => by kernel_rfl) (by kernel_rfl) (by rfl) (by rfl) (by (repeat' first | refine And.intro ?_ ?_ | exact xeC | fail)) ?_
  repeat' (first | (fail_if_success (with_reducible refine xstp ?_)); first | ((with_reducible refine And.intro (fun (hb : _ = true) => ?_) (fun (hb : _ = false) => ?_)) <;> replace hb := xnC hb <;> (try first | exact xfC | exact bff hb (by assumption) | exact bff (by assumption) hb)) | (with_reducible intro hc; (try simp only [capsP, and_true] at hc); (try exact xfC)) | ((fail_if_success (with_reducible first | refine xgon ?_ | intro _)); (conv => whnf); (fail_if_success (fail_if_success (with_reducible first | refine xstp ?_ | refine xgon ?_ | intro _)))))
  · refine FinK.mk ⟨[], _, _, ⟨rfl, rfl⟩, ?_⟩; (repeat' first | refine And.intro ?_ ?_ | exact xeC | fail)
    all_goals (unfold viol; simp_all)
  · refine FinK.mk ⟨[], _, _, ⟨rfl, rfl⟩, ?_⟩; (repeat' first | refine And.intro ?_ ?_ | exact xeC | fail)
    all_goals (unfold viol; simp_all)
  · refine cH29J2 (σ := []) (nl := []) (rwithin o.dead r.dead) ?_
    rintro v h' ⟨rfl, rfl⟩ hcaps
    refine rH29J0 ?_
    repeat' (first | (fail_if_success (with_reducible refine xstp ?_)); first | ((with_reducible refine And.intro (fun (hb : _ = true) => ?_) (fun (hb : _ = false) => ?_)) <;> replace hb := xnC hb <;> (try first | exact xfC | exact bff hb (by assumption) | exact bff (by assumption) hb)) | ((fail_if_success (with_reducible first | refine xgon ?_ | intro _)); (conv => whnf); (fail_if_success (fail_if_success (with_reducible first | refine xstp ?_ | refine xgon ?_ | intro _)))))
    · refine FinK.mk ⟨[], _, _, ⟨rfl, rfl⟩, ?_⟩; (repeat' first | refine And.intro ?_ ?_ | exact xeC | fail)
      all_goals (unfold viol; simp_all)
    · refine cH29J2 (σ := []) (nl := []) (rwithin o.lease r.lease) ?_
      rintro v h' ⟨rfl, rfl⟩ hcaps
      refine rH29J0 ?_
      repeat' (first | (fail_if_success (with_reducible refine xstp ?_)); first | ((with_reducible refine And.intro (fun (hb : _ = true) => ?_) (fun (hb : _ = false) => ?_)) <;> replace hb := xnC hb <;> (try first | exact xfC | exact bff hb (by assumption) | exact bff (by assumption) hb)) | ((fail_if_success (with_reducible first | refine xgon ?_ | intro _)); (conv => whnf); (fail_if_success (fail_if_success (with_reducible first | refine xstp ?_ | refine xgon ?_ | intro _)))))
      all_goals (
        refine FinK.mk ⟨[], _, _, ⟨rfl, rfl⟩, ?_⟩; (repeat' first | refine And.intro ?_ ?_ | exact xeC | fail)
        all_goals (unfold viol; simp_all))
  · refine cH29J2 (σ := []) (nl := []) (rwithin o.dead r.dead) ?_
    rintro v h' ⟨rfl, rfl⟩ hcaps
    refine rH29J0 ?_
    repeat' (first | (fail_if_success (with_reducible refine xstp ?_)); first | ((with_reducible refine And.intro (fun (hb : _ = true) => ?_) (fun (hb : _ = false) => ?_)) <;> replace hb := xnC hb <;> (try first | exact xfC | exact bff hb (by assumption) | exact bff (by assumption) hb)) | ((fail_if_success (with_reducible first | refine xgon ?_ | intro _)); (conv => whnf); (fail_if_success (fail_if_success (with_reducible first | refine xstp ?_ | refine xgon ?_ | intro _)))))
    · refine FinK.mk ⟨[], _, _, ⟨rfl, rfl⟩, ?_⟩; (repeat' first | refine And.intro ?_ ?_ | exact xeC | fail)
      all_goals (unfold viol; simp_all)
    · refine cH29J2 (σ := []) (nl := []) (rwithin o.lease r.lease) ?_
      rintro v h' ⟨rfl, rfl⟩ hcaps
      refine rH29J0 ?_
      repeat' (first | (fail_if_success (with_reducible refine xstp ?_)); first | ((with_reducible refine And.intro (fun (hb : _ = true) => ?_) (fun (hb : _ = false) => ?_)) <;> replace hb := xnC hb <;> (try first | exact xfC | exact bff hb (by assumption) | exact bff (by assumption) hb)) | ((fail_if_success (with_reducible first | refine xgon ?_ | intro _)); (conv => whnf); (fail_if_success (fail_if_success (with_reducible first | refine xstp ?_ | refine xgon ?_ | intro _)))))
      all_goals (
        refine FinK.mk ⟨[], _, _, ⟨rfl, rfl⟩, ?_⟩; (repeat' first | refine And.intro ?_ ?_ | exact xeC | fail)
        all_goals (unfold viol; simp_all))
  · refine FinK.mk ⟨[], _, _, ⟨rfl, rfl⟩, ?_⟩; (repeat' first | refine And.intro ?_ ?_ | exact xeC | fail)
    all_goals (unfold viol; simp_all)
  · refine cH29J2 (σ := []) (nl := []) (rwithin o.dead r.dead) ?_
    rintro v h' ⟨rfl, rfl⟩ hcaps
    refine rH29J0 ?_
    repeat' (first | (fail_if_success (with_reducible refine xstp ?_)); first | ((with_reducible refine And.intro (fun (hb : _ = true) => ?_) (fun (hb : _ = false) => ?_)) <;> replace hb := xnC hb <;> (try first | exact xfC | exact bff hb (by assumption) | exact bff (by assumption) hb)) | ((fail_if_success (with_reducible first | refine xgon ?_ | intro _)); (conv => whnf); (fail_if_success (fail_if_success (with_reducible first | refine xstp ?_ | refine xgon ?_ | intro _)))))
    · refine FinK.mk ⟨[], _, _, ⟨rfl, rfl⟩, ?_⟩; (repeat' first | refine And.intro ?_ ?_ | exact xeC | fail)
      all_goals (unfold viol; simp_all)
    · refine cH29J2 (σ := []) (nl := []) (rwithin o.lease r.lease) ?_
      rintro v h' ⟨rfl, rfl⟩ hcaps
      refine rH29J0 ?_
      repeat' (first | (fail_if_success (with_reducible refine xstp ?_)); first | ((with_reducible refine And.intro (fun (hb : _ = true) => ?_) (fun (hb : _ = false) => ?_)) <;> replace hb := xnC hb <;> (try first | exact xfC | exact bff hb (by assumption) | exact bff (by assumption) hb)) | ((fail_if_success (with_reducible first | refine xgon ?_ | intro _)); (conv => whnf); (fail_if_success (fail_if_success (with_reducible first | refine xstp ?_ | refine xgon ?_ | intro _)))))
      all_goals (
        refine FinK.mk ⟨[], _, _, ⟨rfl, rfl⟩, ?_⟩; (repeat' first | refine And.intro ?_ ?_ | exact xeC | fail)
        all_goals (unfold viol; simp_all))
  · refine cH29J2 (σ := []) (nl := []) (rwithin o.dead r.dead) ?_
    rintro v h' ⟨rfl, rfl⟩ hcaps
    refine rH29J0 ?_
    repeat' (first | (fail_if_success (with_reducible refine xstp ?_)); first | ((with_reducible refine And.intro (fun (hb : _ = true) => ?_) (fun (hb : _ = false) => ?_)) <;> replace hb := xnC hb <;> (try first | exact xfC | exact bff hb (by assumption) | exact bff (by assumption) hb)) | ((fail_if_success (with_reducible first | refine xgon ?_ | intro _)); (conv => whnf); (fail_if_success (fail_if_success (with_reducible first | refine xstp ?_ | refine xgon ?_ | intro _)))))
    · refine FinK.mk ⟨[], _, _, ⟨rfl, rfl⟩, ?_⟩; (repeat' first | refine And.intro ?_ ?_ | exact xeC | fail)
      all_goals (unfold viol; simp_all)
    · refine cH29J2 (σ := []) (nl := []) (rwithin o.lease r.lease) ?_
      rintro v h' ⟨rfl, rfl⟩ hcaps
      refine rH29J0 ?_
      repeat' (first | (fail_if_success (with_reducible refine xstp ?_)); first | ((with_reducible refine And.intro (fun (hb : _ = true) => ?_) (fun (hb : _ = false) => ?_)) <;> replace hb := xnC hb <;> (try first | exact xfC | exact bff hb (by assumption) | exact bff (by assumption) hb)) | ((fail_if_success (with_reducible first | refine xgon ?_ | intro _)); (conv => whnf); (fail_if_success (fail_if_success (with_reducible first | refine xstp ?_ | refine xgon ?_ | intro _)))))
      all_goals (
        refine FinK.mk ⟨[], _, _, ⟨rfl, rfl⟩, ?_⟩; (repeat' first | refine And.intro ?_ ?_ | exact xeC | fail)
        all_goals (unfold viol; simp_all))

theorem rH29J1 {σ : List Sg} {H h' : List Fam} {v : T} {K : T → List Fam → Prop} {H' : List Fam} {v' : T} {N : Nat} (hk : K v' H') (hN : H.length = N := by (try simp only [↓List.length_cons, ↓List.length_nil, Nat.reduceAdd]) <;> rfl) (h : givesF σ N H σ h' = some H' := by (try simp (maxSteps := 1000000) only [givesF, setF, updF, Fam.zeroth, Fam.rk, Ck.rk, C.rk, E.rk, T.rk, key, List.map_cons, List.map_nil, List.cons_append, List.nil_append, List.length_cons, List.length_nil, Option.map_some, Option.bind_some, Nat.reduceAdd, Nat.zero_add, Nat.add_zero, Nat.add_sub_cancel_left, Int.toNat_natCast, reps, List.all_cons, List.all_nil, C.flat, List.append_eq, Bool.not_true, Bool.and_true, Bool.or_false, Bool.or_self, Bool.not_false, List.append_nil, Bool.and_self, ↓slG_rk, encQ]) <;> rfl) (hv : v.rk σ N = v' := by (try simp only [givesF, setF, updF, Fam.zeroth, Fam.rk, Ck.rk, C.rk, E.rk, T.rk, key, List.map_cons, List.map_nil, List.cons_append, List.nil_append, List.length_cons, List.length_nil, Option.map_some, Option.bind_some, Nat.reduceAdd, Nat.zero_add, Nat.add_zero, Nat.add_sub_cancel_left, Int.toNat_natCast, reps, List.all_cons, List.all_nil, C.flat, List.append_eq, Bool.not_true, Bool.and_true, Bool.or_false, Bool.or_self, Bool.not_false, List.append_nil, Bool.and_self, ↓slG_rk, encQ]) <;> rfl) : RetG σ H h' v K := ret_mk3 hN h hv hk
set_option maxRecDepth 10000 in
theorem rcompat (o r : Qos) : Ctr Try.prog 64 [.a (encQ o), .a (encQ r)] [] fun v h => v = .c (.b (decide (viol o r = 0))) ∧ h = [] := by
  refine Ctr.mk' tbv mixed Try.func64 rfl rfl rfl (fun _ _ => by kernel_rfl) (by kernel_rfl) (by rfl) (by rfl) (by (repeat' first | refine And.intro ?_ ?_ | exact xeC | fail)) ?_
  repeat' (first | (fail_if_success (with_reducible refine xstp ?_)); first | (with_reducible intro hc; (try simp only [capsP, and_true] at hc); (try exact xfC)) | ((fail_if_success (with_reducible first | refine xgon ?_ | intro _)); (conv => whnf); (fail_if_success (fail_if_success (with_reducible first | refine xstp ?_ | refine xgon ?_ | intro _)))))
  refine cH29J2 (σ := []) (nl := []) (rviol o r) ?_
  rintro v h' ⟨rfl, rfl⟩ hcaps
  refine rH29J1 ?_
  repeat' (first | (fail_if_success (with_reducible refine xstp ?_)); first | ((fail_if_success (with_reducible first | refine xgon ?_ | intro _)); (conv => whnf); (fail_if_success (fail_if_success (with_reducible first | refine xstp ?_ | refine xgon ?_ | intro _)))))
  refine FinK.mk ⟨[], _, _, ⟨rfl, rfl⟩, ?_⟩; (repeat' first | refine And.intro ?_ ?_ | exact xeC | fail)


theorem rn0 : RdN Rd0 := ⟨⟨fun i hi => absurd hi (Nat.not_lt_zero i), fun x m h => by cases h⟩, List.nodup_nil⟩
set_option maxRecDepth 10000 in
set_option maxHeartbeats 4000000 in
theorem rrnew (id : Int) (q : Qos) : Ctr Try.prog 27 [.c (.i .i64 id), .a (encQ q)] []
      fun v h => ((1 ≤ id ∧ okQ q) ∧ v = .t [.c (.p 0 0 0), .c (.i .i64 0)] ∧ h = rrC id q Rd0 0 0 0 fun _ => 0) ∨ (¬ (1 ≤ id ∧ okQ q) ∧ v = .t [.c .nilp, .c (.i .i64 4)] ∧ h = []) := by
  refine Ctr.mk' tbv mixed Try.func27 rfl rfl rfl (fun _ _ => by kernel_rfl) (by kernel_rfl) (by rfl) (by rfl) (by (repeat' first | refine And.intro ?_ ?_ | exact xeC | fail)) ?_
  repeat' (first | (fail_if_success (with_reducible refine xstp ?_)); first | ((with_reducible refine And.intro (fun (hb : _ = true) => ?_) (fun (hb : _ = false) => ?_)) <;> replace hb := xnC hb <;> (try first | exact xfC | exact bff hb (by assumption) | exact bff (by assumption) hb)) | (with_reducible intro hc; (try simp only [capsP, and_true] at hc); (try exact xfC)) | ((fail_if_success (with_reducible first | refine xgon ?_ | intro _)); (conv => whnf); (fail_if_success (fail_if_success (with_reducible first | refine xstp ?_ | refine xgon ?_ | intro _)))))
  · refine FinK.mk ⟨[], _, _, .inr ⟨by omega, rfl, rfl⟩, ?_⟩
    (repeat' first | refine And.intro ?_ ?_ | exact xeC | fail)
  · have hb0 := hb
    refine cH29J2 (σ := []) (nl := []) (rnew q) ?_
    rintro v h' (⟨hq, rfl, rfl⟩ | ⟨hq, rfl, rfl⟩) hcaps
    · refine rH29J1 ?_
      repeat' (first | (fail_if_success (with_reducible refine xstp ?_)); first | ((with_reducible refine And.intro (fun (hb : _ = true) => ?_) (fun (hb : _ = false) => ?_)) <;> replace hb := xnC hb <;> (try first | exact xfC | exact bff hb (by assumption) | exact bff (by assumption) hb)) | ((fail_if_success (with_reducible first | refine xgon ?_ | intro _)); (conv => whnf); (fail_if_success (fail_if_success (with_reducible first | refine xstp ?_ | refine xgon ?_ | intro _)))))
      refine FinK.mk ⟨[3, 1, 98, 97, 2, 96, 95], _, _, .inl ⟨⟨hb0, hq⟩, rfl, rfl⟩, ?_⟩
      (repeat' first | refine And.intro ?_ ?_ | exact xeC | fail)
      all_goals first | exact xmR | exact fun _ => rfl | exact fun i hi => absurd hi (Nat.not_lt_zero i) | skip
      all_goals trace_state
    · refine rH29J1 ?_
      repeat' (first | (fail_if_success (with_reducible refine xstp ?_)); first | ((with_reducible refine And.intro (fun (hb : _ = true) => ?_) (fun (hb : _ = false) => ?_)) <;> replace hb := xnC hb <;> (try first | exact xfC | exact bff hb (by assumption) | exact bff (by assumption) hb)) | ((fail_if_success (with_reducible first | refine xgon ?_ | intro _)); (conv => whnf); (fail_if_success (fail_if_success (with_reducible first | refine xstp ?_ | refine xgon ?_ | intro _)))))
      refine FinK.mk ⟨[], _, _, .inr ⟨fun h => hq h.2, rfl, rfl⟩, ?_⟩
      (repeat' first | refine And.intro ?_ ?_ | exact xeC | fail)
/-! ### Unmatch -/
def unmE (w : Int) (R : Rd) : Int := if (R.get w).isSome then 0 else 6
def unmR (w : Int) (R : Rd) : Rd := if (R.get w).isSome then ⟨R.l, R.ls, R.M.filter fun e => decide (e.2 ≠ w), R.ck, fun y => if y = w.toNat then none else R.D y⟩ else R
def cntI (k i : Nat) : Nat := if i ≤ k then i else i - 1
theorem cntI_le (k i : Nat) : cntI k i ≤ i := by unfold cntI; split <;> omega
def skipI (k i : Nat) : Nat := if i < k then i else i + 1
theorem skip_cnt {k i : Nat} (h : i ≠ k) : skipI k (cntI k i) = i := by
  unfold skipI cntI
  repeat' split
  all_goals omega
theorem unm_erase {R : Rd} (hR : RdN R) {k : Nat} (hk : k < R.M.length) {w : Int} (hw : (R.M.getD k default).2 = w) : (R.M.filter fun e => decide (e.2 ≠ w)) = R.M.eraseIdx k := by
  have hp := hR.nd
  generalize R.M = M at *
  subst hw
  induction M generalizing k with
  | nil => cases hk
  | cons a M ih =>
    rw [List.map_cons, List.nodup_cons] at hp
    cases k with
    | zero =>
      rw [List.eraseIdx_cons_zero]
      show List.filter (fun e => decide (e.2 ≠ a.2)) (a :: M) = M
      rw [List.filter_cons_of_neg (by simp)]
      refine List.filter_eq_self.2 fun e he => decide_eq_true fun h => hp.1 (h ▸ List.mem_map_of_mem he)
    | succ k =>
      have hk' : k < M.length := by simpa using hk
      rw [List.eraseIdx_cons_succ]
      show List.filter (fun e => decide (e.2 ≠ (M.getD k default).2)) (a :: M) = _
      have hne : ¬ a.2 = (M.getD k default).2 := fun h => hp.1 (by rw [h, getD_at hk']; exact List.mem_map_of_mem (List.getElem_mem hk'))
      rw [List.filter_cons_of_pos (by simpa using hne), ih hk' hp.2]
theorem skip_getD {M : List (Nat × Int)} {k i : Nat} (hi : i < (M.eraseIdx k).length) (hk : k < M.length) : (M.eraseIdx k).getD i default = M.getD (skipI k i) default := by
  unfold skipI
  rw [List.getD_eq_getElem?_getD, List.getD_eq_getElem?_getD, List.getElem?_eraseIdx]
  split <;> rfl
theorem unm_row {F : Nat} {R : Rd} {cf : Nat → Nat} (hR : RdN R) {k : Nat} (hk : k < R.M.length) {w : Int} (hw : (R.M.getD k default).2 = w) (hg : (R.get w).isSome = true) {i : Nat} (hi : i < (unmR w R).M.length) :
    encMt F R cf (skipI k i) = encMt F (unmR w R) cf i := by
  have hM : (unmR w R).M = R.M.eraseIdx k := by unfold unmR; rw [if_pos hg]; exact unm_erase hR hk hw
  rw [hM] at hi
  have hl : (R.M.eraseIdx k).length = R.M.length - 1 := List.length_eraseIdx_of_lt hk
  have hne : (R.M.getD (skipI k i) default).2.toNat ≠ w.toNat := by
    rw [← hw]
    exact wr_ne hR (by unfold skipI; split <;> omega) hk (by unfold skipI; split <;> omega)
  have hD : (unmR w R).D (R.M.getD (skipI k i) default).2.toNat = R.D (R.M.getD (skipI k i) default).2.toNat := by unfold unmR; rw [if_pos hg]; exact if_neg hne
  unfold encMt
  rw [hM, skip_getD hi hk, hD]
theorem unm_len {R : Rd} (hR : RdN R) {k : Nat} (hk : k < R.M.length) {w : Int} (hw : (R.M.getD k default).2 = w) (hg : (R.get w).isSome = true) : (unmR w R).M.length = R.M.length - 1 := by
  have hM : (unmR w R).M = R.M.eraseIdx k := by unfold unmR; rw [if_pos hg]; exact unm_erase hR hk hw
  rw [hM, List.length_eraseIdx_of_lt hk]
set_option maxRecDepth 10000 in
set_option maxHeartbeats 4000000 in
theorem rrunmatch (id : Int) (q : Qos) (R : Rd) (cM n c : Nat) (cf : Nat → Nat) (w : Int) (hR : RdN R) (hl : R.M.length ≤ 1000000) :
    Ctr Try.prog 46 [.c (.p 0 0 0), .c (.i .i64 w)] [.one (rrd 1 2 3 id q R.M.length cM n c), .one .no, .one (mtR 4 R cM cf), .one .no, .one .no]
      fun v h => ∃ c', v = .c (.i .i64 (unmE w R)) ∧ h = [.one (rrd 1 5 3 id q (unmR w R).M.length c' n c), .one .no, .one .no, .one .no, .one .no, .one (mtR 4 (unmR w R) c' cf)] := by
  refine Ctr.mk' tbv mixed Try.func46 rfl rfl rfl (fun _ _ => by kernel_rfl) (by kernel_rfl) (by rfl) (by rfl) (by (repeat' first | refine And.intro ?_ ?_ | exact xeC | fail) <;> exact xmR) ?_
  repeat' (first | (fail_if_success (with_reducible refine xstp ?_)); first | (with_reducible intro hc; (try simp only [capsP, and_true] at hc); (try exact xfC)) | ((fail_if_success (with_reducible first | refine xgon ?_ | intro _)); (conv => whnf); (fail_if_success (fail_if_success (with_reducible first | refine xstp ?_ | refine xgon ?_ | intro _)))))
  refine cH29J2 (σ := [.whole 0, .name 1, .whole 2, .name 3, .name 4]) (nl := []) (rrfind id q R cM n c cf w hR.toRdOk hl) ?_ (hle := by (repeat' first | refine And.intro ?_ ?_ | exact xeC | fail) <;> exact xmR)
  rcases fnd_m hR w with ⟨h1, hn⟩ | ⟨k, m, h1, hk, hw, hD, hm, hw1⟩
  · rw [h1, show idxM none = (-1 : Int) from rfl]
    rintro v h' ⟨rfl, rfl⟩ hcaps
    refine rH29J0 ?_
    rw [mt_fun (G := 4) (fun x => rfl)]
    repeat' (first | (fail_if_success (with_reducible refine xstp ?_)); first | ((with_reducible refine And.intro (fun (hb : _ = true) => ?_) (fun (hb : _ = false) => ?_)) <;> replace hb := xnC hb <;> (try first | exact xfC | exact bff hb (by assumption) | exact bff (by assumption) hb)) | ((fail_if_success (with_reducible first | refine xgon ?_ | intro _)); (conv => whnf); (fail_if_success (fail_if_success (with_reducible first | refine xstp ?_ | refine xgon ?_ | intro _)))))
    have e2 : unmE w R = 6 := by unfold unmE; rw [hn]; rfl
    have e3 : unmR w R = R := by unfold unmR; rw [hn]; rfl
    rw [e2, e3]
    refine FinK.mk ⟨[0, 1, 2, 3, 4, 2], _, _, ⟨cM, rfl, rfl⟩, ?_⟩
    (repeat' first | refine And.intro ?_ ?_ | exact xeC | fail)
    all_goals exact xmR
  have hg : (R.get w).isSome = true := by rw [hm]; rfl
  rw [h1, show idxM (some k) = (k : Nat) from rfl]
  rintro v h' ⟨rfl, rfl⟩ hcaps
  refine rH29J0 ?_
  rw [mt_fun (G := 4) (fun x => rfl)]
  repeat' (first | (fail_if_success (with_reducible refine xstp ?_)); first | ((with_reducible refine And.intro (fun (hb : _ = true) => ?_) (fun (hb : _ = false) => ?_)) <;> replace hb := xnC hb <;> (try first | exact xfC | exact bff hb (by assumption) | exact bff (by assumption) hb)) | ((fail_if_success (with_reducible first | refine xgon ?_ | intro _)); (conv => whnf); (fail_if_success (fail_if_success (with_reducible first | refine xstp ?_ | refine xgon ?_ | intro _)))))
  refine LoopK.mk' ({i : Nat // i ≤ R.M.length} × Nat)
    (fun ⟨⟨i, _⟩, cc⟩ => ⟨[(0, .c (.p 0 0 0)), (5, .c (.i .i64 (k : Nat))), (6, .c (.sl 5 0 5 0 (cntI k i) cc)), (7, .c (.i .i64 (i : Nat)))], [.one (rrd 1 2 3 id q R.M.length cM n c), .one .no, .one (mtR 4 R cM cf), .one .no, .one .no, .one (.row true true 107 5 (cntI k i) cc fun i => encMt 4 R cf (skipI k i))]⟩)
    (fun j => R.M.length - j.1.1)
    ⟨⟨⟨0, Nat.zero_le _⟩, 0⟩, [0, 1, 2, 3, 4, 99], ?_⟩ ?_
  · (repeat' first | refine And.intro ?_ ?_ | exact xeC | fail)
    all_goals exact xmR
  rintro ⟨⟨i, hi⟩, cc⟩
  have e3 : 0 + ((i : Nat) : Int).toNat = i := by omega
  have hN := cntI_le k i
  repeat' (first | (fail_if_success (with_reducible refine xstp ?_)); first | ((with_reducible refine And.intro (fun (hb : _ = true) => ?_) (fun (hb : _ = false) => ?_)) <;> replace hb := xnC hb <;> (try first | exact xfC | exact bff hb (by assumption) | exact bff (by assumption) hb)) | ((with_reducible refine And.intro ?_ ?_); focus exact xoC) | (with_reducible intro hc; (try simp only [capsP, and_true] at hc); (try exact xfC)) | ((fail_if_success (with_reducible first | refine xgon ?_ | intro _)); (conv => whnf); (fail_if_success (fail_if_success (with_reducible first | refine xstp ?_ | refine xgon ?_ | intro _)))))
  · obtain ⟨h2, m2, hm2⟩ := hR.a i (by omega)
    have he : encMt 4 R cf i = _ := mt_at hm2
    unfold mtc5 at he
    rw [e3, he]
    repeat' (first | (fail_if_success (with_reducible refine xstp ?_)); first | ((with_reducible refine And.intro ?_ ?_); focus exact xoC) | ((with_reducible refine Or.inl ⟨?_, ?_, ?_⟩); (focus rfl); focus exact xaC) | (with_reducible intro hc; (try simp only [capsP, and_true] at hc); (try exact xfC)) | ((fail_if_success (with_reducible first | refine xgon ?_ | intro _)); (conv => whnf); (fail_if_success (fail_if_success (with_reducible first | refine xstp ?_ | refine xgon ?_ | intro _)))))
    rename_i c3
    have hne : i ≠ k := by omega
    have e5 : cntI k (i + 1) = cntI k i + 1 := by unfold cntI; repeat' split
                                                  all_goals omega
    refine ⟨⟨⟨i + 1, by omega⟩, c3⟩, [0, 1, 2, 3, 4, 7], by simp only; omega, ?_⟩
    simp only [e5]
    (repeat' first | refine And.intro ?_ ?_ | exact xeC | fail)
    all_goals first | exact xmR | rfl | skip
    intro a ha
    dsimp only
    rw [mt_key (G := 4) (fun x => rfl)]
    unfold appF
    by_cases hlt : a < cntI k i
    · rw [if_pos hlt]
    · rw [if_neg hlt]
      obtain rfl : a = cntI k i := by omega
      rw [skip_cnt hne, he, Nat.sub_self]
      rfl
  · have hne : i = k := by omega
    have e5 : cntI k (i + 1) = cntI k i := by unfold cntI; repeat' split
                                              all_goals omega
    refine ⟨⟨⟨i + 1, by omega⟩, cc⟩, [0, 1, 2, 3, 4, 5], by simp only; omega, ?_⟩
    simp only [e5]
    (repeat' first | refine And.intro ?_ ?_ | exact xeC | fail)
    all_goals first | exact xmR | (intro i hi; exact (mt_key (fun x => rfl) _ _ _).symm) | skip
    all_goals trace_state
  · have hii : i = R.M.length := by omega
    have e2 : unmE w R = 0 := by unfold unmE; rw [if_pos hg]
    have e4 := unm_len hR hk hw hg
    have e5 : cntI k i = (unmR w R).M.length := by rw [e4]; unfold cntI; split <;> omega
    rw [e2]
    refine FinK.mk ⟨[0, 1, 2, 3, 4, 5], _, _, ⟨cc, rfl, rfl⟩, ?_⟩
    (repeat' first | refine And.intro ?_ ?_ | exact xeC | fail)
    all_goals first | exact xmR | exact e5 | exact Nat.le_of_eq e5.symm | (intro i hi; dsimp only; rw [mt_key (fun x => rfl)]; exact unm_row hR hk hw hg hi) | skip
    all_goals trace_state
/-! ### Match -/
theorem slG_upN {R R' : Rd} {cf cf' : Nat → Nat} {w : Nat} {N N' x : Nat} {σ : List Sg} (hD : ∀ y, y ≠ w → R'.D y = R.D y) (hc : ∀ y, y ≠ w → cf' y = cf y) (h : x ≠ w) : (slG R cf x).leK N ((slG R' cf' x).rk σ N') True := by
  have e : slG R' cf' x = slG R cf x := by unfold slG; rw [hD x h, hc x h]
  rw [e]
  exact slG_le
def addM (R : Rd) (w nd : Int) (rel : Bool) : Rd := ⟨R.l, R.ls, R.M ++ [(R.ck, w)], R.ck + 1, fun y => if y = w.toNat then some ⟨nd, 1, rel, [], 0⟩ else R.D y⟩
theorem addM_lt {R : Rd} {w nd : Int} {rel : Bool} {i : Nat} (hi : i < R.M.length) : (addM R w nd rel).M.getD i default = R.M.getD i default := by
  simp [addM, List.getD, List.getElem?_append_left hi]
theorem addM_eq {R : Rd} {w nd : Int} {rel : Bool} : (addM R w nd rel).M.getD R.M.length default = (R.ck, w) := by
  simp [addM, List.getD]
theorem addM_len {R : Rd} {w nd : Int} {rel : Bool} : (addM R w nd rel).M.length = R.M.length + 1 := by simp [addM]
theorem add_row {R : Rd} {cf : Nat → Nat} {w nd : Int} {rel : Bool} {σ : List Sg} {N N' : Nat} {cs : Nat → List C} (hR : RdOk R) (hw : 1 ≤ w) (hno : ∀ i, i < R.M.length → (R.M.getD i default).2 ≠ w)
    (hk : ∀ x, key σ N 6 x = (if x = w.toNat then 99 else 4, if x = w.toNat then 0 else x)) (hN : N' ≤ 99)
    (hcs : ∃ b, cs 0 = [.i .i64 w, .i .i64 nd, b, .i .i64 1, .nils] ∧ (b = .b rel ∨ (b = .ff ∧ rel = false))) (i : Nat) (hi : i < (addM R w nd rel).M.length) :
    appF R.M.length (encMt 4 R cf) 0 cs i = List.map (C.rk σ N) (encMt 6 (addM R w nd rel) (updC cf w 0) i) ∨ eqL N' (appF R.M.length (encMt 4 R cf) 0 cs i) (List.map (C.rk σ N) (encMt 6 (addM R w nd rel) (updC cf w 0) i)) True := by
  rw [addM_len] at hi
  rw [mt_rk]
  unfold appF
  by_cases hlt : i < R.M.length
  · left
    rw [if_pos hlt, addM_lt hlt]
    have h1 := (hR.a i hlt).1
    have hne : (R.M.getD i default).2.toNat ≠ w.toNat := fun e => hno i hlt (by omega)
    have hD : (addM R w nd rel).D (R.M.getD i default).2.toNat = R.D (R.M.getD i default).2.toNat := if_neg hne
    have hc : updC cf w 0 (R.M.getD i default).2.toNat = cf (R.M.getD i default).2.toNat := if_neg hne
    rw [hD, hk, if_neg hne, if_neg hne, hc]
    rfl
  · right
    obtain rfl : i = R.M.length := by omega
    obtain ⟨b, hb, hbr⟩ := hcs
    have hD : (addM R w nd rel).D w.toNat = some ⟨nd, 1, rel, [], 0⟩ := if_pos rfl
    have hc : updC cf w 0 w.toNat = 0 := if_pos rfl
    rw [if_neg hlt, addM_eq, Nat.sub_self, hb, hk]
    simp only [hD, hc, if_true]
    have hle : Nat.ble N' 99 = true := Nat.ble_eq_true_of_le hN
    rcases hbr with rfl | ⟨rfl, h0⟩
    · simp [eqL, C.eqK, sameK, ifB, kNat, hle]
    · simp [eqL, C.eqK, sameK, ifB, kNat, hle, h0]
set_option maxRecDepth 10000 in
set_option maxHeartbeats 8000000 in
theorem rrmatch (id : Int) (q : Qos) (R : Rd) (cM n c : Nat) (cf : Nat → Nat) (w nd : Int) (q2 : Qos) (hR : RdN R) (hl : R.M.length ≤ 1000000) :
    Ctr Try.prog 45 [.c (.p 0 0 0), .c (.i .i64 w), .c (.i .i64 nd), .a (encQ q2)] [.one (rrd 1 2 3 id q R.M.length cM n c), .one .no, .one (mtR 4 R cM cf), .one .no, .many (slG R cf)]
      fun v h => ∃ c' cf', v = .c (.i .i64 (matchE q w nd q2 R)) ∧ h = [.one (rrd 1 5 3 id q (matchR q w nd q2 R).M.length c' n c), .one .no, .one .no, .one .no, .one .no, .one (mtR 6 (matchR q w nd q2 R) c' cf'), .many (slG (matchR q w nd q2 R) cf')] := by
  refine Ctr.mk' tbv mixed Try.func45 rfl rfl rfl (fun _ _ => by kernel_rfl) (by kernel_rfl) (by rfl) (by rfl) (by (repeat' first | refine And.intro ?_ ?_ | exact xeC | fail) <;> exact xmR) ?_
  repeat' (first | (fail_if_success (with_reducible refine xstp ?_)); first | ((with_reducible refine And.intro (fun (hb : _ = true) => ?_) (fun (hb : _ = false) => ?_)) <;> replace hb := xnC hb <;> (try first | exact xfC | exact bff hb (by assumption) | exact bff (by assumption) hb)) | (with_reducible intro hc; (try simp only [capsP, and_true] at hc); (try exact xfC)) | ((fail_if_success (with_reducible first | refine xgon ?_ | intro _)); (conv => whnf); (fail_if_success (fail_if_success (with_reducible first | refine xstp ?_ | refine xgon ?_ | intro _)))))
  all_goals try (
    have e1 : matchE q w nd q2 R = 4 := by
      unfold matchE
      rw [if_pos (by omega)]
    have e2 : matchR q w nd q2 R = R := by unfold matchR; rw [e1]; rfl
    rw [e1, e2]
    refine FinK.mk ⟨[0, 1, 2, 3, 4, 2, 4], _, _, ⟨cM, cf, rfl, rfl⟩, ?_⟩
    (repeat' first | refine And.intro ?_ ?_ | exact xeC | fail)
    all_goals exact xmR
    done)
  have hA : ¬ (w < 1 ∨ nd < 0 ∨ 8 ≤ nd) := by omega
  have hw : 1 ≤ w := by omega
  refine cH29J2 (σ := []) (nl := []) (rcheck q2) ?_
  rintro v h' ⟨rfl, rfl⟩ hcaps
  refine rH29J1 ?_
  repeat' (first | (fail_if_success (with_reducible refine xstp ?_)); first | ((with_reducible refine And.intro (fun (hb : _ = true) => ?_) (fun (hb : _ = false) => ?_)) <;> replace hb := xnC hb <;> (try first | exact xfC | exact bff hb (by assumption) | exact bff (by assumption) hb)) | ((fail_if_success (with_reducible first | refine xgon ?_ | intro _)); (conv => whnf); (fail_if_success (fail_if_success (with_reducible first | refine xstp ?_ | refine xgon ?_ | intro _)))))
  · have hq : ¬ okQ q2 := fun h => hb (if_pos h)
    have e0 : checkI q2 = 4 := if_neg hq
    rw [e0]
    have e1 : matchE q w nd q2 R = 4 := by
      unfold matchE
      rw [if_neg hA, if_pos hq]
    have e2 : matchR q w nd q2 R = R := by unfold matchR; rw [e1]; rfl
    rw [e1, e2]
    refine FinK.mk ⟨[0, 1, 2, 3, 4, 2, 4], _, _, ⟨cM, cf, rfl, rfl⟩, ?_⟩
    (repeat' first | refine And.intro ?_ ?_ | exact xeC | fail)
    all_goals exact xmR
  have hq : okQ q2 := by
    by_cases h : okQ q2
    · exact h
    · exfalso
      rw [show checkI q2 = 4 from if_neg h] at hb
      omega
  refine cH29J2 (σ := []) (nl := []) (rcompat q2 q) ?_
  rintro v h' ⟨rfl, rfl⟩ hcaps
  refine rH29J1 ?_
  repeat' (first | (fail_if_success (with_reducible refine xstp ?_)); first | ((with_reducible refine And.intro (fun (hb : _ = true) => ?_) (fun (hb : _ = false) => ?_)) <;> replace hb := xnC hb <;> (try first | exact xfC | exact bff hb (by assumption) | exact bff (by assumption) hb)) | ((fail_if_success (with_reducible first | refine xgon ?_ | intro _)); (conv => whnf); (fail_if_success (fail_if_success (with_reducible first | refine xstp ?_ | refine xgon ?_ | intro _)))))
  · have e1 : matchE q w nd q2 R = 14 := by
      unfold matchE
      rw [if_neg hA, if_neg (by simpa using hq), if_pos hb]
    have e2 : matchR q w nd q2 R = R := by unfold matchR; rw [e1]; rfl
    rw [e1, e2]
    refine FinK.mk ⟨[0, 1, 2, 3, 4, 2, 4], _, _, ⟨cM, cf, rfl, rfl⟩, ?_⟩
    (repeat' first | refine And.intro ?_ ?_ | exact xeC | fail)
    all_goals exact xmR
  have hv : viol q2 q = 0 := by assumption
  refine cH29J2 (σ := [.whole 0, .name 1, .whole 2, .name 3, .name 4]) (nl := []) (rrfind id q R cM n c cf w hR.toRdOk hl) ?_ (hle := by (repeat' first | refine And.intro ?_ ?_ | exact xeC | fail) <;> exact xmR)
  rcases fnd_m hR w with ⟨h1, hn⟩ | ⟨k, m, h1, hk, hw', hD, hm, hw1⟩
  rotate_left 1
  · rw [h1, show idxM (some k) = (k : Nat) from rfl]
    rintro v h' ⟨rfl, rfl⟩ hcaps
    refine rH29J1 ?_
    rw [mt_fun (G := 4) (fun x => rfl)]
    repeat' (first | (fail_if_success (with_reducible refine xstp ?_)); first | ((with_reducible refine And.intro (fun (hb : _ = true) => ?_) (fun (hb : _ = false) => ?_)) <;> replace hb := xnC hb <;> (try first | exact xfC | exact bff hb (by assumption) | exact bff (by assumption) hb)) | ((fail_if_success (with_reducible first | refine xgon ?_ | intro _)); (conv => whnf); (fail_if_success (fail_if_success (with_reducible first | refine xstp ?_ | refine xgon ?_ | intro _)))))
    have e1 : matchE q w nd q2 R = 7 := by
      unfold matchE
      rw [if_neg hA, if_neg (by simpa using hq), if_neg (by simpa using hv), hm]
      rfl
    have e2 : matchR q w nd q2 R = R := by unfold matchR; rw [e1]; rfl
    rw [e1, e2]
    refine FinK.mk ⟨[0, 1, 2, 3, 4, 2, 4], _, _, ⟨cM, cf, rfl, rfl⟩, ?_⟩
    (repeat' first | refine And.intro ?_ ?_ | exact xeC | fail)
    all_goals exact xmR
  rw [h1, show idxM none = (-1 : Int) from rfl]
  rintro v h' ⟨rfl, rfl⟩ hcaps
  refine rH29J1 ?_
  rw [mt_fun (G := 4) (fun x => rfl)]
  repeat' (first | (fail_if_success (with_reducible refine xstp ?_)); first | ((with_reducible refine And.intro (fun (hb : _ = true) => ?_) (fun (hb : _ = false) => ?_)) <;> replace hb := xnC hb <;> (try first | exact xfC | exact bff hb (by assumption) | exact bff (by assumption) hb)) | ((with_reducible refine And.intro ?_ ?_); focus exact xoC) | ((with_reducible refine Or.inl ⟨?_, ?_, ?_⟩); (focus rfl); focus exact xaC) | (with_reducible intro hc; (try simp only [capsP, and_true] at hc); (try exact xfC)) | ((fail_if_success (with_reducible first | refine xgon ?_ | intro _)); (conv => whnf); (fail_if_success (fail_if_success (with_reducible first | refine xstp ?_ | refine xgon ?_ | intro _)))))
  all_goals (
    have hno : ∀ i, i < R.M.length → (R.M.getD i default).2 ≠ w := fun i hi e => by
      obtain ⟨m', g1, _⟩ := get_yes hR.toRdOk hi e
      rw [hn] at g1
      cases g1
    have e1 : matchE q w nd q2 R = 0 := by
      unfold matchE
      rw [if_neg hA, if_neg (by simpa using hq), if_neg (by simpa using hv), hn]
      rfl
    have e2 : matchR q w nd q2 R = addM R w nd (q2.rel && q.rel) := by unfold matchR; rw [e1]; rfl
    rename_i c2
    rw [e1, e2]
    refine FinK.mk ⟨[0, 1, 2, 3, 4, .adopt 7 1 98, .adopt 4 w.toNat 99], _, _, ⟨c2, updC cf w 0, rfl, rfl⟩, ?_⟩
    (repeat' first | refine And.intro ?_ ?_ | exact xeC | fail)
    all_goals first
      | exact xmR
      | exact addM_len.symm
      | exact Nat.le_of_eq addM_len
      | exact fun i hi => add_row hR.toRdOk hw hno (fun x => rfl) (by simp) ⟨_, rfl, by cases h5 : q2.rel <;> simp_all⟩ i hi
      | exact fun x hx => slG_upN (fun y hy => if_neg hy) (fun y hy => if_neg hy) hx
      | skip
    rw [show slG (addM R w nd (q2.rel && q.rel)) (updC cf w 0) w.toNat = slR [] 0 by unfold slG updC addM; simp only [if_true]]
    refine ⟨rfl, rfl, ?_⟩
    (repeat' first | refine And.intro ?_ ?_ | exact xeC | fail)
    all_goals exact xmR
    skip)
end Go.Proofs.Ytgcofipbdidhmaa


namespace Go.Proofs.Ytgcofipbdidhmaa
open Go.X
set_option linter.unusedVariables false

/-! ### No sample is in a reader twice -/
def KeyN (l : List Smp) : Prop := (l.map keyL).Nodup
theorem key_new {q : Qos} {l : List Smp} {x : Smp} (h : KeyN l) : KeyN (newS q l x) := by
  by_cases he : addE q l x = 0
  · rw [(add_ok he).1]
    have hno : keyL x ∉ l.map keyL := by
      intro hm
      obtain ⟨y, hy, e⟩ := List.mem_map.1 hm
      have e1 : y.w = x.w := congrArg Prod.fst e
      have e2 : y.q = x.q := congrArg Prod.snd e
      have hf : 0 ≤ findI l x.w x.q := by
        unfold findI
        cases hq : l.findIdx? (fun z => z.w == x.w && z.q == x.q) with
        | some i => exact Int.natCast_nonneg i
        | none =>
          rw [List.findIdx?_eq_none_iff] at hq
          have := hq y hy
          simp [e1, e2] at this
      unfold addE at he
      repeat' split at he
      all_goals omega
    unfold addL
    have hsub : ((if oldI q l x.w < 0 then l else l.eraseIdx (oldI q l x.w).toNat).map keyL).Sublist (l.map keyL) := by
      split
      · exact List.Sublist.refl _
      · exact (List.eraseIdx_sublist ..).map _
    unfold KeyN
    rw [List.map_append, List.nodup_append]
    refine ⟨List.Sublist.nodup hsub h, by simp, fun a ha b hb e => ?_⟩
    simp only [List.map_cons, List.map_nil, List.mem_singleton] at hb
    subst e hb
    exact hno (hsub.subset ha)
  · rw [(add_err he).1]; exact h
theorem mv_key {q : Qos} {w : Int} : ∀ (n : Nat) (r : Rs), KeyN r.l → KeyN (mv q w n r).l
  | 0, r, h => h
  | n + 1, r, h => by
    unfold mv
    split
    · exact h
    · refine mv_key n _ ?_
      unfold mvStep
      simp only
      split
      · exact key_new h
      · exact h
theorem fill_l (st : Int) (n : Int) (r : Rs) : ∀ k, (fillW st k n r).l = r.l
  | 0 => rfl
  | k + 1 => by
    rw [fill_succ]
    unfold stepW
    split
    · exact fill_l st n r k
    · exact fill_l st n r k
theorem step_key {q : Qos} {x : Pkt} {m : Mx} {r : Rs} (h : KeyN r.l) : KeyN (stepF q x m r).l := by
  unfold stepF
  split
  · unfold dataF
    split
    · exact h
    · split
      · exact key_new h
      · split
        · exact mv_key _ _ h
        · exact h
  · split
    · unfold gapF
      split
      · exact h
      · split
        · split <;> exact h
        · split
          · exact mv_key _ _ h
          · exact mv_key _ _ (by rw [fill_l]; exact h)
    · unfold hbF
      split
      · exact h
      · split
        · exact mv_key _ _ h
        · exact h
theorem recv_key {q : Qos} {x : Pkt} {R : Rd} (h : KeyN R.l) : KeyN (recvR q x R).l := by
  unfold recvR
  split
  · exact h
  · split
    · exact step_key (r := R.rs _) h
    · exact h
theorem rest_drop {l : List Smp} (h : KeyN l) : ∀ k, k ≤ l.length → restF l k = l.drop k
  | 0, _ => rfl
  | k + 1, hk => by
    rw [rest_succ l (by omega), rest_drop h k (by omega), getD_at (show k < l.length by omega)]
    have hd : l.drop k = l[k] :: l.drop (k + 1) := List.drop_eq_getElem_cons (by omega)
    rw [hd, List.filter_cons_of_neg (by simp [isS])]
    refine List.filter_eq_self.2 fun y hy => ?_
    have hn : ((l.drop k).map keyL).Nodup := by
      rw [List.map_drop]
      exact List.Sublist.nodup (List.drop_sublist _ _) h
    rw [hd, List.map_cons, List.nodup_cons] at hn
    have : ¬ (y.w = l[k].w ∧ y.q = l[k].q) := fun e => hn.1 (List.mem_map.2 ⟨y, hy, by unfold keyL; rw [e.1, e.2]⟩)
    unfold isS
    rw [decide_eq_false this]
    rfl

/-! ### What holds of both readers at all times -/
structure RdP (R : Rd) (B n : Nat) : Prop where
  i : RdI R B
  nd : (R.M.map (·.2)).Nodup
  k : KeyN R.l
  m : R.M.length ≤ n
theorem RdP.rn {R : Rd} {B n : Nat} (h : RdP R B n) : RdN R := ⟨h.i.ok, h.nd⟩
theorem RdP.mono {R : Rd} {B B' n n' : Nat} (h : RdP R B n) (hB : B ≤ B') (hn : n ≤ n') : RdP R B' n' := ⟨⟨h.i.ok, h.i.m, h.i.l, Nat.le_trans h.i.ls hB⟩, h.nd, h.k, Nat.le_trans h.m hn⟩
theorem rp0 : RdP Rd0 0 0 := ⟨⟨rn0.toRdOk, fun x m h => (by cases h), by simp [Rd0], by simp [Rd0]⟩, List.nodup_nil, List.nodup_nil, Nat.le_refl _⟩
theorem recv_M {q : Qos} {x : Pkt} {R : Rd} : (recvR q x R).M = R.M := by
  unfold recvR
  split
  · rfl
  · split <;> rfl
theorem rp_recv {q : Qos} {x : Pkt} {R : Rd} {B n : Nat} (h : RdP R B n) : RdP (recvR q x R) (B + 1000) n :=
  ⟨recv_I h.i, by rw [recv_M]; exact h.nd, recv_key h.k, by rw [recv_M]; exact h.m⟩
theorem rp_take {R : Rd} {B n : Nat} (h : RdP R B n) (k : Nat) : RdP ⟨R.l.drop k, R.ls, R.M, R.ck, R.D⟩ B n :=
  ⟨⟨⟨h.i.ok.a, h.i.ok.b⟩, h.i.m, by have := h.i.l; simp only [List.length_drop]; omega, h.i.ls⟩, h.nd, by unfold KeyN; rw [List.map_drop]; exact List.Sublist.nodup (List.drop_sublist _ _) h.k, h.m⟩
theorem rp_losses {R : Rd} {B n : Nat} (h : RdP R B n) : RdP ⟨R.l, [], R.M, R.ck, R.D⟩ B n :=
  ⟨⟨⟨h.i.ok.a, h.i.ok.b⟩, h.i.m, h.i.l, Nat.zero_le _⟩, h.nd, h.k, h.m⟩
theorem get_D {R : Rd} (h : RdOk R) {w : Int} (hw : 1 ≤ w) (hn : R.get w = none) : ∀ i, i < R.M.length → (R.M.getD i default).2 ≠ w := fun i hi e => by
  obtain ⟨m, h1, _⟩ := get_yes h hi e
  rw [hn] at h1
  cases h1
theorem rp_match {q : Qos} {w nd : Int} {q2 : Qos} {R : Rd} {B n : Nat} (h : RdP R B n) : RdP (matchR q w nd q2 R) B (n + 1) := by
  unfold matchR
  split
  · rename_i he
    have hw : 1 ≤ w := by
      unfold matchE at he
      split at he
      · omega
      · omega
    have hno : ∀ i, i < R.M.length → (R.M.getD i default).2 ≠ w := by
      refine get_D h.i.ok hw ?_
      unfold matchE at he
      repeat' split at he
      all_goals first
        | omega
        | (rename_i h5; simpa using h5)
    have hlt : ∀ i, i < R.M.length → (R.M ++ [(R.ck, w)]).getD i default = R.M.getD i default := fun i hi => by
      simp [List.getD, List.getElem?_append_left hi]
    have heq : (R.M ++ [(R.ck, w)]).getD R.M.length default = (R.ck, w) := by simp [List.getD]
    refine ⟨⟨⟨fun i hi => ?_, fun x m hx => ?_⟩, fun x m hx => ?_, h.i.l, h.i.ls⟩, ?_, h.k, by have := h.m; simp only [List.length_append, List.length_singleton]; omega⟩
    · simp only [List.length_append, List.length_singleton] at hi
      rcases (by omega : i < R.M.length ∨ i = R.M.length) with hi | rfl
      · simp only [hlt i hi]
        obtain ⟨h1, m, h2⟩ := h.i.ok.a i hi
        refine ⟨h1, m, ?_⟩
        rw [if_neg (fun e => hno i hi (by omega)), h2]
      · simp only [heq]
        exact ⟨hw, ⟨nd, 1, q2.rel && q.rel, [], 0⟩, by simp⟩
    · simp only at hx
      split at hx
      · rename_i e
        exact ⟨R.M.length, by simp, by rw [heq]; simp only; omega, by omega⟩
      · obtain ⟨i, hi, e1, e2⟩ := h.i.ok.b x m hx
        exact ⟨i, by simp; omega, by rw [hlt i hi]; exact e1, e2⟩
    · simp only at hx
      split at hx
      · cases hx
        exact ⟨nil_ok _, Int.le_refl _, by simp only; omega, fun _ => rfl⟩
      · exact h.i.m x m hx
    · rw [List.map_append, List.nodup_append]
      refine ⟨h.nd, by simp, fun a ha b hb e => ?_⟩
      simp only [List.map_cons, List.map_nil, List.mem_singleton] at hb
      subst e hb
      obtain ⟨y, hy, e⟩ := List.mem_map.1 ha
      obtain ⟨i, hi, rfl⟩ := List.mem_iff_getElem.1 hy
      exact hno i hi (by rw [getD_at hi]; exact e)
  · exact h.mono (Nat.le_refl _) (Nat.le_succ _)
theorem unm_get {R : Rd} {w : Int} (hg : (R.get w).isSome = true) : 1 ≤ w := by
  unfold Rd.get at hg
  split at hg
  · assumption
  · cases hg
theorem rp_unm {w : Int} {R : Rd} {B n : Nat} (h : RdP R B n) : RdP (unmR w R) B n := by
  unfold unmR
  split
  · rename_i hg
    have hw := unm_get hg
    have hmem : ∀ e ∈ R.M.filter (fun e => decide (e.2 ≠ w)), e ∈ R.M ∧ e.2 ≠ w := fun e he => by
      obtain ⟨h1, h2⟩ := List.mem_filter.1 he
      exact ⟨h1, of_decide_eq_true h2⟩
    refine ⟨⟨⟨fun i hi => ?_, fun x m hx => ?_⟩, fun x m hx => ?_, h.i.l, h.i.ls⟩, List.Sublist.nodup ((List.filter_sublist).map _) h.nd, h.k, Nat.le_trans (List.length_filter_le _ _) h.m⟩
    · simp only at hi
      simp only [getD_at hi]
      obtain ⟨h1, h2⟩ := hmem _ (List.getElem_mem hi)
      obtain ⟨j, hj, e⟩ := List.mem_iff_getElem.1 h1
      obtain ⟨h3, m, h4⟩ := h.i.ok.a j hj
      rw [getD_at hj, e] at h3 h4
      refine ⟨h3, m, ?_⟩
      rw [if_neg (fun q => h2 (by omega)), h4]
    · simp only at hx
      split at hx
      · cases hx
      · rename_i hne
        obtain ⟨i, hi, e1, e2⟩ := h.i.ok.b x m hx
        have hm : R.M.getD i default ∈ R.M.filter (fun e => decide (e.2 ≠ w)) := List.mem_filter.2 ⟨by rw [getD_at hi]; exact List.getElem_mem hi, decide_eq_true fun q => hne (by omega)⟩
        obtain ⟨j, hj, e⟩ := List.mem_iff_getElem.1 hm
        exact ⟨j, hj, by rw [getD_at hj, e]; exact e1, e2⟩
    · simp only at hx
      split at hx
      · cases hx
      · exact h.i.m x m hx
  · exact h
end Go.Proofs.Ytgcofipbdidhmaa


namespace Go.Proofs.Ytgcofipbdidhmaa
open Go.X
set_option linter.unusedSimpArgs false
set_option linter.unusedVariables false
theorem mts_unm {fw N N' : Nat} {σ : List Sg} {R : Rd} {w : Int} (hk : ∀ x, key σ N' fw x = (fw, x)) (x : Nat) : (mtO fw x (R.D x)).leK N ((mtO fw x ((unmR w R).D x)).rk σ N') True := by
  unfold unmR
  split
  · show Ck.leK _ _ (Ck.rk _ _ (mtO fw x (if _ then _ else _))) True
    split
    · trivial
    · exact mtO_le (hk _)
  · exact mtO_le (hk _)
theorem wins_unm {N N' : Nat} {σ : List Sg} {R : Rd} {w : Int} (x : Nat) : (winO (R.D x)).leK N ((winO ((unmR w R).D x)).rk σ N') True := by
  unfold unmR
  split
  · show Ck.leK _ _ (Ck.rk _ _ (winO (if _ then _ else _))) True
    split
    · trivial
    · exact winO_le
  · exact winO_le
theorem slG_unm {N N' : Nat} {σ : List Sg} {R : Rd} {cf : Nat → Nat} {w : Int} (x : Nat) : (slG R cf x).leK N ((slG (unmR w R) cf x).rk σ N') True := by
  by_cases h : (unmR w R).D x = R.D x
  · have e : slG (unmR w R) cf x = slG R cf x := by unfold slG; rw [h]
    rw [e]
    exact slG_le
  · have h2 : (unmR w R).D x = none := by
      unfold unmR at h ⊢
      split at h
      · rw [if_pos (by assumption)]
        simp only at h ⊢
        split at h
        · rw [if_pos (by assumption)]
        · exact absurd rfl h
      · exact absurd rfl h
    have e : slG (unmR w R) cf x = .no := by unfold slG; rw [h2]
    rw [e]
    trivial
set_option maxRecDepth 10000 in
set_option maxHeartbeats 4000000 in
theorem cunmatch (id : Int) (q : Qos) (R : Rd) (n c : Nat) (w : Int) (hR : RdN R) :
    Ctr Try.prog 31 [.c (.p 0 0 0), .c (.i .i64 w)] [.one (rdr 1 2 3 id q n c), .one .no, .one (mapM 4 R.M R.ck), .one .no, mts 5 R.D, .one .no]
      fun v h => v = .c (.i .i64 (unmE w R)) ∧ h = [.one (rdr 1 2 3 id q n c), .one .no, .one (mapM 4 (unmR w R).M (unmR w R).ck), .one .no, mts 5 (unmR w R).D, .one .no] := by
  refine Ctr.mk' tbv mixed Try.func31 rfl rfl rfl (fun _ _ => by kernel_rfl) (by kernel_rfl) (by rfl) (by rfl) (by (repeat' first | refine And.intro ?_ ?_ | exact xeC | fail) <;> exact fun x => mtO_bel rfl) ?_
  repeat' (first | (fail_if_success (with_reducible refine xstp ?_)); first | (with_reducible refine Both.mk ?_ ?_) | ((with_reducible refine And.intro ?_ ?_); focus exact xoC) | (with_reducible intro hc; (try simp only [capsP, and_true] at hc); (try exact xfC)) | ((fail_if_success (with_reducible first | refine xgon ?_ | intro _)); (conv => whnf); (fail_if_success (fail_if_success (with_reducible first | refine xstp ?_ | refine Both.mk ?_ ?_ | refine xgon ?_ | intro _)))))
  · rename_i a ha hak k hk
    have hw : (R.M.getD k default).2 = w := Key.i.inj hc
    obtain ⟨m, hm, hD, h1⟩ := get_yes hR.toRdOk hk hw
    have hg : (R.get w).isSome = true := by rw [hm]; rfl
    have e2 : unmE w R = 0 := by unfold unmE; rw [if_pos hg]
    have eM : (unmR w R).M = R.M.eraseIdx k := by unfold unmR; rw [if_pos hg]; exact unm_erase hR hk hw
    have eck : (unmR w R).ck = R.ck := by unfold unmR; rw [if_pos hg]
    have el : (R.M.eraseIdx k).length = R.M.length - 1 := List.length_eraseIdx_of_lt hk
    rw [e2, eM, eck]
    refine FinK.mk ⟨[0, 1, 2, 3, 4, 5], _, _, ⟨rfl, rfl⟩, ?_⟩
    (repeat' first | refine And.intro ?_ ?_ | exact xeC | fail)
    all_goals first
      | exact el.symm
      | exact fun x => mts_unm (fun _ => rfl) x
      | exact fun x => mtO_bel rfl
      | (intro j hj
         dsimp only
         rw [skip_getD hj hk]
         unfold skipI
         split <;> rfl)
      | skip
    all_goals trace_state
  · exact absurd (by assumption) (hc _ (by assumption))
  · have hn := get_no hR.toRdOk (w := w) fun i hi h => hc i hi (by rw [h])
    have e2 : unmE w R = 6 := by unfold unmE; rw [hn]; rfl
    have e3 : unmR w R = R := by unfold unmR; rw [hn]; rfl
    rw [e2, e3]
    refine FinK.mk ⟨[0, 1, 2, 3, 4, 5], _, _, ⟨rfl, rfl⟩, ?_⟩
    (repeat' first | refine And.intro ?_ ?_ | exact xeC | fail)
    all_goals (first | exact fun _ => trivial | exact fun x => mtO_le rfl | exact fun x => winO_le | exact fun x => mtO_bel rfl | exact fun x => winO_bel | exact fun x => mtR_bel rfl rfl | exact fun x => winR_bel)
end Go.Proofs.Ytgcofipbdidhmaa


namespace Go.Proofs.Ytgcofipbdidhmaa
open Go.X
set_option linter.unusedSimpArgs false
set_option linter.unusedVariables false
abbrev playB (id : Int) (q : Qos) (R : Rd) (c cl cM c2 cl2 : Nat) (cf : Nat → Nat) : List Fam :=
  [.one (rdr 1 2 3 id q R.ls.length cl), .one (hist 4 q R.l.length c), .one (mapM 5 R.M R.ck), .one (lss true R.ls cl), .one (smps true R.l c), mts 6 R.D, wins R.D,
   .one (rrd 8 9 10 id q R.M.length cM R.ls.length cl2), .one (hist 11 q R.l.length c2), .one (mtR 12 R cM cf), .one (lsr true R.ls cl2), .one (smps true R.l c2), .many (slG R cf), .one .no]
abbrev playE (id : Int) (q : Qos) (R : Rd) (c cl cM c2 cl2 : Nat) (cf : Nat → Nat) : List Fam :=
  [.one (rdr 1 2 14 id q R.ls.length cl), .one (hist 15 q R.l.length c), .one (mapM 16 R.M R.ck), .one .no, .one .no, .one .no, .one .no,
   .one (rrd 8 18 19 id q R.M.length cM R.ls.length cl2), .one (hist 20 q R.l.length c2), .one .no, .one .no, .one .no, .one .no, .one .no,
   .one (lss true R.ls cl), .one (smps true R.l c), mts 17 R.D, wins R.D, .one (mtR 21 R cM cf), .one (lsr true R.ls cl2), .one (smps true R.l c2), .many (slG R cf)]
/-- What a call makes of a reader. -/
def playR (q : Qos) (x : Cl) (R : Rd) : Rd :=
  if x.k = 0 then matchR q x.n x.m x.q R else if x.k = 1 then unmR x.n R
  else if x.k = 2 then ⟨R.l.drop (tkN R.l x.m), R.ls, R.M, R.ck, R.D⟩
  else if x.k = 3 then ⟨R.l, [], R.M, R.ck, R.D⟩ else recvR q x.p R
theorem okQ_kd {q : Qos} (h : okQ q) : q.keep = true ∨ 1 ≤ q.depth := by
  cases hk : q.keep with
  | true => exact .inl rfl
  | false => exact .inr (h.2.2.2.2 hk).1
theorem ackL_le (id : Int) (q : Qos) (x : Pkt) (at' : Int) (R : Rd) : (ackL (recvA id q x at' R)).length ≤ 1000000 := by
  have h32 : ∀ r la, (missF r la).length ≤ 32 := fun r la => by unfold missF; rw [List.length_take]; omega
  unfold recvA
  split
  · exact Nat.zero_le _
  · split
    · exact Nat.le_trans (h32 _ _) (by omega)
    · exact Nat.zero_le _
theorem rH29N0 {σ : List Sg} {H h' : List Fam} {v : T} {K : T → List Fam → Prop} {H' : List Fam} {v' : T} {N : Nat} (hk : K v' H') (hN : H.length = N := by (try simp only [↓List.length_cons, ↓List.length_nil, Nat.reduceAdd]) <;> rfl) (h : givesF σ N H σ h' = some H' := by (try simp (maxSteps := 1000000) only [givesF, setF, updF, Fam.zeroth, Fam.rk, Ck.rk, C.rk, E.rk, T.rk, key, List.map_cons, List.map_nil, List.cons_append, List.nil_append, List.length_cons, List.length_nil, Option.map_some, Option.bind_some, Nat.reduceAdd, Nat.zero_add, Nat.add_zero, Nat.add_sub_cancel_left, Int.toNat_natCast, reps, List.all_cons, List.all_nil, C.flat, List.append_eq, Bool.not_true, Bool.and_true, Bool.or_false, Bool.or_self, Bool.not_false, List.append_nil, Bool.and_self, ↓slG_rk, ↓mtG_rk, ↓winO_rk, encCl, encP, encQ]) <;> rfl) (hv : v.rk σ N = v' := by (try simp only [givesF, setF, updF, Fam.zeroth, Fam.rk, Ck.rk, C.rk, E.rk, T.rk, key, List.map_cons, List.map_nil, List.cons_append, List.nil_append, List.length_cons, List.length_nil, Option.map_some, Option.bind_some, Nat.reduceAdd, Nat.zero_add, Nat.add_zero, Nat.add_sub_cancel_left, Int.toNat_natCast, reps, List.all_cons, List.all_nil, C.flat, List.append_eq, Bool.not_true, Bool.and_true, Bool.or_false, Bool.or_self, Bool.not_false, List.append_nil, Bool.and_self, ↓slG_rk, ↓mtG_rk, ↓winO_rk, encCl, encP, encQ]) <;> rfl) : RetG σ H h' v K := ret_mk3 hN h hv hk
theorem cH29N1 {P : Program} {F : Nat} {args : List T} {H : List Fam} {K : T → List Fam → Prop} {σ : List Sg} {nl : List Fam} {args0 : List T} {h0 : List Fam} {Q : T → List Fam → Prop} {H2 H1 : List Fam} {N n : Nat} (hc : Ctr P F args0 h0 Q) (hk : ∀ v h', Q v h' → capsP h' → RetG σ H2 h' v K) (hap : apart σ = true := by rfl) (hnl : nl.all nilB = true := by rfl) (h1 : H ++ nl = H1 := by first | exact List.append_nil _ | ((try simp only [List.cons_append, List.nil_append]) <;> rfl)) (hN : H1.length = N := by (try simp only [↓List.length_cons, ↓List.length_nil, Nat.reduceAdd]) <;> rfl) (hn : H.length = n := by (try simp only [↓List.length_cons, ↓List.length_nil, Nat.reduceAdd]) <;> rfl) (hH : givesF σ N H1 σ h0 = some H2 := by (try simp (maxSteps := 1000000) only [givesF, setF, updF, Fam.zeroth, Fam.rk, Ck.rk, C.rk, E.rk, T.rk, key, List.map_cons, List.map_nil, List.cons_append, List.nil_append, List.length_cons, List.length_nil, Option.map_some, Option.bind_some, Nat.reduceAdd, Nat.zero_add, Nat.add_zero, Nat.add_sub_cancel_left, Int.toNat_natCast, reps, List.all_cons, List.all_nil, C.flat, List.append_eq, Bool.not_true, Bool.and_true, Bool.or_false, Bool.or_self, Bool.not_false, List.append_nil, Bool.and_self, ↓slG_rk, ↓mtG_rk, ↓winO_rk]) <;> rfl) (hle : leS n H1 σ N σ h0 (belsK N (h0.map (Fam.rk σ N)) (argsK n args (args0.map (T.rk σ N)) True)) := by repeat' first | refine And.intro ?_ ?_ | exact xeC | fail) : CallK P F args H K := CallK.mk3 hc hap hnl h1 hN hn hH hle hk
set_option maxRecDepth 10000 in
set_option maxHeartbeats 16000000 in
theorem cplay (id : Int) (q : Qos) (R : Rd) (c cl cM c2 cl2 : Nat) (cf : Nat → Nat) (x : Cl) (B n : Nat) (hR : RdP R B n) (hB : B ≤ 500000) (hn : n ≤ 1000) (hq : okQ q) (xm : Nat := 0) :
    Ctr Try.prog 28 [.c (.p 0 0 0), .c (.p 7 0 0), .a (encCl (.sl 13 xm 1 0 x.nm x.cm) x)] (playB id q R c cl cM c2 cl2 cf)
      fun v h => ∃ c cl cM c2 cl2 cf, v = .c .tt ∧ h = playE id q (playR q x R) c cl cM c2 cl2 cf := by
  have hl : R.M.length ≤ 1000000 := Nat.le_trans hR.m (by omega)
  refine Ctr.mk' tbv mixed Try.func28 rfl rfl rfl (fun _ _ => by kernel_rfl) (by kernel_rfl) (by rfl) (by rfl) (by (repeat' first | refine And.intro ?_ ?_ | exact xeC | fail) <;> first | exact fun x => mtO_bel rfl | exact fun x => winO_bel | exact xmR) ?_
  repeat' (first | (fail_if_success (with_reducible refine xstp ?_)); first | ((with_reducible refine And.intro (fun (hb : _ = true) => ?_) (fun (hb : _ = false) => ?_)) <;> replace hb := xnC hb <;> (try first | exact xfC | exact bff hb (by assumption) | exact bff (by assumption) hb)) | (with_reducible intro hc; (try simp only [capsP, and_true] at hc); (try exact xfC)) | ((fail_if_success (with_reducible first | refine xgon ?_ | intro _)); (conv => whnf); (fail_if_success (fail_if_success (with_reducible first | refine xstp ?_ | refine xgon ?_ | intro _)))))
  · have eP : playR q x R = matchR q x.n x.m x.q R := if_pos hb
    have e1 : (matchR q x.n x.m x.q R).l = R.l := by unfold matchR; split <;> rfl
    have e2 : (matchR q x.n x.m x.q R).ls = R.ls := by unfold matchR; split <;> rfl
    refine cH29N1 (σ := [.whole 0, .name 1, .whole 2, .name 3, .whole 5, .whole 6]) (nl := []) (cmatch id q R 0 cl 0 0 x.n x.m x.q hR.i.ok) ?_ (hle := by (repeat' first | refine And.intro ?_ ?_ | exact xeC | fail) <;> (first | exact fun _ => trivial | exact fun x => mtO_le rfl | exact fun x => winO_le | exact fun x => mtO_bel rfl | exact fun x => winO_bel | exact fun x => mtR_bel rfl rfl | exact fun x => winR_bel))
    rintro v h' ⟨rfl, rfl⟩ hcaps
    refine rH29N0 ?_
    repeat' (first | (fail_if_success (with_reducible refine xstp ?_)); first | ((with_reducible refine And.intro ?_ ?_); focus exact xoC) | ((fail_if_success (with_reducible first | refine xgon ?_ | intro _)); (conv => whnf); (fail_if_success (fail_if_success (with_reducible first | refine xstp ?_ | refine xgon ?_ | intro _)))))
    refine cH29N1 (σ := [.whole 7, .name 8, .whole 9, .name 10, .whole 12]) (nl := []) (rrmatch id q R cM R.ls.length cl2 cf x.n x.m x.q hR.rn hl) ?_ (hle := by (repeat' first | refine And.intro ?_ ?_ | exact xeC | fail) <;> exact xmR)
    rintro v h' ⟨cM', cf', rfl, rfl⟩ hcaps
    refine rH29N0 ?_
    repeat' (first | (fail_if_success (with_reducible refine xstp ?_)); first | ((fail_if_success (with_reducible first | refine xgon ?_ | intro _)); (conv => whnf); (fail_if_success (fail_if_success (with_reducible first | refine xstp ?_ | refine xgon ?_ | intro _)))))
    rw [eP]
    refine FinK.mk ⟨[0, 1, 2, 3, 4, 5, 6, 7, 8, 9, 10, 11, 12, 13, 3, 4, 15, 16, 17, 10, 11, 18], _, _, ⟨c, cl, cM', c2, cl2, cf', rfl, rfl⟩, ?_⟩
    unfold playE
    rw [e1, e2]
    (repeat' first | refine And.intro ?_ ?_ | exact xeC | fail)
    all_goals first | exact xmR | (first | exact fun _ => trivial | exact fun x => mtO_le rfl | exact fun x => winO_le | exact fun x => mtO_bel rfl | exact fun x => winO_bel | exact fun x => mtR_bel rfl rfl | exact fun x => winR_bel) | exact decide_eq_true rfl | (intro i hi; dsimp only; rw [mt_key (G := 18) (fun x => rfl), mt_key (G := 18) (fun x => rfl)]) | skip
    all_goals trace_state
  · have eP : playR q x R = unmR x.n R := by unfold playR; rw [if_neg (by assumption), if_pos hb]
    have e1 : (unmR x.n R).l = R.l := by unfold unmR; split <;> rfl
    have e2 : (unmR x.n R).ls = R.ls := by unfold unmR; split <;> rfl
    refine cH29N1 (σ := [.whole 0, .name 1, .whole 2, .name 3, .whole 5, .name 6]) (nl := []) (cunmatch id q R R.ls.length cl x.n hR.rn) ?_ (hle := by (repeat' first | refine And.intro ?_ ?_ | exact xeC | fail) <;> (first | exact fun _ => trivial | exact fun x => mtO_le rfl | exact fun x => winO_le | exact fun x => mtO_bel rfl | exact fun x => winO_bel | exact fun x => mtR_bel rfl rfl | exact fun x => winR_bel))
    rintro v h' ⟨rfl, rfl⟩ hcaps
    refine rH29N0 ?_
    repeat' (first | (fail_if_success (with_reducible refine xstp ?_)); first | ((with_reducible refine And.intro ?_ ?_); focus exact xoC) | ((fail_if_success (with_reducible first | refine xgon ?_ | intro _)); (conv => whnf); (fail_if_success (fail_if_success (with_reducible first | refine xstp ?_ | refine xgon ?_ | intro _)))))
    refine cH29N1 (σ := [.whole 7, .name 8, .whole 9, .name 10, .name 12]) (nl := []) (rrunmatch id q R cM R.ls.length cl2 cf x.n hR.rn hl) ?_ (hle := by (repeat' first | refine And.intro ?_ ?_ | exact xeC | fail) <;> exact xmR)
    rintro v h' ⟨cM', rfl, rfl⟩ hcaps
    refine rH29N0 ?_
    repeat' (first | (fail_if_success (with_reducible refine xstp ?_)); first | ((fail_if_success (with_reducible first | refine xgon ?_ | intro _)); (conv => whnf); (fail_if_success (fail_if_success (with_reducible first | refine xstp ?_ | refine xgon ?_ | intro _)))))
    rw [eP]
    refine FinK.mk ⟨[0, 1, 2, 3, 4, 5, 6, 7, 8, 9, 10, 11, 12, 13, 3, 4, 5, 6, 15, 10, 11, 12], _, _, ⟨c, cl, cM', c2, cl2, cf, rfl, rfl⟩, ?_⟩
    unfold playE
    rw [e1, e2]
    (repeat' first | refine And.intro ?_ ?_ | exact xeC | fail)
    all_goals first | exact xmR | (first | exact fun _ => trivial | exact fun x => mtO_le rfl | exact fun x => winO_le | exact fun x => mtO_bel rfl | exact fun x => winO_bel | exact fun x => mtR_bel rfl rfl | exact fun x => winR_bel) | exact decide_eq_true rfl | exact fun x => wins_unm x | exact fun x => slG_unm x | exact fun x => mts_unm (fun _ => rfl) x | (intro i hi; dsimp only; rw [mt_key (G := 12) (fun x => rfl), mt_key (G := 12) (fun x => rfl)]) | skip
    all_goals trace_state
  · have eP : playR q x R = ⟨R.l.drop (tkN R.l x.m), R.ls, R.M, R.ck, R.D⟩ := by unfold playR; rw [if_neg (by assumption), if_neg (by assumption), if_pos hb]
    have hll := hR.i.l
    have hK : tkN R.l x.m ≤ R.l.length := by unfold tkN; omega
    refine cH29N1 (σ := [.whole 0, .whole 1, .name 2, .name 3, .whole 4]) (nl := []) (ctake id q R.l R.ls.length c cl x.n x.m (by omega)) ?_
    rw [rest_drop hR.k _ hK]
    rintro v h' ⟨c', co, rfl, rfl⟩ hcaps
    refine rH29N0 ?_
    repeat' (first | (fail_if_success (with_reducible refine xstp ?_)); first | ((with_reducible refine And.intro ?_ ?_); focus exact xoC) | ((fail_if_success (with_reducible first | refine xgon ?_ | intro _)); (conv => whnf); (fail_if_success (fail_if_success (with_reducible first | refine xstp ?_ | refine xgon ?_ | intro _)))))
    refine cH29N1 (σ := [.whole 7, .whole 8, .name 9, .name 10, .whole 11]) (nl := []) (rrtake id q R.l R.M.length cM R.ls.length c2 cl2 x.n x.m (by omega)) ?_
    rintro v h' ⟨co2, c2', rfl, rfl⟩ hcaps
    refine rH29N0 ?_
    repeat' (first | (fail_if_success (with_reducible refine xstp ?_)); first | ((fail_if_success (with_reducible first | refine xgon ?_ | intro _)); (conv => whnf); (fail_if_success (fail_if_success (with_reducible first | refine xstp ?_ | refine xgon ?_ | intro _)))))
    have hlt : (R.l.take (tkN R.l x.m)).length ≤ 1000000 := by rw [List.length_take]; omega
    refine cH29N1 (σ := [.whole 16, .whole 17]) (nl := []) (csameS co co2 true true (R.l.take (tkN R.l x.m)) (R.l.take (tkN R.l x.m)) hlt) ?_
    rintro v h' ⟨rfl, rfl⟩ hcaps
    refine rH29N0 ?_
    repeat' (first | (fail_if_success (with_reducible refine xstp ?_)); first | ((fail_if_success (with_reducible first | refine xgon ?_ | intro _)); (conv => whnf); (fail_if_success (fail_if_success (with_reducible first | refine xstp ?_ | refine xgon ?_ | intro _)))))
    rw [eP]
    refine FinK.mk ⟨[0, 1, 2, 3, 4, 5, 6, 7, 8, 9, 10, 11, 12, 13, 3, 15, 5, 6, 9, 10, 18, 12], _, _, ⟨c', cl, cM, c2', cl2, cf, rfl, rfl⟩, ?_⟩
    (repeat' first | refine And.intro ?_ ?_ | exact xeC | fail)
    all_goals first | exact xmR | (first | exact fun _ => trivial | exact fun x => mtO_le rfl | exact fun x => winO_le | exact fun x => mtO_bel rfl | exact fun x => winO_bel | exact fun x => mtR_bel rfl rfl | exact fun x => winR_bel) | exact decide_eq_true rfl | exact fun x => wins_unm x | exact fun x => slG_unm x | skip
    all_goals trace_state
  · have eP : playR q x R = ⟨R.l, [], R.M, R.ck, R.D⟩ := by unfold playR; rw [if_neg (by assumption), if_neg (by assumption), if_neg (by assumption), if_pos hb]
    have hlsl := hR.i.ls
    refine cH29N1 (σ := [.whole 0, .name 1, .name 2, .whole 3]) (nl := []) (closses id q R.ls cl (by omega)) ?_
    rintro v h' ⟨c3, rfl, rfl⟩ hcaps
    refine rH29N0 ?_
    repeat' (first | (fail_if_success (with_reducible refine xstp ?_)); first | ((fail_if_success (with_reducible first | refine xgon ?_ | intro _)); (conv => whnf); (fail_if_success (fail_if_success (with_reducible first | refine xstp ?_ | refine xgon ?_ | intro _)))))
    refine cH29N1 (σ := [.whole 16]) (nl := []) (cplain true R.ls c3 (by omega)) ?_
    rintro v h' ⟨c4, rfl, rfl⟩ hcaps
    refine rH29N0 ?_
    repeat' (first | (fail_if_success (with_reducible refine xstp ?_)); first | ((fail_if_success (with_reducible first | refine xgon ?_ | intro _)); (conv => whnf); (fail_if_success (fail_if_success (with_reducible first | refine xstp ?_ | refine xgon ?_ | intro _)))))
    refine cH29N1 (σ := [.whole 7, .name 8, .name 9, .whole 10]) (nl := []) (rrlosses id q R.M.length cM R.ls cl2) ?_
    rintro v h' ⟨rfl, rfl⟩ hcaps
    refine rH29N0 ?_
    repeat' (first | (fail_if_success (with_reducible refine xstp ?_)); first | ((fail_if_success (with_reducible first | refine xgon ?_ | intro _)); (conv => whnf); (fail_if_success (fail_if_success (with_reducible first | refine xstp ?_ | refine xgon ?_ | intro _)))))
    refine cH29N1 (σ := [.whole 17, .whole 18]) (nl := []) (csameL c4 cl2 true true R.ls R.ls (by omega)) ?_
    rintro v h' ⟨rfl, rfl⟩ hcaps
    refine rH29N0 ?_
    repeat' (first | (fail_if_success (with_reducible refine xstp ?_)); first | ((fail_if_success (with_reducible first | refine xgon ?_ | intro _)); (conv => whnf); (fail_if_success (fail_if_success (with_reducible first | refine xstp ?_ | refine xgon ?_ | intro _)))))
    rw [eP]
    refine FinK.mk ⟨[0, 1, 2, 3, 4, 5, 6, 7, 8, 9, 10, 11, 12, 13, 15, 4, 5, 6, 9, 19, 11, 12], _, _, ⟨c, 0, cM, c2, 0, cf, rfl, rfl⟩, ?_⟩
    (repeat' first | refine And.intro ?_ ?_ | exact xeC | fail)
    all_goals first | exact xmR | (first | exact fun _ => trivial | exact fun x => mtO_le rfl | exact fun x => winO_le | exact fun x => mtO_bel rfl | exact fun x => winO_bel | exact fun x => mtR_bel rfl rfl | exact fun x => winR_bel) | exact decide_eq_true rfl | exact fun x => wins_unm x | exact fun x => slG_unm x | skip
    all_goals trace_state
  · have eP : playR q x R = recvR q x.p R := by unfold playR; rw [if_neg (by assumption), if_neg (by assumption), if_neg (by assumption), if_neg hb]
    have hall := hR.i.all (Nat.le_trans hB (by omega))
    have hq2 : q.keep = true ∨ 1 ≤ q.depth := okQ_kd hq
    refine cH29N1 (σ := [.whole 0, .whole 1, .whole 2, .whole 3, .whole 4, .whole 5, .whole 6, .name 13]) (nl := []) (crecv id q R c cl x.nm x.cm x.p x.n hR.i.ok hall xm) ?_ (hle := by (repeat' first | refine And.intro ?_ ?_ | exact xeC | fail) <;> (first | exact fun _ => trivial | exact fun x => mtO_le rfl | exact fun x => winO_le | exact fun x => mtO_bel rfl | exact fun x => winO_bel | exact fun x => mtR_bel rfl rfl | exact fun x => winR_bel))
    rintro v h' ⟨c3, cl3, cm3, cp3, rfl, rfl⟩ hcaps
    refine rH29N0 ?_
    repeat' (first | (fail_if_success (with_reducible refine xstp ?_)); first | ((fail_if_success (with_reducible first | refine xgon ?_ | intro _)); (conv => whnf); (fail_if_success (fail_if_success (with_reducible first | refine xstp ?_ | refine xgon ?_ | intro _)))))
    refine cH29N1 (σ := [.whole 7, .whole 8, .whole 9, .whole 10, .whole 11, .whole 12, .name 13]) (nl := []) (rrrecv id q R cM c2 cl2 cf x.p x.nm x.cm x.n hR.rn hall hq2 hl xm) ?_ (hle := by (repeat' first | refine And.intro ?_ ?_ | exact xeC | fail) <;> exact xmR)
    rintro v h' ⟨c4, cl4, cf4, cm4, cp4, rfl, rfl⟩ hcaps
    refine rH29N0 ?_
    rw [mt_fun (G := 21) (fun x => rfl)]
    repeat' (first | (fail_if_success (with_reducible refine xstp ?_)); first | ((fail_if_success (with_reducible first | refine xgon ?_ | intro _)); (conv => whnf); (fail_if_success (fail_if_success (with_reducible first | refine xstp ?_ | refine xgon ?_ | intro _)))))
    have hR2 := rp_recv (q := q) (x := x.p) hR
    have hl2 : (recvR q x.p R).M.length ≤ 1000000 := Nat.le_trans hR2.m (by omega)
    refine cH29N1 (σ := [.whole 18, .whole 17, .whole 23, .whole 22]) (nl := []) (csamePs cp3 cp4 cm3 cm4 true true true true (recvA id q x.p x.n R) (recvA id q x.p x.n R) (ackL_le id q x.p x.n R)) ?_ (hle := by (repeat' first | refine And.intro ?_ ?_ | exact xeC | fail) <;> (first | exact xmR | skip))
    rintro v h' ⟨rfl, rfl⟩ hcaps
    rw [show sameA (recvA id q x.p x.n R) (recvA id q x.p x.n R) = true from decide_eq_true rfl]
    refine rH29N0 ?_
    repeat' (first | (fail_if_success (with_reducible refine xstp ?_)); first | ((with_reducible refine And.intro (fun (hb : _ = true) => ?_) (fun (hb : _ = false) => ?_)) <;> replace hb := xnC hb <;> (try first | exact xfC | exact bff hb (by assumption) | exact bff (by assumption) hb)) | ((fail_if_success (with_reducible first | refine xgon ?_ | intro _)); (conv => whnf); (fail_if_success (fail_if_success (with_reducible first | refine xstp ?_ | refine xgon ?_ | intro _)))))
    refine cH29N1 (σ := [.whole 0, .name 1, .whole 2, .name 15, .whole 5, .name 6]) (nl := []) (cexp id q (recvR q x.p R) x.p.w 0 cl3 hR2.i.ok) ?_ (hle := by (repeat' first | refine And.intro ?_ ?_ | exact xeC | fail) <;> (first | exact fun _ => trivial | exact fun x => mtO_le rfl | exact fun x => winO_le | exact fun x => mtO_bel rfl | exact fun x => winO_bel | exact fun x => mtR_bel rfl rfl | exact fun x => winR_bel))
    rintro v h' ⟨rfl, rfl⟩ hcaps
    refine rH29N0 ?_
    repeat' (first | (fail_if_success (with_reducible refine xstp ?_)); first | ((with_reducible refine And.intro ?_ ?_); focus exact xoC) | ((fail_if_success (with_reducible first | refine xgon ?_ | intro _)); (conv => whnf); (fail_if_success (fail_if_success (with_reducible first | refine xstp ?_ | refine xgon ?_ | intro _)))))
    refine cH29N1 (σ := [.whole 7, .name 8, .whole 9, .name 19, .name 21]) (nl := []) (rrexp id q (recvR q x.p R) cM (recvR q x.p R).ls.length cl4 cf4 x.p.w hR2.rn hl2) ?_ (hle := by (repeat' first | refine And.intro ?_ ?_ | exact xeC | fail) <;> exact xmR)
    rintro v h' ⟨rfl, rfl⟩ hcaps
    refine rH29N0 ?_
    repeat' (first | (fail_if_success (with_reducible refine xstp ?_)); first | ((fail_if_success (with_reducible first | refine xgon ?_ | intro _)); (conv => whnf); (fail_if_success (fail_if_success (with_reducible first | refine xstp ?_ | refine xgon ?_ | intro _)))))
    rw [eP]
    refine FinK.mk ⟨[0, 1, 2, 3, 4, 5, 6, 7, 8, 9, 10, 11, 12, 13, 15, 16, 5, 6, 9, 19, 20, 21], _, _, ⟨c3, cl3, cM, c4, cl4, cf4, rfl, rfl⟩, ?_⟩
    (repeat' first | refine And.intro ?_ ?_ | exact xeC | fail)
    all_goals first | exact xmR | (first | exact fun _ => trivial | exact fun x => mtO_le rfl | exact fun x => winO_le | exact fun x => mtO_bel rfl | exact fun x => winO_bel | exact fun x => mtR_bel rfl rfl | exact fun x => winR_bel) | exact decide_eq_true rfl | (intro i hi; dsimp only; rw [mt_key (G := 21) (fun x => rfl), mt_key (G := 21) (fun x => rfl)]) | skip
    all_goals trace_state
end Go.Proofs.Ytgcofipbdidhmaa


namespace Go.Proofs.Ytgcofipbdidhmaa
open Go.X
set_option linter.unusedSimpArgs false
set_option linter.unusedVariables false
theorem rp_play {q : Qos} {x : Cl} {R : Rd} {B n : Nat} (h : RdP R B n) : RdP (playR q x R) (B + 1000) (n + 1) := by
  unfold playR
  split
  · exact (rp_match h).mono (by omega) (by omega)
  · split
    · exact (rp_unm h).mono (by omega) (by omega)
    · split
      · exact (rp_take h _).mono (by omega) (by omega)
      · split
        · exact (rp_losses h).mono (by omega) (by omega)
        · exact (rp_recv h).mono (by omega) (by omega)
theorem few_len {l : List Cl} {m : Int} (h : fewB l m = true) : (l.length : Int) ≤ m := by
  unfold fewB at h
  rw [Bool.and_eq_true] at h
  exact of_decide_eq_true h.2
theorem rH29P0 {σ : List Sg} {H h' : List Fam} {v : T} {K : T → List Fam → Prop} {H' : List Fam} {v' : T} {N : Nat} (hk : K v' H') (hN : H.length = N := by (try simp only [↓List.length_cons, ↓List.length_nil, Nat.reduceAdd]) <;> rfl) (h : givesF σ N H σ h' = some H' := by (try simp (maxSteps := 1000000) only [givesF, setF, updF, Fam.zeroth, Fam.rk, Ck.rk, C.rk, E.rk, T.rk, key, List.map_cons, List.map_nil, List.cons_append, List.nil_append, List.length_cons, List.length_nil, Option.map_some, Option.bind_some, Nat.reduceAdd, Nat.zero_add, Nat.add_zero, Nat.add_sub_cancel_left, Int.toNat_natCast, reps, List.all_cons, List.all_nil, C.flat, List.append_eq, Bool.not_true, Bool.and_true, Bool.or_false, Bool.or_self, Bool.not_false, List.append_nil, Bool.and_self, ↓slG_rk, ↓mtG_rk, ↓winO_rk, encQ]) <;> rfl) (hv : v.rk σ N = v' := by (try simp only [givesF, setF, updF, Fam.zeroth, Fam.rk, Ck.rk, C.rk, E.rk, T.rk, key, List.map_cons, List.map_nil, List.cons_append, List.nil_append, List.length_cons, List.length_nil, Option.map_some, Option.bind_some, Nat.reduceAdd, Nat.zero_add, Nat.add_zero, Nat.add_sub_cancel_left, Int.toNat_natCast, reps, List.all_cons, List.all_nil, C.flat, List.append_eq, Bool.not_true, Bool.and_true, Bool.or_false, Bool.or_self, Bool.not_false, List.append_nil, Bool.and_self, ↓slG_rk, ↓mtG_rk, ↓winO_rk, encQ]) <;> rfl) : RetG σ H h' v K := ret_mk3 hN h hv hk
theorem rH29P1 {σ : List Sg} {H h' : List Fam} {v : T} {K : T → List Fam → Prop} {H' : List Fam} {v' : T} {N : Nat} (hk : K v' H') (hN : H.length = N := by (try simp only [↓List.length_cons, ↓List.length_nil, Nat.reduceAdd]) <;> rfl) (h : givesF σ N H σ h' = some H' := by (try simp (maxSteps := 1000000) only [givesF, setF, updF, Fam.zeroth, Fam.rk, Ck.rk, C.rk, E.rk, T.rk, key, List.map_cons, List.map_nil, List.cons_append, List.nil_append, List.length_cons, List.length_nil, Option.map_some, Option.bind_some, Nat.reduceAdd, Nat.zero_add, Nat.add_zero, Nat.add_sub_cancel_left, Int.toNat_natCast, reps, List.all_cons, List.all_nil, C.flat, List.append_eq, Bool.not_true, Bool.and_true, Bool.or_false, Bool.or_self, Bool.not_false, List.append_nil, Bool.and_self, ↓slG_rk, ↓mtG_rk, ↓winO_rk]) <;> rfl) (hv : v.rk σ N = v' := by (try simp only [givesF, setF, updF, Fam.zeroth, Fam.rk, Ck.rk, C.rk, E.rk, T.rk, key, List.map_cons, List.map_nil, List.cons_append, List.nil_append, List.length_cons, List.length_nil, Option.map_some, Option.bind_some, Nat.reduceAdd, Nat.zero_add, Nat.add_zero, Nat.add_sub_cancel_left, Int.toNat_natCast, reps, List.all_cons, List.all_nil, C.flat, List.append_eq, Bool.not_true, Bool.and_true, Bool.or_false, Bool.or_self, Bool.not_false, List.append_nil, Bool.and_self, ↓slG_rk, ↓mtG_rk, ↓winO_rk]) <;> rfl) : RetG σ H h' v K := ret_mk3 hN h hv hk
theorem rH29P2 {σ : List Sg} {H h' : List Fam} {v : T} {K : T → List Fam → Prop} {H' : List Fam} {v' : T} {N : Nat} (hk : K v' H') (hN : H.length = N := by (try simp only [↓List.length_cons, ↓List.length_nil, Nat.reduceAdd]) <;> rfl) (h : givesF σ N H σ h' = some H' := by (try simp (maxSteps := 1000000) only [givesF, setF, updF, Fam.zeroth, Fam.rk, Ck.rk, C.rk, E.rk, T.rk, key, List.map_cons, List.map_nil, List.cons_append, List.nil_append, List.length_cons, List.length_nil, Option.map_some, Option.bind_some, Nat.reduceAdd, Nat.zero_add, Nat.add_zero, Nat.add_sub_cancel_left, Int.toNat_natCast, reps, List.all_cons, List.all_nil, C.flat, List.append_eq, Bool.not_true, Bool.and_true, Bool.or_false, Bool.or_self, Bool.not_false, List.append_nil, Bool.and_self, ↓slG_rk, ↓mtG_rk, ↓winO_rk, encCl, encP, encQ]) <;> rfl) (hv : v.rk σ N = v' := by (try simp only [givesF, setF, updF, Fam.zeroth, Fam.rk, Ck.rk, C.rk, E.rk, T.rk, key, List.map_cons, List.map_nil, List.cons_append, List.nil_append, List.length_cons, List.length_nil, Option.map_some, Option.bind_some, Nat.reduceAdd, Nat.zero_add, Nat.add_zero, Nat.add_sub_cancel_left, Int.toNat_natCast, reps, List.all_cons, List.all_nil, C.flat, List.append_eq, Bool.not_true, Bool.and_true, Bool.or_false, Bool.or_self, Bool.not_false, List.append_nil, Bool.and_self, ↓slG_rk, ↓mtG_rk, ↓winO_rk, encCl, encP, encQ]) <;> rfl) : RetG σ H h' v K := ret_mk3 hN h hv hk
theorem cH29P3 {P : Program} {F : Nat} {args : List T} {H : List Fam} {K : T → List Fam → Prop} {σ : List Sg} {nl : List Fam} {args0 : List T} {h0 : List Fam} {Q : T → List Fam → Prop} {H2 H1 : List Fam} {N n : Nat} (hc : Ctr P F args0 h0 Q) (hk : ∀ v h', Q v h' → capsP h' → RetG σ H2 h' v K) (hap : apart σ = true := by rfl) (hnl : nl.all nilB = true := by rfl) (h1 : H ++ nl = H1 := by first | exact List.append_nil _ | ((try simp only [List.cons_append, List.nil_append]) <;> rfl)) (hN : H1.length = N := by (try simp only [↓List.length_cons, ↓List.length_nil, Nat.reduceAdd]) <;> rfl) (hn : H.length = n := by (try simp only [↓List.length_cons, ↓List.length_nil, Nat.reduceAdd]) <;> rfl) (hH : givesF σ N H1 σ h0 = some H2 := by (try simp (maxSteps := 1000000) only [givesF, setF, updF, Fam.zeroth, Fam.rk, Ck.rk, C.rk, E.rk, T.rk, key, List.map_cons, List.map_nil, List.cons_append, List.nil_append, List.length_cons, List.length_nil, Option.map_some, Option.bind_some, Nat.reduceAdd, Nat.zero_add, Nat.add_zero, Nat.add_sub_cancel_left, Int.toNat_natCast, reps, List.all_cons, List.all_nil, C.flat, List.append_eq, Bool.not_true, Bool.and_true, Bool.or_false, Bool.or_self, Bool.not_false, List.append_nil, Bool.and_self, ↓slG_rk, ↓mtG_rk, ↓winO_rk]) <;> rfl) (hle : leS n H1 σ N σ h0 (belsK N (h0.map (Fam.rk σ N)) (argsK n args (args0.map (T.rk σ N)) True)) := by repeat' first | refine And.intro ?_ ?_ | exact xeC | fail) : CallK P F args H K := CallK.mk3 hc hap hnl h1 hN hn hH hle hk
set_option maxRecDepth 20000 in
set_option maxHeartbeats 16000000 in
theorem cplays (id : Int) (q : Qos) (l : List Cl) (c : Nat) (hll : l.length ≤ 9223372036854775807) :
    Ctr Try.prog 8 [.c (.i .i64 id), .a (encQ q), .c (.sl 0 0 21 0 l.length c)] [.one (clsR 1 l c), noneM] fun v _ => v = .c .tt := by
  refine Ctr.mk' tbv mixed Try.func8 rfl rfl rfl (fun _ _ => by kernel_rfl) (by kernel_rfl) (by rfl) (by rfl) (by (repeat' first | refine And.intro ?_ ?_ | exact xeC | fail) <;> exact fun _ => trivial) ?_
  repeat' (first | (fail_if_success (with_reducible refine xstp ?_)); first | (with_reducible intro hc; (try simp only [capsP, and_true] at hc); (try exact xfC)) | ((fail_if_success (with_reducible first | refine xgon ?_ | intro _)); (conv => whnf); (fail_if_success (fail_if_success (with_reducible first | refine xstp ?_ | refine xgon ?_ | intro _)))))
  refine cH29P3 (σ := [.whole 0, .whole 1]) (nl := []) (cfew l c 60 hll) ?_ (hle := by (repeat' first | refine And.intro ?_ ?_ | exact xeC | fail) <;> exact fun _ => trivial)
  rintro v h' ⟨rfl, rfl⟩ hcaps
  refine rH29P0 ?_
  repeat' (first | (fail_if_success (with_reducible refine xstp ?_)); first | ((with_reducible refine And.intro (fun (hb : _ = true) => ?_) (fun (hb : _ = false) => ?_)) <;> replace hb := xnC hb <;> (try first | exact xfC | exact bff hb (by assumption) | exact bff (by assumption) hb)) | ((fail_if_success (with_reducible first | refine xgon ?_ | intro _)); (conv => whnf); (fail_if_success (fail_if_success (with_reducible first | refine xstp ?_ | refine xgon ?_ | intro _)))))
  · refine cH29P3 (σ := []) (nl := []) (cawake) ?_
    rintro v h' ⟨rfl, rfl⟩ hcaps
    refine rH29P1 ?_
    repeat' (first | (fail_if_success (with_reducible refine xstp ?_)); first | ((fail_if_success (with_reducible first | refine xgon ?_ | intro _)); (conv => whnf); (fail_if_success (fail_if_success (with_reducible first | refine xstp ?_ | refine xgon ?_ | intro _)))))
    refine FinK.mk ⟨[0, 1], _, [.one .no, .one .no], rfl, ?_⟩
    (repeat' first | refine And.intro ?_ ?_ | exact xeC | fail)
  have hlen : (l.length : Int) ≤ 60 := few_len (by assumption)
  refine cH29P3 (σ := []) (nl := []) (cnew id q) ?_
  rintro v h' (⟨hq, rfl, rfl⟩ | ⟨hq, rfl, rfl⟩) hcaps
  rotate_left 1
  · refine rH29P0 ?_
    repeat' (first | (fail_if_success (with_reducible refine xstp ?_)); first | ((fail_if_success (with_reducible first | refine xgon ?_ | intro _)); (conv => whnf); (fail_if_success (fail_if_success (with_reducible first | refine xstp ?_ | refine xgon ?_ | intro _)))))
    refine cH29P3 (σ := []) (nl := []) (rrnew id q) ?_
    rintro v h' (⟨hq2, rfl, rfl⟩ | ⟨hq2, rfl, rfl⟩) hcaps
    · exact absurd hq2 hq
    refine rH29P0 ?_
    repeat' (first | (fail_if_success (with_reducible refine xstp ?_)); first | ((with_reducible refine And.intro (fun (hb : _ = true) => ?_) (fun (hb : _ = false) => ?_)) <;> replace hb := xnC hb <;> (try first | exact xfC | exact bff hb (by assumption) | exact bff (by assumption) hb)) | ((fail_if_success (with_reducible first | refine xgon ?_ | intro _)); (conv => whnf); (fail_if_success (fail_if_success (with_reducible first | refine xstp ?_ | refine xgon ?_ | intro _)))))
    refine LoopK.mk' Unit (fun _ => ⟨[(8, .c (.i .i64 4))], [.one .no, .one .no]⟩) (fun _ => 0) ⟨(), [0, 1], ?_⟩ ?_
    · (repeat' first | refine And.intro ?_ ?_ | exact xeC | fail)
    rintro ⟨⟩
    repeat' (first | (fail_if_success (with_reducible refine xstp ?_)); first | ((with_reducible refine And.intro (fun (hb : _ = true) => ?_) (fun (hb : _ = false) => ?_)) <;> replace hb := xnC hb <;> (try first | exact xfC | exact bff hb (by assumption) | exact bff (by assumption) hb)) | (with_reducible intro hc; (try simp only [capsP, and_true] at hc); (try exact xfC)) | ((fail_if_success (with_reducible first | refine xgon ?_ | intro _)); (conv => whnf); (fail_if_success (fail_if_success (with_reducible first | refine xstp ?_ | refine xgon ?_ | intro _)))))
    refine cH29P3 (σ := []) (nl := []) (cawake) ?_
    rintro v h' ⟨rfl, rfl⟩ hcaps
    refine rH29P1 ?_
    repeat' (first | (fail_if_success (with_reducible refine xstp ?_)); first | ((fail_if_success (with_reducible first | refine xgon ?_ | intro _)); (conv => whnf); (fail_if_success (fail_if_success (with_reducible first | refine xstp ?_ | refine xgon ?_ | intro _)))))
    refine FinK.mk ⟨[0, 1], _, [.one .no, .one .no], rfl, ?_⟩
    (repeat' first | refine And.intro ?_ ?_ | exact xeC | fail)
  refine rH29P0 ?_
  repeat' (first | (fail_if_success (with_reducible refine xstp ?_)); first | ((fail_if_success (with_reducible first | refine xgon ?_ | intro _)); (conv => whnf); (fail_if_success (fail_if_success (with_reducible first | refine xstp ?_ | refine xgon ?_ | intro _)))))
  refine cH29P3 (σ := []) (nl := []) (rrnew id q) ?_
  rintro v h' (⟨hq2, rfl, rfl⟩ | ⟨hq2, rfl, rfl⟩) hcaps
  rotate_left 1
  · exact absurd hq hq2
  refine rH29P0 ?_
  rw [mt_fun (G := 16) (fun x => rfl)]
  repeat' (first | (fail_if_success (with_reducible refine xstp ?_)); first | ((with_reducible refine And.intro (fun (hb : _ = true) => ?_) (fun (hb : _ = false) => ?_)) <;> replace hb := xnC hb <;> (try first | exact xfC | exact bff hb (by assumption) | exact bff (by assumption) hb)) | ((fail_if_success (with_reducible first | refine xgon ?_ | intro _)); (conv => whnf); (fail_if_success (fail_if_success (with_reducible first | refine xstp ?_ | refine xgon ?_ | intro _)))))
  refine LoopK.mk' ({p : Nat × Rd // p.1 ≤ l.length ∧ RdP p.2 (1000 * p.1) p.1} × (Nat × Nat × Nat × Nat × Nat) × (Nat → Nat))
    (fun ⟨⟨(i, R), _⟩, (c1, cl1, cM, c2, cl2), cf⟩ => ⟨[(2, .c (.sl 0 0 21 0 l.length c)), (7, .c (.p 2 0 0)), (8, .c (.i .i64 0)), (9, .c (.p 9 0 0)), (11, .c (.i .i64 (i : Nat)))],
      [.one (clsR 1 l c), noneM, .one (rdr 3 4 5 id q R.ls.length cl1), .one (hist 6 q R.l.length c1), .one (mapM 7 R.M R.ck), .one (lss true R.ls cl1), .one (smps true R.l c1), mts 8 R.D, wins R.D,
       .one (rrd 10 11 12 id q R.M.length cM R.ls.length cl2), .one (hist 13 q R.l.length c2), .one (mtR 14 R cM cf), .one (lsr true R.ls cl2), .one (smps true R.l c2), .many (slG R cf)]⟩)
    (fun k => l.length - k.1.1.1)
    ⟨⟨⟨(0, Rd0), Nat.zero_le _, rp0⟩, (0, 0, 0, 0, 0), fun _ => 0⟩, [0, 1, 3, 4, 5, 6, 7, 8, 9, 11, 12, 13, 14, 15, 16], ?_⟩ ?_
  · (repeat' first | refine And.intro ?_ ?_ | exact xeC | fail)
    all_goals first | (first | exact fun _ => trivial | exact fun x => mtO_le rfl | exact fun x => winO_le | exact fun x => mtO_bel rfl | exact fun x => winO_bel | exact fun x => mtR_bel rfl rfl | exact fun x => winR_bel) | exact xmR | skip
    all_goals trace_state
  rintro ⟨⟨⟨i, R⟩, hi, hR⟩, ⟨c1, cl1, cM, c2, cl2⟩, cf⟩
  simp only at hi hR
  have hR2 := rp_play (q := q) (x := l.getD i default) hR
  repeat' (first | (fail_if_success (with_reducible refine xstp ?_)); first | ((with_reducible refine And.intro (fun (hb : _ = true) => ?_) (fun (hb : _ = false) => ?_)) <;> replace hb := xnC hb <;> (try first | exact xfC | exact bff hb (by assumption) | exact bff (by assumption) hb)) | ((with_reducible refine And.intro ?_ ?_); focus exact xoC) | (with_reducible intro hc; (try simp only [capsP, and_true] at hc); (try exact xfC)) | ((fail_if_success (with_reducible first | refine xgon ?_ | intro _)); (conv => whnf); (fail_if_success (fail_if_success (with_reducible first | refine xstp ?_ | refine xgon ?_ | intro _)))))
  · rw [show 0 + ((i : Nat) : Int).toNat = i by omega]
    generalize l.getD i default = y at *
    refine cH29P3 (σ := [.whole 2, .whole 3, .whole 4, .whole 5, .whole 6, .whole 7, .whole 8, .whole 9, .whole 10, .whole 11, .whole 12, .whole 13, .whole 14, .name 1]) (nl := []) (cplay id q R c1 cl1 cM c2 cl2 cf y (1000 * i) i hR (by omega) (by omega) hq.2 i) ?_ (hle := by (repeat' first | refine And.intro ?_ ?_ | exact xeC | fail) <;> (first | (first | exact fun _ => trivial | exact fun x => mtO_le rfl | exact fun x => winO_le | exact fun x => mtO_bel rfl | exact fun x => winO_bel | exact fun x => mtR_bel rfl rfl | exact fun x => winR_bel) | exact xmR | skip))
    rintro v h' ⟨c1', cl1', cM', c2', cl2', cf', rfl, rfl⟩ hcaps
    refine rH29P2 ?_
    rw [mt_fun (G := 22) (fun x => rfl)]
    repeat' (first | (fail_if_success (with_reducible refine xstp ?_)); first | ((fail_if_success (with_reducible first | refine xgon ?_ | intro _)); (conv => whnf); (fail_if_success (fail_if_success (with_reducible first | refine xstp ?_ | refine xgon ?_ | intro _)))))
    have hl2 : (playR q y R).l.length ≤ 256 := hR2.i.l
    have hM2 : (playR q y R).M.length ≤ 1000000 := Nat.le_trans hR2.m (by omega)
    generalize playR q y R = R2 at *
    refine cH29P3 (σ := [.whole 2, .whole 3, .name 4, .name 15, .whole 16]) (nl := []) (cwait id q R2.l R2.ls.length c1' cl1') ?_
    rintro v h' ⟨rfl, rfl⟩ hcaps
    refine rH29P2 ?_
    repeat' (first | (fail_if_success (with_reducible refine xstp ?_)); first | ((fail_if_success (with_reducible first | refine xgon ?_ | intro _)); (conv => whnf); (fail_if_success (fail_if_success (with_reducible first | refine xstp ?_ | refine xgon ?_ | intro _)))))
    refine cH29P3 (σ := [.whole 9, .whole 10, .name 19, .name 20, .name 21]) (nl := []) (rrwait id q R2.l R2.M.length cM' R2.ls.length c2' cl2') ?_
    rintro v h' ⟨rfl, rfl⟩ hcaps
    refine rH29P2 ?_
    repeat' (first | (fail_if_success (with_reducible refine xstp ?_)); first | ((with_reducible refine And.intro (fun (hb : _ = true) => ?_) (fun (hb : _ = false) => ?_)) <;> replace hb := xnC hb <;> (try first | exact xfC | exact bff hb (by assumption) | exact bff (by assumption) hb)) | ((with_reducible refine And.intro ?_ ?_); focus exact xoC) | ((fail_if_success (with_reducible first | refine xgon ?_ | intro _)); (conv => whnf); (fail_if_success (fail_if_success (with_reducible first | refine xstp ?_ | refine xgon ?_ | intro _)))))
    generalize (l.getD (0 + ((i : Nat) : Int).toNat) default).n = w
    refine cH29P3 (σ := [.whole 2, .name 3, .whole 4, .name 15, .whole 17, .name 18]) (nl := []) (cexp id q R2 w c1' cl1' hR2.i.ok) ?_ (hle := by (repeat' first | refine And.intro ?_ ?_ | exact xeC | fail) <;> (first | exact fun _ => trivial | exact fun x => mtO_le rfl | exact fun x => winO_le | exact fun x => mtO_bel rfl | exact fun x => winO_bel | exact fun x => mtR_bel rfl rfl | exact fun x => winR_bel))
    rintro v h' ⟨rfl, rfl⟩ hcaps
    refine rH29P2 ?_
    repeat' (first | (fail_if_success (with_reducible refine xstp ?_)); first | ((with_reducible refine And.intro ?_ ?_); focus exact xoC) | ((fail_if_success (with_reducible first | refine xgon ?_ | intro _)); (conv => whnf); (fail_if_success (fail_if_success (with_reducible first | refine xstp ?_ | refine xgon ?_ | intro _)))))
    refine cH29P3 (σ := [.whole 9, .name 10, .whole 19, .name 20, .name 22]) (nl := []) (rrexp id q R2 cM' R2.ls.length cl2' cf' w hR2.rn hM2) ?_ (hle := by (repeat' first | refine And.intro ?_ ?_ | exact xeC | fail) <;> exact xmR)
    rintro v h' ⟨rfl, rfl⟩ hcaps
    refine rH29P2 ?_
    rw [mt_fun (G := 22) (fun x => rfl)]
    repeat' (first | (fail_if_success (with_reducible refine xstp ?_)); first | ((with_reducible refine And.intro (fun (hb : _ = true) => ?_) (fun (hb : _ = false) => ?_)) <;> replace hb := xnC hb <;> (try first | exact xfC | exact bff hb (by assumption) | exact bff (by assumption) hb)) | ((with_reducible refine And.intro ?_ ?_); focus exact xoC) | ((fail_if_success (with_reducible first | refine xgon ?_ | intro _)); (conv => whnf); (fail_if_success (fail_if_success (with_reducible first | refine xstp ?_ | refine xgon ?_ | intro _)))))
    refine ⟨⟨⟨(i + 1, R2), by simp only; omega, by simpa [Nat.mul_add] using hR2⟩, (c1', cl1', cM', c2', cl2'), cf'⟩, [0, 1, 2, 3, 4, 15, 16, 17, 18, 9, 10, 19, 20, 21, 22], by simp only; omega, ?_⟩
    (repeat' first | refine And.intro ?_ ?_ | exact xeC | fail)
    all_goals first | (first | exact fun _ => trivial | exact fun x => mtO_le rfl | exact fun x => winO_le | exact fun x => mtO_bel rfl | exact fun x => winO_bel | exact fun x => mtR_bel rfl rfl | exact fun x => winR_bel) | exact xmR | skip
    all_goals trace_state
  refine cH29P3 (σ := []) (nl := []) (cawake) ?_
  rintro v h' ⟨rfl, rfl⟩ hcaps
  refine rH29P1 ?_
  repeat' (first | (fail_if_success (with_reducible refine xstp ?_)); first | ((fail_if_success (with_reducible first | refine xgon ?_ | intro _)); (conv => whnf); (fail_if_success (fail_if_success (with_reducible first | refine xstp ?_ | refine xgon ?_ | intro _)))))
  refine FinK.mk ⟨[0, 1], _, [.one .no, .one .no], rfl, ?_⟩
  (repeat' first | refine And.intro ?_ ?_ | exact xeC | fail)
end Go.Proofs.Ytgcofipbdidhmaa


namespace Go.Proofs.Ytgcofipbdidhmaa
open Go.X Go.RowKit

abbrev kCl : List K := [.i .i64, .i .i64, .i .i64, .b, .b, .b, .i .i64, .i .i64, .i .i64, .i .i64, .i .i64, .i .i64, .i .i64, .i .i64, .i .i64, .i .i64, .i .i64, .i .i64, .i .i64, .sl [.i .i64], .s]

theorem ft_Cl {W : World} {B : Nat → Nat × Nat × Fl} {D : List DC} (h : FD W B 0 kCl D) :
    ∃ x : Cl, ∀ F i, layD F i 0 D = encCl (.sl (F 19) i 1 0 x.nm x.cm) x := by
  obtain ⟨a0, _, rfl, _, h1⟩ := FD_i h
  obtain ⟨a1, _, rfl, _, h2⟩ := FD_i h1
  obtain ⟨a2, _, rfl, _, h3⟩ := FD_i h2
  obtain ⟨a3, _, rfl, h4⟩ := FD_b h3
  obtain ⟨a4, _, rfl, h5⟩ := FD_b h4
  obtain ⟨a5, _, rfl, h6⟩ := FD_b h5
  obtain ⟨a6, _, rfl, _, h7⟩ := FD_i h6
  obtain ⟨a7, _, rfl, _, h8⟩ := FD_i h7
  obtain ⟨a8, _, rfl, _, h9⟩ := FD_i h8
  obtain ⟨a9, _, rfl, _, h10⟩ := FD_i h9
  obtain ⟨b0, _, rfl, _, h11⟩ := FD_i h10
  obtain ⟨b1, _, rfl, _, h12⟩ := FD_i h11
  obtain ⟨b2, _, rfl, _, h13⟩ := FD_i h12
  obtain ⟨b3, _, rfl, _, h14⟩ := FD_i h13
  obtain ⟨b4, _, rfl, _, h15⟩ := FD_i h14
  obtain ⟨b5, _, rfl, _, h16⟩ := FD_i h15
  obtain ⟨b6, _, rfl, _, h17⟩ := FD_i h16
  obtain ⟨b7, _, rfl, _, h18⟩ := FD_i h17
  obtain ⟨b8, _, rfl, _, h19⟩ := FD_i h18
  obtain ⟨n, c, R, _, rfl, _, _, _, _, h20⟩ := FD_n h19
  obtain ⟨p, _, rfl, _, h21⟩ := FD_s h20
  obtain rfl := FD_nil h21
  exact ⟨⟨a0, a1, a2, ⟨a3, a4, a5, a6, a7, a8, a9⟩, ⟨b0, b1, b2, b3, b4, b5, b6, b7, b8, p⟩, n, c⟩, fun F i => rfl⟩

/-- Calls among the arguments. -/
theorem calls_view {W : World} {v : Value} (k : VK W (.sl kCl) v) :
    ∃ (β : Nm) (l : List Cl) (c : Nat), (C.sl 0 0 21 0 l.length c).ren β = v ∧ Fits β [.one (clsR 1 l c), noneM] W ∧ (∀ f x, (get [.one (clsR 1 l c), noneM] f x).owned = false) ∧ l.length ≤ maxLen := by
  obtain ⟨n, c, D, B, hv, hh, hn, _, _, hD⟩ := nest_view (by rfl) k
  obtain ⟨l, hl, hx⟩ := list_ix (fun i hi => ft_Cl (hD i hi))
  subst hl
  have hrow := hh (nmQ (nameOf v) B 19) (Fq 19) 34 (fun i y _ _ => nmQ_at _ B 19 i y)
  obtain ⟨hf, hno⟩ := fits_nest (β := nmQ (nameOf v) B 19) (g := fun _ => .no) (holds_rowK_congr hrow (fun i hi => hx i hi (Fq 19) i)) rfl (fun _ => trivial) (fun _ => rfl)
  exact ⟨nmQ (nameOf v) B 19, l, c, hv _ 0 0 21 rfl, hf, hno, hn⟩

end Go.Proofs.Ytgcofipbdidhmaa


namespace Go.Proofs.Ytgcofipbdidhmaa
open Go.X Go.RowKit
abbrev kQq : List K := [.b, .b, .b, .i .i64, .i .i64, .i .i64, .i .i64]
theorem ft_Qq {l : List C} (h : FT kQq l) : ∃ q : Qos, l = encQ q := by
  obtain ⟨a, l1, rfl, h1⟩ := FT_b h
  obtain ⟨b, l2, rfl, h2⟩ := FT_b h1
  obtain ⟨c, l3, rfl, h3⟩ := FT_b h2
  obtain ⟨d, l4, rfl, _, h4⟩ := FT_i h3
  obtain ⟨e, l5, rfl, _, h5⟩ := FT_i h4
  obtain ⟨f, l6, rfl, _, h6⟩ := FT_i h5
  obtain ⟨g, l7, rfl, _, h7⟩ := FT_i h6
  obtain rfl := FT_nil h7
  exact ⟨⟨a, b, c, d, e, f, g⟩, rfl⟩
theorem walk_ReaderPlays (W : World) (a0 : Int) (w0 : (Lit.int .i64 a0).wf = true) (c1 : Array Value) (k1 : VKs W kQq c1.toList) (v2 : Value) (k2 : VK W (.sl kCl) v2) (_e2 : ∀ a n c, v2 = .slice (some a) n c → a.spot = none) :
    Calls Try.prog 8 #[.int .i64 a0, .agg c1, v2] W fun e W' => e = .returned (.bool true) ∧ Below W.heap.size W W' := by
  have _ := w0
  obtain ⟨l1, f1, r1, _, _⟩ := flat_view (by rfl) k1
  obtain ⟨q, rfl⟩ := ft_Qq f1
  obtain ⟨β, l, c, hv, hf, hno, hn⟩ := calls_view k2
  have e1 : renL β (encQ q) = c1 := by
    apply Array.toList_inj.1
    rw [← r1 β]; rfl
  have := glue (cplays a0 q l c (by unfold maxLen at hn; omega)) hf hno
  simp only [List.map_cons, List.map_nil, T.ren, hv, e1] at this
  exact this
end Go.Proofs.Ytgcofipbdidhmaa

