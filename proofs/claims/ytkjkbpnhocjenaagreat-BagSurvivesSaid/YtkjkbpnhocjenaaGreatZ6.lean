/- Part 6 of the texts that a walk of this program rests on: an abstract machine, its soundness, contracts of functions. No statement of the seat is proved in this file. -/
import Derived.Test.YtkjkbpnhocjenaaGreatZ5
namespace Go.Proofs.YtkjkbpnhocjenaaGreat
open Go.X
set_option linter.unusedSimpArgs false
set_option linter.unusedVariables false
open P4
open P5
def fewP (l : List Rc) : Prop := l.length ≤ 40 ∧ ∀ r ∈ l, r.pl.length ≤ 4100 ∧ r.tp.length ≤ 50
theorem take_eq {α : Type} [Inhabited α] {l m : List α} {i : Nat} (h : l.take i = m.take i) (hi : i < l.length) (hj : i < m.length) (e : l.getD i default = m.getD i default) : l.take (i + 1) = m.take (i + 1) := by
  rw [take_snocG l hi, take_snocG m hj, h, e]
set_option maxRecDepth 10000 in
theorem ctexts (w w2 : Bool) (l m : List (List UInt8)) (c d : Nat) (hl : l.length ≤ 1000000000) :
    Ctr Tryz.prog 19 [.c (.sl 0 0 1 0 l.length c), .c (.sl 1 0 1 0 m.length d)] [.one (stR w l c), .one (stR w2 m d)]
      fun v h => v = .c (.b (decide (l = m))) ∧ h = [.one (stR w l c), .one (stR w2 m d)] := by
  refine Ctr.mk' tbv mixed Tryz.func19 rfl rfl rfl (fun _ _ => by kernel_rfl) (by kernel_rfl) (by rfl) (by rfl) (by (repeat' first | refine And.intro ?_ ?_ | exact xeC | fail)) ?_
  repeat' (first | (fail_if_success (with_reducible refine xstp ?_)); first | ((with_reducible refine And.intro (fun (hb : _ = true) => ?_) (fun (hb : _ = false) => ?_)) <;> replace hb := xnC hb <;> (try first | exact xfC | exact bff hb (by assumption) | exact bff (by assumption) hb)) | (with_reducible intro hc; (try simp only [capsP, and_true] at hc); (try exact xfC)) | ((fail_if_success (with_reducible first | refine xgon ?_ | intro _)); (conv => whnf); (fail_if_success (fail_if_success (with_reducible first | refine xstp ?_ | refine xgon ?_ | intro _)))))
  · rw [decide_eq_false (p := l = m) (fun e => hb (by rw [e]))]
    refine FinK.mk ⟨[0, 1], _, _, ⟨rfl, rfl⟩, ?_⟩
    (repeat' first | refine And.intro ?_ ?_ | exact xeC | fail)
  have hlm : l.length = m.length := by omega
  refine LoopK.mk' {i : Nat // i ≤ l.length ∧ l.take i = m.take i}
    (fun ⟨i, _⟩ => ⟨[(0, .c (.sl 0 0 1 0 l.length c)), (1, .c (.sl 1 0 1 0 m.length d)), (5, .c (.i .i64 (i : Nat)))], [.one (stR w l c), .one (stR w2 m d)]⟩) (fun p => l.length - p.1)
    ⟨⟨0, Nat.zero_le _, rfl⟩, [0, 1], ?_⟩ ?_
  · (repeat' first | refine And.intro ?_ ?_ | exact xeC | fail)
  rintro ⟨i, hi, hq⟩
  have e2 : 0 + ((i : Nat) : Int).toNat = i := by omega
  repeat' (first | (fail_if_success (with_reducible refine xstp ?_)); first | ((with_reducible refine And.intro (fun (hb : _ = true) => ?_) (fun (hb : _ = false) => ?_)) <;> replace hb := xnC hb <;> (try first | exact xfC | exact bff hb (by assumption) | exact bff (by assumption) hb)) | ((with_reducible refine And.intro ?_ ?_); focus exact xoC) | (with_reducible intro hc; (try simp only [capsP, and_true] at hc); (try exact xfC)) | ((fail_if_success (with_reducible first | refine xgon ?_ | intro _)); (conv => whnf); (fail_if_success (fail_if_success (with_reducible first | refine xstp ?_ | refine xgon ?_ | intro _)))))
  · rw [decide_eq_false (p := l = m) (fun e => hb (by rw [e]))]
    refine FinK.mk ⟨[0, 1], _, _, ⟨rfl, rfl⟩, ?_⟩
    (repeat' first | refine And.intro ?_ ?_ | exact xeC | fail)
  · refine ⟨⟨i + 1, by omega, take_eq hq (by omega) (by omega) (mkS_inj.1 hb)⟩, [0, 1], by simp only; omega, ?_⟩
    (repeat' first | refine And.intro ?_ ?_ | exact xeC | fail)
  · obtain rfl : i = l.length := by omega
    rw [decide_eq_true (p := l = m) (by rw [List.take_length, hlm, List.take_length] at hq; exact hq)]
    refine FinK.mk ⟨[0, 1], _, _, ⟨rfl, rfl⟩, ?_⟩
    (repeat' first | refine And.intro ?_ ?_ | exact xeC | fail)
set_option maxRecDepth 10000 in
theorem cSame (w w2 : Bool) (l m : List Rc) (c d n : Nat) (hl : l.length ≤ 1000000000) (hn : n ≤ m.length) :
    Ctr Tryz.prog 15 [.c (.sl 0 0 3 0 l.length c), .c (.sl 1 0 3 0 n d)] [.one (rcR w l c), .one (rcR w2 m d)]
      fun v h => v = .c (.b (decide (l = m.take n))) ∧ h = [.one (rcR w l c), .one (rcR w2 m d)] := by
  have hml : (m.take n).length = n := by rw [List.length_take]; omega
  refine Ctr.mk' tbv mixed Tryz.func15 rfl rfl rfl (fun _ _ => by kernel_rfl) (by kernel_rfl) (by rfl) (by rfl) (by (repeat' first | refine And.intro ?_ ?_ | exact xeC | fail)) ?_
  repeat' (first | (fail_if_success (with_reducible refine xstp ?_)); first | ((with_reducible refine And.intro (fun (hb : _ = true) => ?_) (fun (hb : _ = false) => ?_)) <;> replace hb := xnC hb <;> (try first | exact xfC | exact bff hb (by assumption) | exact bff (by assumption) hb)) | (with_reducible intro hc; (try simp only [capsP, and_true] at hc); (try exact xfC)) | ((fail_if_success (with_reducible first | refine xgon ?_ | intro _)); (conv => whnf); (fail_if_success (fail_if_success (with_reducible first | refine xstp ?_ | refine xgon ?_ | intro _)))))
  · rw [decide_eq_false (p := l = m.take n) (fun e => hb (by rw [e, hml]))]
    refine FinK.mk ⟨[0, 1], _, _, ⟨rfl, rfl⟩, ?_⟩
    (repeat' first | refine And.intro ?_ ?_ | exact xeC | fail)
  have hlm : l.length = n := by omega
  refine LoopK.mk' {i : Nat // i ≤ l.length ∧ l.take i = m.take i}
    (fun ⟨i, _⟩ => ⟨[(0, .c (.sl 0 0 3 0 l.length c)), (1, .c (.sl 1 0 3 0 n d)), (5, .c (.i .i64 (i : Nat)))], [.one (rcR w l c), .one (rcR w2 m d)]⟩) (fun p => l.length - p.1)
    ⟨⟨0, Nat.zero_le _, rfl⟩, [0, 1], ?_⟩ ?_
  · (repeat' first | refine And.intro ?_ ?_ | exact xeC | fail)
  rintro ⟨i, hi, hq⟩
  have e2 : 0 + ((i : Nat) : Int).toNat = i := by omega
  repeat' (first | (fail_if_success (with_reducible refine xstp ?_)); first | ((with_reducible refine And.intro (fun (hb : _ = true) => ?_) (fun (hb : _ = false) => ?_)) <;> replace hb := xnC hb <;> (try first | exact xfC | exact bff hb (by assumption) | exact bff (by assumption) hb)) | ((with_reducible refine And.intro ?_ ?_); focus exact xoC) | (with_reducible intro hc; (try simp only [capsP, and_true] at hc); (try exact xfC)) | ((fail_if_success (with_reducible first | refine xgon ?_ | intro _)); (conv => whnf); (fail_if_success (fail_if_success (with_reducible first | refine xstp ?_ | refine xgon ?_ | intro _)))))
  · have hne : l ≠ m.take n := fun e => by
      have hg : l.getD i default = m.getD i default := by
        rw [e, getD_at (show i < (m.take n).length by omega), List.getElem_take, getD_at (show i < m.length by omega)]
      rw [hg] at hb
      simp at hb
    rw [decide_eq_false (p := l = m.take n) hne]
    refine FinK.mk ⟨[0, 1], _, _, ⟨rfl, rfl⟩, ?_⟩
    (repeat' first | refine And.intro ?_ ?_ | exact xeC | fail)
  · have hg : l.getD i default = m.getD i default := by
      obtain ⟨h1, h2, h3⟩ := hb
      have h2 := mkS_inj.1 h2
      have h3 := mkS_inj.1 h3
      generalize l.getD i default = x at *
      generalize m.getD i default = y at *
      cases x
      cases y
      simp only at h1 h2 h3
      rw [h1, h2, h3]
    refine ⟨⟨i + 1, by omega, take_eq hq (by omega) (by omega) hg⟩, [0, 1], by simp only; omega, ?_⟩
    (repeat' first | refine And.intro ?_ ?_ | exact xeC | fail)
  · obtain rfl : i = l.length := by omega
    rw [decide_eq_true (p := l = m.take n) (by rw [List.take_length, hlm] at hq; exact hq)]
    refine FinK.mk ⟨[0, 1], _, _, ⟨rfl, rfl⟩, ?_⟩
    (repeat' first | refine And.intro ?_ ?_ | exact xeC | fail)
end Go.Proofs.YtkjkbpnhocjenaaGreat


namespace Go.Proofs.YtkjkbpnhocjenaaGreat
open Go.X
set_option linter.unusedSimpArgs false
set_option linter.unusedVariables false
open P4
open P5
theorem WI.xs {w : Wr} {A : List Rc} (h : WI w A) (hn : A.length ≤ 50) {X : List Ch} (hX : X.map Ch.l = w.L) :
    X.length ≤ 50 ∧ (∀ x ∈ X, 0 < x.l.length ∧ x.l.length ≤ 50 ∧ (∀ q ∈ x.l, okR q)) ∧ (∀ x ∈ X, x.l.length ≤ 100000 ∧ (conB x.l).length ≤ 1000000) ∧ w.ad ≤ 50 := by
  have hk := h.lok hn
  have h1 := hk.len
  rw [← hX, List.length_map] at h1
  have h2 : ∀ x ∈ X, 0 < x.l.length ∧ x.l.length ≤ 50 ∧ (∀ q ∈ x.l, okR q) := fun x hx => by
    have hm : x.l ∈ w.L := by rw [← hX]; exact List.mem_map.2 ⟨x, hx, rfl⟩
    have h3 := hk.okX _ hm
    have h4 := (LOk.sub hm).length_le
    have h5 := hk.n
    exact ⟨h3.1, by omega, h3.2.2⟩
  refine ⟨h1, h2, fun x hx => ?_, by rw [h.ad]; exact hn⟩
  obtain ⟨_, h4, h5⟩ := h2 x hx
  have := conB_len h5
  omega
theorem encRh_rk4 (X : List Ch) (i : Nat) : List.map (C.rk [Sg.whole 1, Sg.whole 2, Sg.whole 3] 5) (encRh 4 X i) = encRh 6 X i := rfl
theorem encCh_rk4 (X : List Ch) (i : Nat) : List.map (C.rk [Sg.whole 1, Sg.whole 2, Sg.whole 3] 4) (encCh 4 X i) = encCh 5 X i := rfl
theorem rH41zcF0 {σ : List Sg} {H h' : List Fam} {v : T} {K : T → List Fam → Prop} {H' : List Fam} {v' : T} {N : Nat} (hk : K v' H') (hN : H.length = N := by (try simp only [↓List.length_cons, ↓List.length_nil, Nat.reduceAdd]) <;> rfl) (h : givesF σ N H σ h' = some H' := by (try simp (maxSteps := 1000000) only [givesF, setF, updF, Fam.zeroth, Fam.rk, Ck.rk, C.rk, E.rk, T.rk, key, List.map_cons, List.map_nil, List.cons_append, List.nil_append, List.length_cons, List.length_nil, Option.map_some, Option.bind_some, Nat.reduceAdd, Nat.zero_add, Nat.add_zero, Nat.add_sub_cancel_left, Int.toNat_natCast, reps, List.all_cons, List.all_nil, C.flat, List.append_eq, Bool.not_true, Bool.and_true, Bool.or_false, Bool.or_self, Bool.not_false, List.append_nil, Bool.and_self, ↓chG_rk]) <;> rfl) (hv : v.rk σ N = v' := by (try simp only [givesF, setF, updF, Fam.zeroth, Fam.rk, Ck.rk, C.rk, E.rk, T.rk, key, List.map_cons, List.map_nil, List.cons_append, List.nil_append, List.length_cons, List.length_nil, Option.map_some, Option.bind_some, Nat.reduceAdd, Nat.zero_add, Nat.add_zero, Nat.add_sub_cancel_left, Int.toNat_natCast, reps, List.all_cons, List.all_nil, C.flat, List.append_eq, Bool.not_true, Bool.and_true, Bool.or_false, Bool.or_self, Bool.not_false, List.append_nil, Bool.and_self, ↓chG_rk]) <;> rfl) : RetG σ H h' v K := ret_mk3 hN h hv hk
theorem rH41zcF1 {σ : List Sg} {H h' : List Fam} {v : T} {K : T → List Fam → Prop} {H' : List Fam} {v' : T} {N : Nat} (hk : K v' H') (hN : H.length = N := by (try simp only [↓List.length_cons, ↓List.length_nil, Nat.reduceAdd]) <;> rfl) (h : givesF σ N H σ h' = some H' := by (try simp (maxSteps := 1000000) only [givesF, setF, updF, Fam.zeroth, Fam.rk, Ck.rk, C.rk, E.rk, T.rk, key, List.map_cons, List.map_nil, List.cons_append, List.nil_append, List.length_cons, List.length_nil, Option.map_some, Option.bind_some, Nat.reduceAdd, Nat.zero_add, Nat.add_zero, Nat.add_sub_cancel_left, Int.toNat_natCast, reps, List.all_cons, List.all_nil, C.flat, List.append_eq, Bool.not_true, Bool.and_true, Bool.or_false, Bool.or_self, Bool.not_false, List.append_nil, Bool.and_self, ↓chG_rk, encRh_rk4]) <;> rfl) (hv : v.rk σ N = v' := by (try simp only [givesF, setF, updF, Fam.zeroth, Fam.rk, Ck.rk, C.rk, E.rk, T.rk, key, List.map_cons, List.map_nil, List.cons_append, List.nil_append, List.length_cons, List.length_nil, Option.map_some, Option.bind_some, Nat.reduceAdd, Nat.zero_add, Nat.add_zero, Nat.add_sub_cancel_left, Int.toNat_natCast, reps, List.all_cons, List.all_nil, C.flat, List.append_eq, Bool.not_true, Bool.and_true, Bool.or_false, Bool.or_self, Bool.not_false, List.append_nil, Bool.and_self, ↓chG_rk, encRh_rk4]) <;> rfl) : RetG σ H h' v K := ret_mk3 hN h hv hk
theorem cH41zcF3 {P : Program} {F : Nat} {args : List T} {H : List Fam} {K : T → List Fam → Prop} {σ : List Sg} {nl : List Fam} {args0 : List T} {h0 : List Fam} {Q : T → List Fam → Prop} {H2 H1 : List Fam} {N n : Nat} (hc : Ctr P F args0 h0 Q) (hk : ∀ v h', Q v h' → capsP h' → RetG σ H2 h' v K) (hap : apart σ = true := by rfl) (hnl : nl.all nilB = true := by rfl) (h1 : H ++ nl = H1 := by first | exact List.append_nil _ | ((try simp only [List.cons_append, List.nil_append]) <;> rfl)) (hN : H1.length = N := by (try simp only [↓List.length_cons, ↓List.length_nil, Nat.reduceAdd]) <;> rfl) (hn : H.length = n := by (try simp only [↓List.length_cons, ↓List.length_nil, Nat.reduceAdd]) <;> rfl) (hH : givesF σ N H1 σ h0 = some H2 := by (try simp (maxSteps := 1000000) only [givesF, setF, updF, Fam.zeroth, Fam.rk, Ck.rk, C.rk, E.rk, T.rk, key, List.map_cons, List.map_nil, List.cons_append, List.nil_append, List.length_cons, List.length_nil, Option.map_some, Option.bind_some, Nat.reduceAdd, Nat.zero_add, Nat.add_zero, Nat.add_sub_cancel_left, Int.toNat_natCast, reps, List.all_cons, List.all_nil, C.flat, List.append_eq, Bool.not_true, Bool.and_true, Bool.or_false, Bool.or_self, Bool.not_false, List.append_nil, Bool.and_self, ↓chG_rk]) <;> rfl) (hle : leS n H1 σ N σ h0 (belsK N (h0.map (Fam.rk σ N)) (argsK n args (args0.map (T.rk σ N)) True)) := by repeat' first | refine And.intro ?_ ?_ | exact xeC | fail) : CallK P F args H K := CallK.mk3 hc hap hnl h1 hN hn hH hle hk
set_option maxRecDepth 10000 in
set_option maxHeartbeats 8000000 in
theorem caccepted (w : Bool) (l : List Rc) (c : Nat) (hl : fewP l) :
    Ctr Tryz.prog 6 [.c (.sl 0 0 3 0 l.length c)] [.one (rcR w l c)]
      fun v h => ∃ c', v = .c (.sl 1 0 3 0 (accL l).length c') ∧ h = [.one (rcR w l c), .one (rcR true (accL l) c')] := by
  have hl0 := hl.1
  refine Ctr.mk' tbv mixed Tryz.func6 rfl rfl rfl (fun _ _ => by kernel_rfl) (by kernel_rfl) (by rfl) (by rfl) (by (repeat' first | refine And.intro ?_ ?_ | exact xeC | fail) <;> (exact xmC)) ?_
  repeat' (first | (fail_if_success (with_reducible refine xstp ?_)); first | (with_reducible intro hc; (try simp only [capsP, and_true] at hc); (try exact xfC)) | ((fail_if_success (with_reducible first | refine xgon ?_ | intro _)); (conv => whnf); (fail_if_success (fail_if_success (with_reducible first | refine xstp ?_ | refine xgon ?_ | intro _)))))
  refine cH41zcF3 (σ := []) (nl := []) (cNewWR 65536) ?_
  rintro v h' hq hcaps
  rcases hq with ⟨hq, _⟩ | ⟨_, rfl, rfl⟩
  · exfalso; omega
  refine rH41zcF0 ?_
  repeat' (first | (fail_if_success (with_reducible refine xstp ?_)); first | ((fail_if_success (with_reducible first | refine xgon ?_ | intro _)); (conv => whnf); (fail_if_success (fail_if_success (with_reducible first | refine xstp ?_ | refine xgon ?_ | intro _)))))
  refine LoopK.mk' {p : Nat × Wr × List Rc × List Ch × Nat × Nat // p.1 ≤ l.length ∧ runA 65536 (l.take p.1) = (p.2.1, p.2.2.1) ∧ p.2.2.2.1.map Ch.l = p.2.1.L}
    (fun ⟨(i, wr, A, X, c1, c2), _⟩ => ⟨[(0, .c (.sl 0 0 3 0 l.length c)), (3, .c (.sl 4 0 3 0 A.length c2)), (4, .c (.p 1 0 0)), (5, .c (.i .i64 0)), (6, .c (.i .i64 (i : Nat)))],
      [.one (rcR w l c), .one (rwC wr 2 X.length c1), .one (rhR 3 X c1), .many (chG X), .one (rcR true A c2)]⟩) (fun p => l.length - p.1.1)
    ⟨⟨(0, newW 65536, [], [], 0, 0), Nat.zero_le _, rfl, rfl⟩, [0, 1, 2, 3, 99], ?_⟩ ?_
  · (repeat' first | refine And.intro ?_ ?_ | exact xeC | fail)
    all_goals first
      | (exact xmC)
      | (intro i hi; exact absurd hi (Nat.not_lt_zero i))
      | skip
  rintro ⟨⟨i, wr, A, X, c1, c2⟩, hi, hrun, hX⟩
  simp only at hi hX hrun
  have e2 : 0 + ((i : Nat) : Int).toNat = i := by omega
  have hW := runA_WI 65536 (l.take i)
  have hil : (l.take i).length = i := by rw [List.length_take]; omega
  rw [hil, hrun] at hW
  have hAl := hW.2
  simp only at hW hAl
  have hxs := hW.1.xs (by omega) hX
  rcases Nat.lt_or_ge i l.length with hlt | hge
  · have hru : runA 65536 (l.take (i + 1)) = stepA (wr, A) (l.getD i default) := by rw [take_snocG l hlt, runA_snoc, hrun]
    have hri := hl.2 _ (mem_getD hlt)
    repeat' (first | (fail_if_success (with_reducible refine xstp ?_)); first | ((with_reducible refine And.intro (fun (hb : _ = true) => ?_) (fun (hb : _ = false) => ?_)) <;> replace hb := xnC hb <;> (try first | exact xfC | exact bff hb (by assumption) | exact bff (by assumption) hb)) | ((with_reducible refine And.intro ?_ ?_); focus exact xoC) | (with_reducible intro hc; (try simp only [capsP, and_true] at hc); (try exact xfC)) | ((fail_if_success (with_reducible first | refine xgon ?_ | intro _)); (conv => whnf); (fail_if_success (fail_if_success (with_reducible first | refine xstp ?_ | refine xgon ?_ | intro _)))))
    rw [e2]
    refine cH41zcF3 (σ := [.whole 1, .whole 2, .whole 3]) (nl := []) (cAddR wr X c1 (l.getD i default) hX (by omega) hW.1.la (by omega) (fun x hx => by have := hxs.2.1 x hx; exact ⟨this.1, by omega, this.2.2⟩) (by omega)) ?_ (hle := by (repeat' first | refine And.intro ?_ ?_ | exact xeC | fail) <;> (exact xmC))
    rintro v h' ⟨X', c1', hX', rfl, rfl⟩ hcaps
    refine rH41zcF1 ?_
    repeat' (first | (fail_if_success (with_reducible refine xstp ?_)); first | ((with_reducible refine And.intro (fun (hb : _ = true) => ?_) (fun (hb : _ = false) => ?_)) <;> replace hb := xnC hb <;> (try first | exact xfC | exact bff hb (by assumption) | exact bff (by assumption) hb)) | ((with_reducible refine And.intro ?_ ?_); focus exact xoC) | ((with_reducible refine Or.inl ⟨?_, ?_, ?_⟩); (focus rfl); focus exact xaC) | (with_reducible intro hc; (try simp only [capsP, and_true] at hc); (try exact xfC)) | ((fail_if_success (with_reducible first | refine xgon ?_ | intro _)); (conv => whnf); (fail_if_success (fail_if_success (with_reducible first | refine xstp ?_ | refine xgon ?_ | intro _)))))
    · rename_i c3
      have h0 : addE wr (l.getD i default) = 0 := by omega
      rw [e2]
      refine ⟨⟨(i + 1, addW wr (l.getD i default), A ++ [l.getD i default], X', c1', c3), hlt, by rw [hru, stepA, if_pos h0], hX'⟩, [0, 1, 5, 6, 8], by simp only; omega, ?_⟩
      (repeat' first | refine And.intro ?_ ?_ | exact xeC | fail)
      all_goals first
        | (exact xmC)
        | skip
      all_goals first | omega | (simp only [List.length_append, List.length_singleton]; done) | (rw [List.length_append, List.length_singleton]; omega) | (intro i hi; (first | refine app_rowG _ _ _ _ ?_ i hi | refine app_row _ _ _ ?_ i hi); first | rfl | (simp only [Int.toNat_natCast, Nat.zero_add]; rfl))
    · have h0 : addE wr (l.getD i default) ≠ 0 := by omega
      refine ⟨⟨(i + 1, addW wr (l.getD i default), A, X', c1', c2), hlt, by rw [hru, stepA, if_neg h0]; simp only [addW_no h0], hX'⟩, [0, 1, 5, 6, 4], by simp only; omega, ?_⟩
      (repeat' first | refine And.intro ?_ ?_ | exact xeC | fail)
      all_goals first
        | (exact xmC)
        | skip
  · obtain rfl : i = l.length := by omega
    have hacc : accL l = A := by rw [List.take_length] at hrun; unfold accL; rw [hrun]
    repeat' (first | (fail_if_success (with_reducible refine xstp ?_)); first | ((with_reducible refine And.intro (fun (hb : _ = true) => ?_) (fun (hb : _ = false) => ?_)) <;> replace hb := xnC hb <;> (try first | exact xfC | exact bff hb (by assumption) | exact bff (by assumption) hb)) | (with_reducible intro hc; (try simp only [capsP, and_true] at hc); (try exact xfC)) | ((fail_if_success (with_reducible first | refine xgon ?_ | intro _)); (conv => whnf); (fail_if_success (fail_if_success (with_reducible first | refine xstp ?_ | refine xgon ?_ | intro _)))))
    rw [hacc]
    refine FinK.mk ⟨[0, 4], _, _, ⟨c2, rfl, rfl⟩, ?_⟩
    (repeat' first | refine And.intro ?_ ?_ | exact xeC | fail)
    all_goals (exact xmC)
theorem rH41zcF2 {σ : List Sg} {H h' : List Fam} {v : T} {K : T → List Fam → Prop} {H' : List Fam} {v' : T} {N : Nat} (hk : K v' H') (hN : H.length = N := by (try simp only [↓List.length_cons, ↓List.length_nil, Nat.reduceAdd]) <;> rfl) (h : givesF σ N H σ h' = some H' := by (try simp (maxSteps := 1000000) only [givesF, setF, updF, Fam.zeroth, Fam.rk, Ck.rk, C.rk, E.rk, T.rk, key, List.map_cons, List.map_nil, List.cons_append, List.nil_append, List.length_cons, List.length_nil, Option.map_some, Option.bind_some, Nat.reduceAdd, Nat.zero_add, Nat.add_zero, Nat.add_sub_cancel_left, Int.toNat_natCast, reps, List.all_cons, List.all_nil, C.flat, List.append_eq, Bool.not_true, Bool.and_true, Bool.or_false, Bool.or_self, Bool.not_false, List.append_nil, Bool.and_self, ↓chG_rk, encCh_rk4]) <;> rfl) (hv : v.rk σ N = v' := by (try simp only [givesF, setF, updF, Fam.zeroth, Fam.rk, Ck.rk, C.rk, E.rk, T.rk, key, List.map_cons, List.map_nil, List.cons_append, List.nil_append, List.length_cons, List.length_nil, Option.map_some, Option.bind_some, Nat.reduceAdd, Nat.zero_add, Nat.add_zero, Nat.add_sub_cancel_left, Int.toNat_natCast, reps, List.all_cons, List.all_nil, C.flat, List.append_eq, Bool.not_true, Bool.and_true, Bool.or_false, Bool.or_self, Bool.not_false, List.append_nil, Bool.and_self, ↓chG_rk, encCh_rk4]) <;> rfl) : RetG σ H h' v K := ret_mk3 hN h hv hk
set_option maxRecDepth 10000 in
set_option maxHeartbeats 8000000 in
theorem cmade (n : Int) (hn : 1 ≤ n ∧ n ≤ 65536) (w : Bool) (l : List Rc) (c : Nat) (hl : AOk l) :
    Ctr Tryz.prog 7 [.c (.i .i64 n), .c (.sl 0 0 3 0 l.length c)] [.one (rcR w l c)]
      fun v h => v = .t [.c (.s (mkS (madeB n l))), .c .tt] ∧ h = [.one (rcR w l c)] := by
  have hl0 := hl.n
  refine Ctr.mk' tbv mixed Tryz.func7 rfl rfl rfl (fun _ _ => by kernel_rfl) (by kernel_rfl) (by rfl) (by rfl) (by (repeat' first | refine And.intro ?_ ?_ | exact xeC | fail) <;> (exact xmC)) ?_
  repeat' (first | (fail_if_success (with_reducible refine xstp ?_)); first | (with_reducible intro hc; (try simp only [capsP, and_true] at hc); (try exact xfC)) | ((fail_if_success (with_reducible first | refine xgon ?_ | intro _)); (conv => whnf); (fail_if_success (fail_if_success (with_reducible first | refine xstp ?_ | refine xgon ?_ | intro _)))))
  refine cH41zcF3 (σ := []) (nl := []) (cNewW n) ?_
  rintro v h' hq hcaps
  rcases hq with ⟨hq, _⟩ | ⟨_, rfl, rfl⟩
  · exfalso; omega
  refine rH41zcF0 ?_
  repeat' (first | (fail_if_success (with_reducible refine xstp ?_)); first | ((with_reducible refine And.intro (fun (hb : _ = true) => ?_) (fun (hb : _ = false) => ?_)) <;> replace hb := xnC hb <;> (try first | exact xfC | exact bff hb (by assumption) | exact bff (by assumption) hb)) | ((fail_if_success (with_reducible first | refine xgon ?_ | intro _)); (conv => whnf); (fail_if_success (fail_if_success (with_reducible first | refine xstp ?_ | refine xgon ?_ | intro _)))))
  refine LoopK.mk' {p : Nat × List Ch × Nat // p.1 ≤ l.length ∧ p.2.1.map Ch.l = (wrA n (l.take p.1)).L}
    (fun ⟨(i, X, c1), _⟩ => ⟨[(1, .c (.sl 0 0 3 0 l.length c)), (6, .c (.p 1 0 0)), (8, .c (.i .i64 (i : Nat)))],
      [.one (rcR w l c), .one (wrC (wrA n (l.take i)) 2 X.length c1), .one (chR 3 X c1), .many (chG X)]⟩) (fun p => l.length - p.1.1)
    ⟨⟨(0, [], 0), Nat.zero_le _, rfl⟩, [0, 1, 2, 3], ?_⟩ ?_
  · (repeat' first | refine And.intro ?_ ?_ | exact xeC | fail)
    all_goals first
      | (exact xmC)
      | skip
  rintro ⟨⟨i, X, c1⟩, hi, hX⟩
  simp only at hi hX
  have e2 : 0 + ((i : Nat) : Int).toNat = i := by omega
  have hW := (hl.run n i hi)
  have hil : (l.take i).length = i := by rw [List.length_take]; omega
  have hxs := hW.1.xs (by omega) hX
  rcases Nat.lt_or_ge i l.length with hlt | hge
  · have hru := wrA_snoc n (l.take i) (l.getD i default)
    rw [← take_snocG l hlt] at hru
    have h0 := hW.2 hlt
    have hri := (hl.ok _ (mem_getD hlt)).1.1.2
    repeat' (first | (fail_if_success (with_reducible refine xstp ?_)); first | ((with_reducible refine And.intro (fun (hb : _ = true) => ?_) (fun (hb : _ = false) => ?_)) <;> replace hb := xnC hb <;> (try first | exact xfC | exact bff hb (by assumption) | exact bff (by assumption) hb)) | ((with_reducible refine And.intro ?_ ?_); focus exact xoC) | (with_reducible intro hc; (try simp only [capsP, and_true] at hc); (try exact xfC)) | ((fail_if_success (with_reducible first | refine xgon ?_ | intro _)); (conv => whnf); (fail_if_success (fail_if_success (with_reducible first | refine xstp ?_ | refine xgon ?_ | intro _)))))
    rw [e2]
    refine cH41zcF3 (σ := [.whole 1, .whole 2, .whole 3]) (nl := []) (cAddW (wrA n (l.take i)) X c1 (l.getD i default) hX (by omega) (by omega) hxs.2.2.1 (by omega)) ?_ (hle := by (repeat' first | refine And.intro ?_ ?_ | exact xeC | fail) <;> (exact xmC))
    rintro v h' ⟨X', c1', hX', rfl, rfl⟩ hcaps
    rw [h0]
    refine rH41zcF2 ?_
    repeat' (first | (fail_if_success (with_reducible refine xstp ?_)); first | ((with_reducible refine And.intro (fun (hb : _ = true) => ?_) (fun (hb : _ = false) => ?_)) <;> replace hb := xnC hb <;> (try first | exact xfC | exact bff hb (by assumption) | exact bff (by assumption) hb)) | ((with_reducible refine And.intro ?_ ?_); focus exact xoC) | ((fail_if_success (with_reducible first | refine xgon ?_ | intro _)); (conv => whnf); (fail_if_success (fail_if_success (with_reducible first | refine xstp ?_ | refine xgon ?_ | intro _)))))
    refine ⟨⟨(i + 1, X', c1'), hlt, by rw [hru]; exact hX'⟩, [0, 1, 4, 5], by simp only; omega, ?_⟩
    simp only [hru]
    (repeat' first | refine And.intro ?_ ?_ | exact xeC | fail)
    all_goals first
      | (exact xmC)
      | skip
  · obtain rfl : i = l.length := by omega
    have hmk : XOk X := ⟨by omega, fun x hx => by have := hxs.2.1 x hx; exact ⟨this.1, by omega, this.2.2⟩⟩
    repeat' (first | (fail_if_success (with_reducible refine xstp ?_)); first | ((with_reducible refine And.intro (fun (hb : _ = true) => ?_) (fun (hb : _ = false) => ?_)) <;> replace hb := xnC hb <;> (try first | exact xfC | exact bff hb (by assumption) | exact bff (by assumption) hb)) | (with_reducible intro hc; (try simp only [capsP, and_true] at hc); (try exact xfC)) | ((fail_if_success (with_reducible first | refine xgon ?_ | intro _)); (conv => whnf); (fail_if_success (fail_if_success (with_reducible first | refine xstp ?_ | refine xgon ?_ | intro _)))))
    refine cH41zcF3 (σ := [.whole 1, .whole 2, .whole 3]) (nl := []) (cCloseW (wrA n (l.take l.length)) X c1 hmk hX) ?_ (hle := by (repeat' first | refine And.intro ?_ ?_ | exact xeC | fail) <;> (exact xmC))
    have hcl := hW.1.cl
    rw [List.take_length] at hcl ⊢
    rw [if_neg (by rw [hcl]; decide), if_neg (by rw [hcl]; decide)]
    rintro v h' ⟨rfl, rfl⟩ hcaps
    refine rH41zcF0 ?_
    repeat' (first | (fail_if_success (with_reducible refine xstp ?_)); first | ((fail_if_success (with_reducible first | refine xgon ?_ | intro _)); (conv => whnf); (fail_if_success (fail_if_success (with_reducible first | refine xstp ?_ | refine xgon ?_ | intro _)))))
    refine FinK.mk ⟨[0], _, _, ⟨rfl, rfl⟩, ?_⟩
    (repeat' first | refine And.intro ?_ ?_ | exact xeC | fail)
end Go.Proofs.YtkjkbpnhocjenaaGreat


namespace Go.Proofs.YtkjkbpnhocjenaaGreat
open Go.X
set_option linter.unusedSimpArgs false
set_option linter.unusedVariables false
open P4
open P5
def awL : List Rc := [⟨5, [97], [120]⟩, ⟨5, [98], [121]⟩, ⟨9, [97], [122, 122]⟩]
theorem awOk : AOk awL := by
  refine ⟨?_, ?_, by decide⟩
  · intro r hr
    simp only [awL, List.mem_cons, List.not_mem_nil, or_false] at hr
    rcases hr with rfl | rfl | rfl <;> decide
  · unfold awL; simp
/-- The recording of some records: what it answers. -/
structure Rec (A : List Rc) (b : Bg) : Prop where
  ok : BOk b
  rd : ∀ t fr un, readB b t fr un = (selR t fr un A, 0)
  nx : ∀ a, nxB b a = A.find? fun r => decide (a ≤ r.at_)
  cn : ∀ t, cntF (flatT b) t = cntQ A t
  sp : spnB b = spnL A
  tp : (topB b).Pairwise (· < ·) ∧ ∀ t, t ∈ topB b ↔ t ∈ A.map Rc.tp
theorem made_rec {A : List Rc} (h : AOk A) (n : Int) : bgE (madeB n A) = 0 ∧ Rec A (bgO (madeB n A)) := by
  obtain ⟨h1, h2, h3⟩ := made_open h n
  have hL := h.lok n
  have hf := (h.wr n).fl
  rw [h2]
  refine ⟨h1, h3, fun t fr un => ?_, fun a => ?_, fun t => ?_, ?_, ?_⟩
  · rw [read_bag hL, hf]
  · rw [next_bag hL, hf]
  · rw [cnt_bag, hf]
  · rw [span_bag hL, hf]
  · have := top_bag (wrA n A).L
    rw [hf] at this
    exact this
theorem aw_top {b : Bg} (h : Rec awL b) : topB b = [[97], [98]] := by
  refine srt_ext h.tp.1 (by decide) fun x => ?_
  rw [h.tp.2]
  simp [awL]
  grind
theorem st_row {g : Nat → List C} (h0 : g 0 = rowOf encSt [[97], [98]] 0) (h1 : g 1 = rowOf encSt [[97], [98]] 1) (i : Nat) (hi : i < [[97], [98]].length) : g i = rowOf encSt [[97], [98]] i :=
  match i, hi with
  | 0, _ => h0
  | 1, _ => h1
theorem aw_row {g : Nat → List C} (h0 : g 0 = rowOf encR awL 0) (h1 : g 1 = rowOf encR awL 1) (h2 : g 2 = rowOf encR awL 2) (i : Nat) (hi : i < awL.length) : g i = rowOf encR awL i :=
  match i, hi with
  | 0, _ => h0
  | 1, _ => h1
  | 2, _ => h2
theorem rH41zcG0 {σ : List Sg} {H h' : List Fam} {v : T} {K : T → List Fam → Prop} {H' : List Fam} {v' : T} {N : Nat} (hk : K v' H') (hN : H.length = N := by (try simp only [↓List.length_cons, ↓List.length_nil, Nat.reduceAdd]) <;> rfl) (h : givesF σ N H σ h' = some H' := by (try simp (maxSteps := 1000000) only [givesF, setF, updF, Fam.zeroth, Fam.rk, Ck.rk, C.rk, E.rk, T.rk, key, List.map_cons, List.map_nil, List.cons_append, List.nil_append, List.length_cons, List.length_nil, Option.map_some, Option.bind_some, Nat.reduceAdd, Nat.zero_add, Nat.add_zero, Nat.add_sub_cancel_left, Int.toNat_natCast, reps, List.all_cons, List.all_nil, C.flat, List.append_eq, Bool.not_true, Bool.and_true, Bool.or_false, Bool.or_self, Bool.not_false, List.append_nil, Bool.and_self, ↓tpG_rk, ↓cnG_rk]) <;> rfl) (hv : v.rk σ N = v' := by (try simp only [givesF, setF, updF, Fam.zeroth, Fam.rk, Ck.rk, C.rk, E.rk, T.rk, key, List.map_cons, List.map_nil, List.cons_append, List.nil_append, List.length_cons, List.length_nil, Option.map_some, Option.bind_some, Nat.reduceAdd, Nat.zero_add, Nat.add_zero, Nat.add_sub_cancel_left, Int.toNat_natCast, reps, List.all_cons, List.all_nil, C.flat, List.append_eq, Bool.not_true, Bool.and_true, Bool.or_false, Bool.or_self, Bool.not_false, List.append_nil, Bool.and_self, ↓tpG_rk, ↓cnG_rk]) <;> rfl) : RetG σ H h' v K := ret_mk3 hN h hv hk
theorem rH41zcG1 {σ : List Sg} {H h' : List Fam} {v : T} {K : T → List Fam → Prop} {H' : List Fam} {v' : T} {N : Nat} (hk : K v' H') (hN : H.length = N := by (try simp only [↓List.length_cons, ↓List.length_nil, Nat.reduceAdd]) <;> rfl) (h : givesF σ N H σ h' = some H' := by (try simp (maxSteps := 1000000) only [givesF, setF, updF, Fam.zeroth, Fam.rk, Ck.rk, C.rk, E.rk, T.rk, key, List.map_cons, List.map_nil, List.cons_append, List.nil_append, List.length_cons, List.length_nil, Option.map_some, Option.bind_some, Nat.reduceAdd, Nat.zero_add, Nat.add_zero, Nat.add_sub_cancel_left, Int.toNat_natCast, reps, List.all_cons, List.all_nil, C.flat, List.append_eq, Bool.not_true, Bool.and_true, Bool.or_false, Bool.or_self, Bool.not_false, List.append_nil, Bool.and_self, ↓tpG_rk, ↓cnG_rk, encEp_rk0]) <;> rfl) (hv : v.rk σ N = v' := by (try simp only [givesF, setF, updF, Fam.zeroth, Fam.rk, Ck.rk, C.rk, E.rk, T.rk, key, List.map_cons, List.map_nil, List.cons_append, List.nil_append, List.length_cons, List.length_nil, Option.map_some, Option.bind_some, Nat.reduceAdd, Nat.zero_add, Nat.add_zero, Nat.add_sub_cancel_left, Int.toNat_natCast, reps, List.all_cons, List.all_nil, C.flat, List.append_eq, Bool.not_true, Bool.and_true, Bool.or_false, Bool.or_self, Bool.not_false, List.append_nil, Bool.and_self, ↓tpG_rk, ↓cnG_rk, encEp_rk0]) <;> rfl) : RetG σ H h' v K := ret_mk3 hN h hv hk
theorem rH41zcG2 {σ : List Sg} {H h' : List Fam} {v : T} {K : T → List Fam → Prop} {H' : List Fam} {v' : T} {N : Nat} (hk : K v' H') (hN : H.length = N := by (try simp only [↓List.length_cons, ↓List.length_nil, Nat.reduceAdd]) <;> rfl) (h : givesF σ N H σ h' = some H' := by (try simp (maxSteps := 1000000) only [givesF, setF, updF, Fam.zeroth, Fam.rk, Ck.rk, C.rk, E.rk, T.rk, key, List.map_cons, List.map_nil, List.cons_append, List.nil_append, List.length_cons, List.length_nil, Option.map_some, Option.bind_some, Nat.reduceAdd, Nat.zero_add, Nat.add_zero, Nat.add_sub_cancel_left, Int.toNat_natCast, reps, List.all_cons, List.all_nil, C.flat, List.append_eq, Bool.not_true, Bool.and_true, Bool.or_false, Bool.or_self, Bool.not_false, List.append_nil, Bool.and_self, ↓tpG_rk, ↓cnG_rk, encR]) <;> rfl) (hv : v.rk σ N = v' := by (try simp only [givesF, setF, updF, Fam.zeroth, Fam.rk, Ck.rk, C.rk, E.rk, T.rk, key, List.map_cons, List.map_nil, List.cons_append, List.nil_append, List.length_cons, List.length_nil, Option.map_some, Option.bind_some, Nat.reduceAdd, Nat.zero_add, Nat.add_zero, Nat.add_sub_cancel_left, Int.toNat_natCast, reps, List.all_cons, List.all_nil, C.flat, List.append_eq, Bool.not_true, Bool.and_true, Bool.or_false, Bool.or_self, Bool.not_false, List.append_nil, Bool.and_self, ↓tpG_rk, ↓cnG_rk, encR]) <;> rfl) : RetG σ H h' v K := ret_mk3 hN h hv hk
theorem cH41zcG3 {P : Program} {F : Nat} {args : List T} {H : List Fam} {K : T → List Fam → Prop} {σ : List Sg} {nl : List Fam} {args0 : List T} {h0 : List Fam} {Q : T → List Fam → Prop} {H2 H1 : List Fam} {N n : Nat} (hc : Ctr P F args0 h0 Q) (hk : ∀ v h', Q v h' → capsP h' → RetG σ H2 h' v K) (hap : apart σ = true := by rfl) (hnl : nl.all nilB = true := by rfl) (h1 : H ++ nl = H1 := by first | exact List.append_nil _ | ((try simp only [List.cons_append, List.nil_append]) <;> rfl)) (hN : H1.length = N := by (try simp only [↓List.length_cons, ↓List.length_nil, Nat.reduceAdd]) <;> rfl) (hn : H.length = n := by (try simp only [↓List.length_cons, ↓List.length_nil, Nat.reduceAdd]) <;> rfl) (hH : givesF σ N H1 σ h0 = some H2 := by (try simp (maxSteps := 1000000) only [givesF, setF, updF, Fam.zeroth, Fam.rk, Ck.rk, C.rk, E.rk, T.rk, key, List.map_cons, List.map_nil, List.cons_append, List.nil_append, List.length_cons, List.length_nil, Option.map_some, Option.bind_some, Nat.reduceAdd, Nat.zero_add, Nat.add_zero, Nat.add_sub_cancel_left, Int.toNat_natCast, reps, List.all_cons, List.all_nil, C.flat, List.append_eq, Bool.not_true, Bool.and_true, Bool.or_false, Bool.or_self, Bool.not_false, List.append_nil, Bool.and_self, ↓tpG_rk, ↓cnG_rk]) <;> rfl) (hle : leS n H1 σ N σ h0 (belsK N (h0.map (Fam.rk σ N)) (argsK n args (args0.map (T.rk σ N)) True)) := by repeat' first | refine And.intro ?_ ?_ | exact xeC | fail) : CallK P F args H K := CallK.mk3 hc hap hnl h1 hN hn hH hle hk
set_option maxRecDepth 10000 in
set_option maxHeartbeats 16000000 in
theorem cawake : Ctr Tryz.prog 5 [] [] fun v h => v = .c .tt ∧ h = [] := by
  obtain ⟨hE, hR⟩ := made_rec awOk 20
  have hml := made_len awOk 20
  have hal : awL.length = 3 := rfl
  refine Ctr.mk' tbv mixed Tryz.func5 rfl rfl rfl (fun _ _ => by kernel_rfl) (by kernel_rfl) (by rfl) (by rfl) (by (repeat' first | refine And.intro ?_ ?_ | exact xeC | fail) <;> exact xmC2) ?_
  repeat' (first | (fail_if_success (with_reducible refine xstp ?_)); first | (with_reducible intro hc; (try simp only [capsP, and_true] at hc); (try exact xfC)) | ((fail_if_success (with_reducible first | refine xgon ?_ | intro _)); (conv => whnf); (fail_if_success (fail_if_success (with_reducible first | refine xstp ?_ | refine xgon ?_ | intro _)))))
  refine cH41zcG3 (σ := [.whole 0]) (nl := []) (cmade 20 (by omega) true awL 3 awOk) ?_ (hle := by (repeat' first | refine And.intro ?_ ?_ | exact xeC | fail) <;> exact aw_row rfl rfl rfl)
  generalize madeB 20 awL = s at *
  rintro v h' ⟨rfl, rfl⟩ hcaps
  refine rH41zcG0 ?_
  repeat' (first | (fail_if_success (with_reducible refine xstp ?_)); first | ((fail_if_success (with_reducible first | refine xgon ?_ | intro _)); (conv => whnf); (fail_if_success (fail_if_success (with_reducible first | refine xstp ?_ | refine xgon ?_ | intro _)))))
  refine cH41zcG3 (σ := []) (nl := []) (cOpenB s (by omega)) ?_
  rintro v h' hq hcaps
  rcases hq with ⟨hq, _⟩ | ⟨_, X, c, hX, rfl, rfl⟩
  · exact absurd hE hq
  generalize bgO s = b at *
  have hB := hR.ok
  refine rH41zcG1 ?_
  repeat' (first | (fail_if_success (with_reducible refine xstp ?_)); first | ((with_reducible refine And.intro (fun (hb : _ = true) => ?_) (fun (hb : _ = false) => ?_)) <;> replace hb := xnC hb <;> (try first | exact xfC | exact bff hb (by assumption) | exact bff (by assumption) hb)) | ((fail_if_success (with_reducible first | refine xgon ?_ | intro _)); (conv => whnf); (fail_if_success (fail_if_success (with_reducible first | refine xstp ?_ | refine xgon ?_ | intro _)))))
  refine cH41zcG3 (σ := [.whole 1, .whole 2, .whole 3, .whole 4]) (nl := []) (cRead b X c [97] 5 9 hB hX) ?_ (hle := by (repeat' first | refine And.intro ?_ ?_ | exact xeC | fail) <;> exact xmC2)
  rw [hR.rd, show selR [97] 5 9 awL = [⟨5, [97], [120]⟩] by decide]
  rintro v h' ⟨c3, rfl, rfl⟩ hcaps
  refine rH41zcG0 ?_
  repeat' (first | (fail_if_success (with_reducible refine xstp ?_)); first | ((fail_if_success (with_reducible first | refine xgon ?_ | intro _)); (conv => whnf); (fail_if_success (fail_if_success (with_reducible first | refine xstp ?_ | refine xgon ?_ | intro _)))))
  refine cH41zcG3 (σ := [.whole 1, .whole 2, .whole 3, .whole 4]) (nl := []) (cNext b X c 6 hB hX) ?_ (hle := by (repeat' first | refine And.intro ?_ ?_ | exact xeC | fail) <;> exact xmC2)
  rw [hR.nx, show (awL.find? fun r => decide (6 ≤ r.at_)) = some ⟨9, [97], [122, 122]⟩ by decide, show optR (some ⟨9, [97], [122, 122]⟩) = .t [.a (encR ⟨9, [97], [122, 122]⟩), .c (.b true)] from rfl]
  rintro v h' ⟨rfl, rfl⟩ hcaps
  refine rH41zcG2 ?_
  repeat' (first | (fail_if_success (with_reducible refine xstp ?_)); first | ((fail_if_success (with_reducible first | refine xgon ?_ | intro _)); (conv => whnf); (fail_if_success (fail_if_success (with_reducible first | refine xstp ?_ | refine xgon ?_ | intro _)))))
  refine cH41zcG3 (σ := [.whole 1, .whole 2, .whole 3, .whole 4]) (nl := []) (cSpan b X c hB hX) ?_ (hle := by (repeat' first | refine And.intro ?_ ?_ | exact xeC | fail) <;> exact xmC2)
  rw [hR.sp, show spnL awL = .t [.c (.i .i64 5), .c (.i .i64 9), .c .tt] from rfl]
  rintro v h' ⟨rfl, rfl⟩ hcaps
  refine rH41zcG0 ?_
  repeat' (first | (fail_if_success (with_reducible refine xstp ?_)); first | (with_reducible refine Both.mk ?_ ?_) | ((fail_if_success (with_reducible first | refine xgon ?_ | intro _)); (conv => whnf); (fail_if_success (fail_if_success (with_reducible first | refine xstp ?_ | refine Both.mk ?_ ?_ | refine xgon ?_ | intro _)))))
  refine cH41zcG3 (σ := [.whole 1, .whole 2, .whole 3, .whole 4]) (nl := []) (cTopics b X c hB hX) ?_ (hle := by (repeat' first | refine And.intro ?_ ?_ | exact xeC | fail) <;> exact xmC2)
  rw [aw_top hR]
  rintro v h' ⟨c4, rfl, rfl⟩ hcaps
  refine rH41zcG0 ?_
  repeat' (first | (fail_if_success (with_reducible refine xstp ?_)); first | ((fail_if_success (with_reducible first | refine xgon ?_ | intro _)); (conv => whnf); (fail_if_success (fail_if_success (with_reducible first | refine xstp ?_ | refine xgon ?_ | intro _)))))
  · skip
    refine cH41zcG3 (σ := [.whole 7, .whole 8]) (nl := []) (ctexts true true [[97], [98]] [[97], [98]] c4 2 (by decide)) ?_ (hle := by (repeat' first | refine And.intro ?_ ?_ | exact xeC | fail) <;> exact st_row rfl rfl)
    rw [decide_eq_true rfl]
    rintro v h' ⟨rfl, rfl⟩ hcaps
    refine rH41zcG0 ?_
    repeat' (first | (fail_if_success (with_reducible refine xstp ?_)); first | ((with_reducible refine And.intro (fun (hb : _ = true) => ?_) (fun (hb : _ = false) => ?_)) <;> replace hb := xnC hb <;> (try first | exact xfC | exact bff hb (by assumption) | exact bff (by assumption) hb)) | ((fail_if_success (with_reducible first | refine xgon ?_ | intro _)); (conv => whnf); (fail_if_success (fail_if_success (with_reducible first | refine xstp ?_ | refine xgon ?_ | intro _)))))
    refine cH41zcG3 (σ := [.whole 1, .whole 2, .whole 3, .whole 4]) (nl := []) (cCount b X c [97] hB hX) ?_ (hle := by (repeat' first | refine And.intro ?_ ?_ | exact xeC | fail) <;> exact xmC2)
    rw [hR.cn, show cntQ awL [97] = 2 by decide]
    rintro v h' ⟨rfl, rfl⟩ hcaps
    refine rH41zcG0 ?_
    repeat' (first | (fail_if_success (with_reducible refine xstp ?_)); first | ((with_reducible refine And.intro (fun (hb : _ = true) => ?_) (fun (hb : _ = false) => ?_)) <;> replace hb := xnC hb <;> (try first | exact xfC | exact bff hb (by assumption) | exact bff (by assumption) hb)) | ((fail_if_success (with_reducible first | refine xgon ?_ | intro _)); (conv => whnf); (fail_if_success (fail_if_success (with_reducible first | refine xstp ?_ | refine xgon ?_ | intro _)))))
    refine cH41zcG3 (σ := [.whole 1, .whole 2, .whole 3, .whole 4]) (nl := []) (cCount b X c [] hB hX) ?_ (hle := by (repeat' first | refine And.intro ?_ ?_ | exact xeC | fail) <;> exact xmC2)
    rw [hR.cn, show cntQ awL [] = 3 by decide]
    rintro v h' ⟨rfl, rfl⟩ hcaps
    refine rH41zcG0 ?_
    repeat' (first | (fail_if_success (with_reducible refine xstp ?_)); first | ((with_reducible refine And.intro (fun (hb : _ = true) => ?_) (fun (hb : _ = false) => ?_)) <;> replace hb := xnC hb <;> (try first | exact xfC | exact bff hb (by assumption) | exact bff (by assumption) hb)) | ((with_reducible refine And.intro ?_ ?_); focus exact xoC) | ((fail_if_success (with_reducible first | refine xgon ?_ | intro _)); (conv => whnf); (fail_if_success (fail_if_success (with_reducible first | refine xstp ?_ | refine xgon ?_ | intro _)))))
    refine cH41zcG3 (σ := [.whole 5, .whole 0]) (nl := []) (cSame true true [⟨5, [97], [120]⟩] awL c3 3 1 (by decide) (by decide)) ?_
    rw [decide_eq_true (p := [⟨5, [97], [120]⟩] = awL.take 1) rfl]
    rintro v h' ⟨rfl, rfl⟩ hcaps
    refine rH41zcG0 ?_
    repeat' (first | (fail_if_success (with_reducible refine xstp ?_)); first | ((with_reducible refine And.intro (fun (hb : _ = true) => ?_) (fun (hb : _ = false) => ?_)) <;> replace hb := xnC hb <;> (try first | exact xfC | exact bff hb (by assumption) | exact bff (by assumption) hb)) | ((with_reducible refine And.intro ?_ ?_); focus exact xoC) | ((fail_if_success (with_reducible first | refine xgon ?_ | intro _)); (conv => whnf); (fail_if_success (fail_if_success (with_reducible first | refine xstp ?_ | refine xgon ?_ | intro _)))))
    · refine FinK.mk ⟨[], _, _, ⟨rfl, rfl⟩, ?_⟩
      (repeat' first | refine And.intro ?_ ?_ | exact xeC | fail)
    all_goals skip
  · refine cH41zcG3 (σ := [.whole 1, .whole 2, .whole 3, .whole 4]) (nl := []) (cTopics b X c hB hX) ?_ (hle := by (repeat' first | refine And.intro ?_ ?_ | exact xeC | fail) <;> exact xmC2)
    rw [aw_top hR]
    rintro v h' ⟨c4, rfl, rfl⟩ hcaps
    refine rH41zcG0 ?_
    repeat' (first | (fail_if_success (with_reducible refine xstp ?_)); first | ((fail_if_success (with_reducible first | refine xgon ?_ | intro _)); (conv => whnf); (fail_if_success (fail_if_success (with_reducible first | refine xstp ?_ | refine xgon ?_ | intro _)))))
    refine cH41zcG3 (σ := [.whole 8, .whole 7]) (nl := []) (ctexts true true [[97], [98]] [[97], [98]] c4 2 (by decide)) ?_ (hle := by (repeat' first | refine And.intro ?_ ?_ | exact xeC | fail) <;> exact st_row rfl rfl)
    rw [decide_eq_true rfl]
    rintro v h' ⟨rfl, rfl⟩ hcaps
    refine rH41zcG0 ?_
    repeat' (first | (fail_if_success (with_reducible refine xstp ?_)); first | ((with_reducible refine And.intro (fun (hb : _ = true) => ?_) (fun (hb : _ = false) => ?_)) <;> replace hb := xnC hb <;> (try first | exact xfC | exact bff hb (by assumption) | exact bff (by assumption) hb)) | ((fail_if_success (with_reducible first | refine xgon ?_ | intro _)); (conv => whnf); (fail_if_success (fail_if_success (with_reducible first | refine xstp ?_ | refine xgon ?_ | intro _)))))
    refine cH41zcG3 (σ := [.whole 1, .whole 2, .whole 3, .whole 4]) (nl := []) (cCount b X c [97] hB hX) ?_ (hle := by (repeat' first | refine And.intro ?_ ?_ | exact xeC | fail) <;> exact xmC2)
    rw [hR.cn, show cntQ awL [97] = 2 by decide]
    rintro v h' ⟨rfl, rfl⟩ hcaps
    refine rH41zcG0 ?_
    repeat' (first | (fail_if_success (with_reducible refine xstp ?_)); first | ((with_reducible refine And.intro (fun (hb : _ = true) => ?_) (fun (hb : _ = false) => ?_)) <;> replace hb := xnC hb <;> (try first | exact xfC | exact bff hb (by assumption) | exact bff (by assumption) hb)) | ((fail_if_success (with_reducible first | refine xgon ?_ | intro _)); (conv => whnf); (fail_if_success (fail_if_success (with_reducible first | refine xstp ?_ | refine xgon ?_ | intro _)))))
    refine cH41zcG3 (σ := [.whole 1, .whole 2, .whole 3, .whole 4]) (nl := []) (cCount b X c [] hB hX) ?_ (hle := by (repeat' first | refine And.intro ?_ ?_ | exact xeC | fail) <;> exact xmC2)
    rw [hR.cn, show cntQ awL [] = 3 by decide]
    rintro v h' ⟨rfl, rfl⟩ hcaps
    refine rH41zcG0 ?_
    repeat' (first | (fail_if_success (with_reducible refine xstp ?_)); first | ((with_reducible refine And.intro (fun (hb : _ = true) => ?_) (fun (hb : _ = false) => ?_)) <;> replace hb := xnC hb <;> (try first | exact xfC | exact bff hb (by assumption) | exact bff (by assumption) hb)) | ((with_reducible refine And.intro ?_ ?_); focus exact xoC) | ((fail_if_success (with_reducible first | refine xgon ?_ | intro _)); (conv => whnf); (fail_if_success (fail_if_success (with_reducible first | refine xstp ?_ | refine xgon ?_ | intro _)))))
    refine cH41zcG3 (σ := [.whole 5, .whole 0]) (nl := []) (cSame true true [⟨5, [97], [120]⟩] awL c3 3 1 (by decide) (by decide)) ?_
    rw [decide_eq_true (p := [⟨5, [97], [120]⟩] = awL.take 1) rfl]
    rintro v h' ⟨rfl, rfl⟩ hcaps
    refine rH41zcG0 ?_
    repeat' (first | (fail_if_success (with_reducible refine xstp ?_)); first | ((with_reducible refine And.intro (fun (hb : _ = true) => ?_) (fun (hb : _ = false) => ?_)) <;> replace hb := xnC hb <;> (try first | exact xfC | exact bff hb (by assumption) | exact bff (by assumption) hb)) | ((with_reducible refine And.intro ?_ ?_); focus exact xoC) | ((fail_if_success (with_reducible first | refine xgon ?_ | intro _)); (conv => whnf); (fail_if_success (fail_if_success (with_reducible first | refine xstp ?_ | refine xgon ?_ | intro _)))))
    · refine FinK.mk ⟨[], _, _, ⟨rfl, rfl⟩, ?_⟩
      (repeat' first | refine And.intro ?_ ?_ | exact xeC | fail)
    all_goals skip
end Go.Proofs.YtkjkbpnhocjenaaGreat


namespace Go.Proofs.YtkjkbpnhocjenaaGreat
open Go.X
open P4
open P5
theorem rdS_bw {s : ByteArray} {a e n b : Nat} {m : Int} (h : rdS s a e m = (n, b, 0)) : e = 0 ∧ rem s a = venc n ++ rem s b := by
  rw [rdS_U] at h
  have hz : (rdU s a e).2.2 = 0 := by
    by_cases h0 : (rdU s a e).2.2 = 0
    · exact h0
    · rw [if_neg h0] at h
      exact absurd (Prod.mk.inj (Prod.mk.inj h).2).2 h0
  rw [if_pos hz] at h
  split at h
  · exact absurd (Prod.mk.inj (Prod.mk.inj h).2).2 (by decide)
  · unfold rdU at h hz
    split at h
    · rename_i h0
      rw [if_pos h0] at hz
      simp only at hz
      obtain ⟨e1, e2⟩ := Prod.mk.inj h
      obtain ⟨e3, e4⟩ := Prod.mk.inj e2
      have hv : vdec (s.data.toList.drop a) = (n, (vdec (s.data.toList.drop a)).2.1, 0) := by rw [← e1, ← hz]
      obtain ⟨_, h2, h3, h4, _⟩ := vdec_ok hv
      refine ⟨h0, ?_⟩
      unfold rem
      rw [← h4, ← e3, ← List.drop_drop, List.take_append_drop]
    · rename_i h0
      rw [if_neg h0] at hz
      exact absurd hz h0
theorem rdT_bw {s : ByteArray} {a e b : Nat} {x : List UInt8} {m : Int} (h : rdT s a e m = (x, b, 0)) : e = 0 ∧ rem s a = textL x ++ rem s b := by
  rw [rdT_U] at h
  have hz : (rdU s a e).2.2 = 0 := by
    by_cases h0 : (rdU s a e).2.2 = 0
    · exact h0
    · rw [if_neg h0] at h
      exact absurd (Prod.mk.inj (Prod.mk.inj h).2).2 h0
  rw [if_pos hz] at h
  split at h
  · exact absurd (Prod.mk.inj (Prod.mk.inj h).2).2 (by decide)
  split at h
  · exact absurd (Prod.mk.inj (Prod.mk.inj h).2).2 (by decide)
  rename_i h5
  unfold rdU at h hz h5
  by_cases h0 : e = 0
  · rw [if_pos h0] at hz h h5
    simp only at hz h h5
    obtain ⟨e1, e2⟩ := Prod.mk.inj h
    obtain ⟨e3, e4⟩ := Prod.mk.inj e2
    generalize hA : s.data.toList.drop a = A at *
    have hv : vdec A = ((vdec A).1, (vdec A).2.1, 0) := by rw [← hz]
    obtain ⟨_, h2, h3, h4, _⟩ := vdec_ok hv
    refine ⟨h0, ?_⟩
    have hd : s.data.toList.drop (a + (vdec A).2.1) = A.drop (vdec A).2.1 := by rw [← hA, List.drop_drop]
    have hs := congrArg List.length hA
    rw [List.length_drop, size_len] at hs
    rw [hd] at e1
    have hx : x.length = (vdec A).1 := by rw [← e1, List.length_take, List.length_drop]; omega
    unfold rem
    rw [hA, ← e3, ← List.drop_drop, hd, textL, hx, ← h4, ← e1, List.append_assoc, List.take_append_drop, List.take_append_drop]
  · rw [if_neg h0] at hz
    exact absurd hz h0
theorem rdU_bw {s : ByteArray} {a e n b : Nat} (h : rdU s a e = (n, b, 0)) : e = 0 ∧ rem s a = venc n ++ rem s b := by
  unfold rdU at h
  split at h
  · rename_i h0
    obtain ⟨e1, e2⟩ := Prod.mk.inj h
    obtain ⟨e3, e4⟩ := Prod.mk.inj e2
    have hv : vdec (s.data.toList.drop a) = (n, (vdec (s.data.toList.drop a)).2.1, 0) := by rw [← e1, ← e4]
    obtain ⟨_, h2, h3, h4, _⟩ := vdec_ok hv
    refine ⟨h0, ?_⟩
    unfold rem
    rw [← h4, ← e3, ← List.drop_drop, List.take_append_drop]
  · rename_i h0
    exact absurd (Prod.mk.inj (Prod.mk.inj h).2).2 h0
theorem tri_z {α : Type} {x : α × Nat × Nat} (h : x.2.2 = 0) : x = (x.1, x.2.1, 0) := by rw [← h]
theorem recF_bw {s : ByteArray} : ∀ (n a : Nat) (la : Int) (l : List Rc), recF s n a la = some l → a ≤ s.size → rem s a = recsB l ∧ ∀ r ∈ l, okR r
  | 0, _, _, _, h, _ => by simp [recF] at h
  | n + 1, a, la, l, h, ha => by
    unfold recF at h
    split at h
    · rename_i hs
      cases h
      refine ⟨?_, fun r hr => by cases hr⟩
      show s.data.toList.drop a = []
      rw [List.drop_eq_nil_iff, size_len]
      exact hs
    · split at h
      · rename_i hs ho
        obtain ⟨h1, h2, h3⟩ := ho
        have hp := rdPl_pos h1
        have hm := rdPl_mono (e := 0) ha
        cases hq : recF s n (rdPl s a 0).2.1 ((rdAt s a 0).1 : Nat) with
        | none => rw [hq] at h; cases h
        | some M =>
          rw [hq] at h
          cases h
          obtain ⟨i1, i2⟩ := recF_bw n _ _ M hq hm.2.1
          obtain ⟨_, g1⟩ := rdS_bw (tri_z hp.2.1 : rdS s a 0 1099511627776 = _)
          obtain ⟨_, g2⟩ := rdT_bw (tri_z hp.2.2.1 : rdT s (rdAt s a 0).2.1 (rdAt s a 0).2.2 40 = _)
          obtain ⟨_, g3⟩ := rdT_bw (tri_z h1 : rdT s (rdTp s a 0).2.1 (rdTp s a 0).2.2 4000 = _)
          have hat := rdAt_le s a 0
          have hpl : (rdPl s a 0).1.length ≤ 4000 := rdT_len s _ _ 4000
          refine ⟨?_, fun r hr => ?_⟩
          · have q1 : rem s a = venc (rdAt s a 0).1 ++ rem s (rdAt s a 0).2.1 := g1
            have q2 : rem s (rdAt s a 0).2.1 = textL (rdTp s a 0).1 ++ rem s (rdTp s a 0).2.1 := g2
            have q3 : rem s (rdTp s a 0).2.1 = textL (rdPl s a 0).1 ++ rem s (rdPl s a 0).2.1 := g3
            rw [q1, q2, q3, i1]
            simp [recsB, recB, rdRec]
          · rcases List.mem_cons.1 hr with rfl | hr
            · exact ⟨h2, ⟨Int.natCast_nonneg _, hat⟩, hpl⟩
            · exact i2 r hr
      · cases h
theorem recL_bw {y : List UInt8} (h : 0 < (recL (mkS y)).length) : conB (recL (mkS y)) = y ∧ ∀ r ∈ recL (mkS y), okR r := by
  unfold recL at h ⊢
  split at h
  · rename_i hc
    rw [if_pos hc]
    have hle := rdU_le (s := mkS y) (a := 0) (e := 0) (Nat.zero_le _)
    have hx : rdU (mkS y) 0 0 = (1, (rdU (mkS y) 0 0).2.1, 0) := Prod.ext hc.1 (Prod.ext rfl hc.2)
    obtain ⟨_, g1⟩ := rdU_bw hx
    cases hq : recP (mkS y) (rdU (mkS y) 0 0).2.1 0 with
    | none => rw [hq] at h; simp at h
    | some M =>
      obtain ⟨i1, i2⟩ := recF_bw _ _ _ M hq hle.1
      simp only [Option.getD_some]
      refine ⟨?_, i2⟩
      rw [conB, ← i1, ← g1, rem_mk]
  · simp at h
/-! ### Repair -/
def rpN (s : ByteArray) (a : Nat) (x : Rp) : Rp := if (openL (rdT s a 0 200000).1).2 = 0 then rpS x (recL (mkS (openL (rdT s a 0 200000).1).1)) else x
def rpP (s : ByteArray) (a : Nat) (x : Rp) : Rp := rpF s (s.size + 1 - a) a x
theorem rpF_fuel {s : ByteArray} : ∀ (n m a : Nat) (x : Rp), s.size + 1 ≤ a + n → s.size + 1 ≤ a + m → a ≤ s.size → rpF s n a x = rpF s m a x
  | 0, m, a, x, h, _, ha => by omega
  | n + 1, 0, a, x, _, h, ha => by omega
  | n + 1, m + 1, a, x, h, h', ha => by
    unfold rpF
    split
    · rfl
    · split
      · rfl
      · rename_i ho
        have h1 := rdT_pos (Decidable.of_not_not ho)
        have h2 := rdT_mono (e := 0) (m := 200000) ha
        exact rpF_fuel n m _ _ (by omega) (by omega) h2.2
theorem rpP_end {s : ByteArray} {a : Nat} {x : Rp} (h : a = s.size) : rpP s a x = x := by
  unfold rpP
  rw [show s.size + 1 - a = 0 + 1 by omega]
  unfold rpF
  rw [if_pos (by omega)]
theorem rpP_err {s : ByteArray} {a : Nat} {x : Rp} (h : a < s.size) (h0 : (rdT s a 0 200000).2.2 ≠ 0) : rpP s a x = x := by
  unfold rpP
  rw [show s.size + 1 - a = (s.size - a) + 1 by omega]
  unfold rpF
  rw [if_neg (by omega), if_pos h0]
theorem rpP_go {s : ByteArray} {a : Nat} {x : Rp} (h : a < s.size) (h0 : (rdT s a 0 200000).2.2 = 0) : rpP s a x = rpP s (rdT s a 0 200000).2.1 (rpN s a x) := by
  have h1 := rdT_pos h0
  have h2 := rdT_mono (e := 0) (m := 200000) (Nat.le_of_lt h)
  unfold rpP
  rw [show s.size + 1 - a = (s.size - a) + 1 by omega]
  conv => lhs; unfold rpF
  rw [if_neg (by omega), if_neg (fun q => q h0)]
  exact rpF_fuel (s.size - a) (s.size + 1 - (rdT s a 0 200000).2.1) _ _ (by omega) (by omega) h2.2
theorem rpR_P {l : List UInt8} (h : 5 ≤ l.length) : rpR l = rpP (mkS l) 5 ⟨[], 0, 0⟩ := by
  have hz : (mkS l).size = l.length := rfl
  unfold rpR rpP
  exact rpF_fuel _ _ _ _ (by omega) (by omega) (by omega)
theorem drop5 (l : List UInt8) (a : Nat) : (mkS (l.drop 5)).data.toList.drop a = (mkS l).data.toList.drop (a + 5) := by
  show (l.drop 5).drop a = l.drop (a + 5)
  rw [List.drop_drop, Nat.add_comm]
theorem rdT_shift (l : List UInt8) (a : Nat) (m : Int) : rdT (mkS l) (a + 5) 0 m = ((rdT (mkS (l.drop 5)) a 0 m).1, (rdT (mkS (l.drop 5)) a 0 m).2.1 + 5, (rdT (mkS (l.drop 5)) a 0 m).2.2) := by
  unfold rdT
  rw [if_pos rfl, if_pos rfl, drop5]
  simp only
  congr 2
  omega
/-- The shape of what is repaired so far. -/
structure RpI (a : Nat) (x : Rp) : Prop where
  L : x.L.length ≤ a
  n : x.n ≤ 20000 * a
  ch : ∀ y ∈ x.L, 0 < y.length ∧ y.length ≤ 20000 ∧ ∀ r ∈ y, okR r
  la : x.la = (lastR x.L).at_
theorem RpI.init (a : Nat) : RpI a ⟨[], 0, 0⟩ := ⟨Nat.zero_le _, Nat.zero_le _, fun y hy => (by cases hy), rfl⟩
theorem RpI.up {a b : Nat} {x : Rp} (h : RpI a x) (hab : a ≤ b) : RpI b x := ⟨Nat.le_trans h.L hab, by have := h.n; omega, h.ch, h.la⟩
theorem lastR_snoc (L : List (List Rc)) (y : List Rc) : lastR (L ++ [y]) = y.getD (y.length - 1) default := by
  unfold lastR
  rw [if_pos (by simp)]
  have e : (L ++ [y]).getD ((L ++ [y]).length - 1) default = y := by simp
  rw [e]
theorem RpI.add {a : Nat} {x : Rp} {l : List Rc} (h : RpI a x) (hl : l.length ≤ 20000) (ho : ∀ r ∈ l, okR r) : RpI (a + 1) (rpS x l) := by
  unfold rpS
  split
  · rename_i hc
    refine ⟨?_, ?_, fun y hy => ?_, ?_⟩
    · have := h.L
      rw [List.length_append, List.length_singleton]; omega
    · have := h.n
      simp only
      omega
    · rcases List.mem_append.1 hy with q | q
      · exact h.ch y q
      · rw [List.mem_singleton.1 q]
        exact ⟨hc.1, hl, ho⟩
    · simp only [lastR_snoc]
  · exact h.up (Nat.le_succ a)
end Go.Proofs.YtkjkbpnhocjenaaGreat


namespace Go.Proofs.YtkjkbpnhocjenaaGreat
open Go.X
set_option linter.unusedSimpArgs false
set_option linter.unusedVariables false
open P4
open P5
theorem rdT_size (s : ByteArray) (a e : Nat) (m : Int) : (rdT s a e m).1.length ≤ s.size := by
  rw [rdT_U]
  split
  · split
    · simp
    · split
      · simp
      · simp only [List.length_take, List.length_drop, size_len]; omega
  · simp
/-- What Repair returns. -/
def repV (l : List UInt8) : T := .t [.c (.s (mkS (if rpE l = 0 then bagB (rpR l).L else []))), .c (.i .i64 ((if rpE l = 0 then (rpR l).n else 0 : Nat) : Nat)), .c (.i .i64 (rpE l : Nat))]
theorem repV_bad {l : List UInt8} {e : Nat} (h : rpE l = e) (h0 : e ≠ 0) : repV l = .t [.c (.s (mkS [])), .c (.i .i64 0), .c (.i .i64 (e : Nat))] := by
  unfold repV
  rw [h, if_neg h0, if_neg h0]
  rfl
theorem repV_ok {l : List UInt8} (h : rpE l = 0) {x : Rp} (hx : rpR l = x) : repV l = .t [.c (.s (mkS (bagB x.L))), .c (.i .i64 (x.n : Nat)), .c (.i .i64 0)] := by
  unfold repV
  rw [h, if_pos rfl, if_pos rfl, hx]
  rfl
theorem RpI.xok {a : Nat} {x : Rp} (h : RpI a x) (ha : a ≤ 20000) {X : List Ch} (hX : ls X = x.L) : XOk X := by
  have h1 := h.L
  rw [← hX, List.length_map] at h1
  refine ⟨by omega, fun y hy => ?_⟩
  have := h.ch y.l (by rw [← hX]; exact List.mem_map.2 ⟨y, hy, rfl⟩)
  exact ⟨this.1, by omega, this.2.2⟩
theorem rH41zcR0 {σ : List Sg} {H h' : List Fam} {v : T} {K : T → List Fam → Prop} {H' : List Fam} {v' : T} {N : Nat} (hk : K v' H') (hN : H.length = N := by (try simp only [↓List.length_cons, ↓List.length_nil, Nat.reduceAdd]) <;> rfl) (h : givesF σ N H σ h' = some H' := by (try simp (maxSteps := 1000000) only [givesF, setF, updF, Fam.zeroth, Fam.rk, Ck.rk, C.rk, E.rk, T.rk, key, List.map_cons, List.map_nil, List.cons_append, List.nil_append, List.length_cons, List.length_nil, Option.map_some, Option.bind_some, Nat.reduceAdd, Nat.zero_add, Nat.add_zero, Nat.add_sub_cancel_left, Int.toNat_natCast, reps, List.all_cons, List.all_nil, C.flat, List.append_eq, Bool.not_true, Bool.and_true, Bool.or_false, Bool.or_self, Bool.not_false, List.append_nil, Bool.and_self, ↓chG_rk]) <;> rfl) (hv : v.rk σ N = v' := by (try simp only [givesF, setF, updF, Fam.zeroth, Fam.rk, Ck.rk, C.rk, E.rk, T.rk, key, List.map_cons, List.map_nil, List.cons_append, List.nil_append, List.length_cons, List.length_nil, Option.map_some, Option.bind_some, Nat.reduceAdd, Nat.zero_add, Nat.add_zero, Nat.add_sub_cancel_left, Int.toNat_natCast, reps, List.all_cons, List.all_nil, C.flat, List.append_eq, Bool.not_true, Bool.and_true, Bool.or_false, Bool.or_self, Bool.not_false, List.append_nil, Bool.and_self, ↓chG_rk]) <;> rfl) : RetG σ H h' v K := ret_mk3 hN h hv hk
theorem cH41zcR1 {P : Program} {F : Nat} {args : List T} {H : List Fam} {K : T → List Fam → Prop} {σ : List Sg} {nl : List Fam} {args0 : List T} {h0 : List Fam} {Q : T → List Fam → Prop} {H2 H1 : List Fam} {N n : Nat} (hc : Ctr P F args0 h0 Q) (hk : ∀ v h', Q v h' → capsP h' → RetG σ H2 h' v K) (hap : apart σ = true := by rfl) (hnl : nl.all nilB = true := by rfl) (h1 : H ++ nl = H1 := by first | exact List.append_nil _ | ((try simp only [List.cons_append, List.nil_append]) <;> rfl)) (hN : H1.length = N := by (try simp only [↓List.length_cons, ↓List.length_nil, Nat.reduceAdd]) <;> rfl) (hn : H.length = n := by (try simp only [↓List.length_cons, ↓List.length_nil, Nat.reduceAdd]) <;> rfl) (hH : givesF σ N H1 σ h0 = some H2 := by (try simp (maxSteps := 1000000) only [givesF, setF, updF, Fam.zeroth, Fam.rk, Ck.rk, C.rk, E.rk, T.rk, key, List.map_cons, List.map_nil, List.cons_append, List.nil_append, List.length_cons, List.length_nil, Option.map_some, Option.bind_some, Nat.reduceAdd, Nat.zero_add, Nat.add_zero, Nat.add_sub_cancel_left, Int.toNat_natCast, reps, List.all_cons, List.all_nil, C.flat, List.append_eq, Bool.not_true, Bool.and_true, Bool.or_false, Bool.or_self, Bool.not_false, List.append_nil, Bool.and_self, ↓chG_rk]) <;> rfl) (hle : leS n H1 σ N σ h0 (belsK N (h0.map (Fam.rk σ N)) (argsK n args (args0.map (T.rk σ N)) True)) := by repeat' first | refine And.intro ?_ ?_ | exact xeC | fail) : CallK P F args H K := CallK.mk3 hc hap hnl h1 hN hn hH hle hk
set_option maxRecDepth 10000 in
set_option maxHeartbeats 16000000 in
theorem cRepair (l : List UInt8) (hl : l.length ≤ 20000) :
    Ctr Tryz.prog 9 [.c (.s (mkS l))] [] fun v h => v = repV l ∧ h = [] := by
  have hz : (mkS l).size = l.length := rfl
  have hm : ({ data := #[82, 66, 65, 71, 49] } : ByteArray) = mkS magic := rfl
  have t1 : (mkS l).extract 0 (Int.toNat 5) = mkS (l.take 5) := by rw [mkS_ext]; rfl
  have t2 : (mkS l).extract (Int.toNat 5) (mkS l).size = mkS (l.drop 5) := by rw [mkS_ext, hz, List.take_length]; rfl
  have t3 : (mkS l).extract 5 (mkS l).size = mkS (l.drop 5) := t2
  have t4 : (mkS l).extract 0 5 = mkS (l.take 5) := t1
  refine Ctr.mk' tbv mixed Tryz.func9 rfl rfl rfl (fun _ _ => by kernel_rfl) (by kernel_rfl) (by rfl) (by rfl) (by (repeat' first | refine And.intro ?_ ?_ | exact xeC | fail) <;> (exact xmC)) ?_
  repeat' (first | (fail_if_success (with_reducible refine xstp ?_)); first | ((with_reducible refine And.intro (fun (hb : _ = true) => ?_) (fun (hb : _ = false) => ?_)) <;> replace hb := xnC hb <;> (try first | exact xfC | exact bff hb (by assumption) | exact bff (by assumption) hb)) | ((with_reducible refine And.intro ?_ ?_); focus exact xoC) | (with_reducible intro hc; (try simp only [capsP, and_true] at hc); (try exact xfC)) | ((fail_if_success (with_reducible first | refine xgon ?_ | intro _)); (conv => whnf); (fail_if_success (fail_if_success (with_reducible first | refine xstp ?_ | refine xgon ?_ | intro _)))))
  · rw [repV_bad (show rpE l = 1 from if_pos (by omega)) (by decide)]
    refine FinK.mk ⟨[], _, _, ⟨rfl, rfl⟩, ?_⟩
    (repeat' first | refine And.intro ?_ ?_ | exact xeC | fail)
  · rw [t1, hm, mkS_inj] at hb
    rw [repV_bad (show rpE l = 2 by unfold rpE; rw [if_neg (by omega), if_neg hb]) (by decide)]
    refine FinK.mk ⟨[], _, _, ⟨rfl, rfl⟩, ?_⟩
    (repeat' first | refine And.intro ?_ ?_ | exact xeC | fail)
  rw [t1, hm, mkS_inj] at hb
  have hE : rpE l = 0 := by unfold rpE; rw [if_neg (by omega), if_pos hb]
  have hR := rpR_P (l := l) (by omega)
  rw [t2]
  have hsz : (mkS (l.drop 5)).size = l.length - 5 := by show (l.drop 5).length = _; rw [List.length_drop]
  have hsh := rdT_shift l
  generalize hs : mkS (l.drop 5) = s at *
  refine cH41zcR1 (σ := []) (nl := []) (cNew s) ?_
  rintro v h' ⟨rfl, rfl⟩ hcaps
  refine rH41zcR0 ?_
  repeat' (first | (fail_if_success (with_reducible refine xstp ?_)); first | ((fail_if_success (with_reducible first | refine xgon ?_ | intro _)); (conv => whnf); (fail_if_success (fail_if_success (with_reducible first | refine xstp ?_ | refine xgon ?_ | intro _)))))
  refine LoopK.mk' {p : Nat × Rp × List Ch × Nat // p.1 ≤ s.size ∧ RpI p.1 p.2.1 ∧ rpR l = rpP (mkS l) (p.1 + 5) p.2.1 ∧ ls p.2.2.1 = p.2.1.L}
    (fun ⟨(a, x, X, c), _⟩ => ⟨[(5, .c (.p 0 0 0)), (6, .c (.sl 1 0 2 0 X.length c)), (7, .c (.i .i64 (x.n : Nat))), (8, .c (.i .i64 x.la))],
      [.one (rdC s a 0), .one (chR 2 X c), .many (chG X)]⟩) (fun p => s.size - p.1.1)
    ⟨⟨(0, ⟨[], 0, 0⟩, [], 0), Nat.zero_le _, RpI.init 0, hR, rfl⟩, [0, 99, 98], ?_⟩ ?_
  · (repeat' first | refine And.intro ?_ ?_ | exact xeC | fail)
    all_goals first
      | (exact xmC)
      | exact fun x => if_neg (Nat.not_lt_zero x)
      | skip
  rintro ⟨⟨a, x, X, c⟩, ha, hI, hx, hX⟩
  simp only at ha hI hx hX
  have hmk := hI.xok (by omega) hX
  have hn := hI.n
  have hXl := hmk.n
  repeat' (first | (fail_if_success (with_reducible refine xstp ?_)); first | (with_reducible intro hc; (try simp only [capsP, and_true] at hc); (try exact xfC)) | ((fail_if_success (with_reducible first | refine xgon ?_ | intro _)); (conv => whnf); (fail_if_success (fail_if_success (with_reducible first | refine xstp ?_ | refine xgon ?_ | intro _)))))
  refine cH41zcR1 (σ := [.whole 0]) (nl := []) (cLeft s a 0 ha (by omega)) ?_ (hle := by (repeat' first | refine And.intro ?_ ?_ | exact xeC | fail) <;> (exact xmC))
  rintro v h' ⟨rfl, rfl⟩ hcaps
  refine rH41zcR0 ?_
  repeat' (first | (fail_if_success (with_reducible refine xstp ?_)); first | ((with_reducible refine And.intro (fun (hb : _ = true) => ?_) (fun (hb : _ = false) => ?_)) <;> replace hb := xnC hb <;> (try first | exact xfC | exact bff hb (by assumption) | exact bff (by assumption) hb)) | ((fail_if_success (with_reducible first | refine xgon ?_ | intro _)); (conv => whnf); (fail_if_success (fail_if_success (with_reducible first | refine xstp ?_ | refine xgon ?_ | intro _)))))
  · have hlt : a < s.size := by omega
    have hmo := rdT_mono (s := s) (e := 0) (m := 200000) ha
    have hyl := rdT_len s a 0 200000
    have hys := rdT_size s a 0 200000
    refine cH41zcR1 (σ := [.whole 0]) (nl := []) (crText s a 0 200000 ha (by omega) (by omega)) ?_ (hle := by (repeat' first | refine And.intro ?_ ?_ | exact xeC | fail) <;> (exact xmC))
    rintro v h' ⟨rfl, rfl⟩ hcaps
    refine rH41zcR0 ?_
    repeat' (first | (fail_if_success (with_reducible refine xstp ?_)); first | ((fail_if_success (with_reducible first | refine xgon ?_ | intro _)); (conv => whnf); (fail_if_success (fail_if_success (with_reducible first | refine xstp ?_ | refine xgon ?_ | intro _)))))
    refine cH41zcR1 (σ := [.whole 0]) (nl := []) (cErr s (rdT s a 0 200000).2.1 (rdT s a 0 200000).2.2) ?_ (hle := by (repeat' first | refine And.intro ?_ ?_ | exact xeC | fail) <;> (exact xmC))
    rintro v h' ⟨rfl, rfl⟩ hcaps
    refine rH41zcR0 ?_
    have hgo := hsh a 200000
    generalize hq : rdT s a 0 200000 = q at *
    obtain ⟨y, a2, e⟩ := q
    simp only at hmo hyl hgo hys
    repeat' (first | (fail_if_success (with_reducible refine xstp ?_)); first | ((with_reducible refine And.intro (fun (hb : _ = true) => ?_) (fun (hb : _ = false) => ?_)) <;> replace hb := xnC hb <;> (try first | exact xfC | exact bff hb (by assumption) | exact bff (by assumption) hb)) | ((fail_if_success (with_reducible first | refine xgon ?_ | intro _)); (conv => whnf); (fail_if_success (fail_if_success (with_reducible first | refine xstp ?_ | refine xgon ?_ | intro _)))))
    · have hfin : repV l = _ := repV_ok hE (hx.trans (rpP_err (by omega) (by rw [hgo]; simp only; omega)))
      refine cH41zcR1 (σ := [.whole 1, .whole 2]) (nl := []) (cassemble X c hmk) ?_ (hle := by (repeat' first | refine And.intro ?_ ?_ | exact xeC | fail) <;> (exact xmC))
      rintro v h' ⟨rfl, rfl⟩ hcaps
      rw [hX]
      refine rH41zcR0 ?_
      repeat' (first | (fail_if_success (with_reducible refine xstp ?_)); first | ((fail_if_success (with_reducible first | refine xgon ?_ | intro _)); (conv => whnf); (fail_if_success (fail_if_success (with_reducible first | refine xstp ?_ | refine xgon ?_ | intro _)))))
      rw [hfin]
      refine FinK.mk ⟨[], _, _, ⟨rfl, rfl⟩, ?_⟩
      (repeat' first | refine And.intro ?_ ?_ | exact xeC | fail)
    obtain rfl : e = 0 := by omega
    have ha2 : a + 1 ≤ a2 := by
      have := rdT_pos (s := s) (a := a) (e := 0) (m := 200000) (by rw [hq])
      rw [hq] at this
      exact this.2
    refine cH41zcR1 (σ := []) (nl := []) (cOpen y (by omega)) ?_ (hle := by (repeat' first | refine And.intro ?_ ?_ | exact xeC | fail) <;> (exact xmC))
    rintro v h' ⟨rfl, rfl⟩ hcaps
    refine rH41zcR0 ?_
    have hol := openL_len y
    have hnx : rpP (mkS l) (a + 5) x = rpP (mkS l) (a2 + 5) (if (openL y).2 = 0 then rpS x (recL (mkS (openL y).1)) else x) := by
      rw [rpP_go (by omega) (by rw [hgo])]
      unfold rpN
      rw [hgo]
    generalize openL y = o at *
    obtain ⟨z, oe⟩ := o
    simp only at hol hnx
    repeat' (first | (fail_if_success (with_reducible refine xstp ?_)); first | ((with_reducible refine And.intro (fun (hb : _ = true) => ?_) (fun (hb : _ = false) => ?_)) <;> replace hb := xnC hb <;> (try first | exact xfC | exact bff hb (by assumption) | exact bff (by assumption) hb)) | ((fail_if_success (with_reducible first | refine xgon ?_ | intro _)); (conv => whnf); (fail_if_success (fail_if_success (with_reducible first | refine xstp ?_ | refine xgon ?_ | intro _)))))
    · rw [if_neg (by omega)] at hnx
      refine ⟨⟨(a2, x, X, c), by omega, (hI.up (by omega)), (hx.trans hnx), hX⟩, [0, 1, 2], by simp only; omega, ?_⟩
      (repeat' first | refine And.intro ?_ ?_ | exact xeC | fail)
      all_goals first
        | (exact xmC)
        | skip
    rw [if_pos (by omega)] at hnx
    have hRl := recL_len (mkS z)
    have hzz : (mkS z).size = z.length := rfl
    have hbw := recL_bw (y := z)
    refine cH41zcR1 (σ := []) (nl := []) (crecs (mkS z) (by omega)) ?_ (hle := by (repeat' first | refine And.intro ?_ ?_ | exact xeC | fail) <;> (exact xmC))
    rintro v h' ⟨c3, rfl, rfl⟩ hcaps
    generalize hRR : recL (mkS z) = R at *
    refine rH41zcR0 ?_
    repeat' (first | (fail_if_success (with_reducible refine xstp ?_)); first | ((with_reducible refine And.intro (fun (hb : _ = true) => ?_) (fun (hb : _ = false) => ?_)) <;> replace hb := xnC hb <;> (try first | exact xfC | exact bff hb (by assumption) | exact bff (by assumption) hb)) | ((with_reducible refine And.intro ?_ ?_); focus exact xoC) | ((with_reducible refine Or.inl ⟨?_, ?_, ?_⟩); (focus rfl); focus exact xaC) | (with_reducible intro hc; (try simp only [capsP, and_true] at hc); (try exact xfC)) | ((fail_if_success (with_reducible first | refine xgon ?_ | intro _)); (conv => whnf); (fail_if_success (fail_if_success (with_reducible first | refine xstp ?_ | refine xgon ?_ | intro _)))))
    · rw [show rpS x R = x from if_neg (fun q => hb q.1)] at hnx
      refine ⟨⟨(a2, x, X, c), by omega, (hI.up (by omega)), (hx.trans hnx), hX⟩, [0, 1, 2], by simp only; omega, ?_⟩
      (repeat' first | refine And.intro ?_ ?_ | exact xeC | fail)
      all_goals first
        | (exact xmC)
        | skip
    · have h9 : (R.getD 0 default).at_ < x.la := hb
      rw [show rpS x R = x from if_neg (fun q => by omega)] at hnx
      repeat' (first | (fail_if_success (with_reducible refine xstp ?_)); first | ((with_reducible refine And.intro (fun (hb : _ = true) => ?_) (fun (hb : _ = false) => ?_)) <;> replace hb := xnC hb <;> (try first | exact xfC | exact bff hb (by assumption) | exact bff (by assumption) hb)) | (with_reducible refine Both.mk ?_ ?_) | ((with_reducible refine And.intro ?_ ?_); focus exact xoC) | ((with_reducible refine Or.inl ⟨?_, ?_, ?_⟩); (focus rfl); focus exact xaC) | ((with_reducible refine xwB ?_ ?_); focus exact xaC) | ((with_reducible refine xwC ?_ ?_); focus exact xaC) | ((with_reducible refine xwD ?_ ?_); focus exact xaC) | ((with_reducible refine xwE ?_ ?_); focus exact xaC) | (with_reducible intro hc; (try simp only [capsP, and_true] at hc); (try exact xfC)) | ((fail_if_success (with_reducible first | refine xgon ?_ | intro _)); (conv => whnf); (fail_if_success (fail_if_success (with_reducible first | refine xstp ?_ | refine Both.mk ?_ ?_ | refine xgon ?_ | intro _)))))
      refine ⟨⟨(a2, x, X, c), by omega, (hI.up (by omega)), (hx.trans hnx), hX⟩, [0, 1, 2], by simp only; omega, ?_⟩
      (repeat' first | refine And.intro ?_ ?_ | exact xeC | fail)
      all_goals first
        | (exact xmC)
        | skip
    · rename_i c4
      have h9 : x.la ≤ (R.getD 0 default).at_ := by assumption
      have h10 : 0 < R.length := by assumption
      obtain ⟨hcz, hok⟩ := hbw h10
      subst hcz
      have hsp : rpS x R = ⟨x.L ++ [R], x.n + R.length, (R.getD (R.length - 1) default).at_⟩ := if_pos ⟨h10, h9⟩
      have hI2 := (hI.add (l := R) (by omega) hok).up (b := a2) (by omega)
      rw [hsp] at hnx hI2
      refine ⟨⟨(a2, ⟨x.L ++ [R], x.n + R.length, (R.getD (R.length - 1) default).at_⟩, X ++ [⟨R, c3⟩], c4), by omega, hI2, hx.trans hnx, by simp [← hX]⟩, [0, 5, .adopt 2 X.length 3], by simp only; omega, ?_⟩
      (repeat' first | refine And.intro ?_ ?_ | exact xeC | fail)
      all_goals first
        | (exact xmC)
        | (simp; done)
        | exact chApp (G := 3) (y := ⟨R, c3⟩) (fun i hi => by simp [key, hi]) (by simp [key]) rfl
        | exact fun x hx => ixG_leA chF hx
        | skip
      refine ixG_leAn chF ?_
      refine ⟨rfl, rfl, rfl, rfl, Nat.le_refl _, rfl, fun i hi => rfl, ?_⟩
      (repeat' first | refine And.intro ?_ ?_ | exact xeC | fail)
      all_goals first
        | (exact xmC)
        | (simp; done)
        | (rw [show 0 + ((R.length : Int) - 1).toNat = R.length - 1 by omega]; done)
        | skip
  · obtain rfl : a = s.size := by omega
    have hfin : repV l = _ := repV_ok hE (hx.trans (rpP_end (by omega)))
    repeat' (first | (fail_if_success (with_reducible refine xstp ?_)); first | ((with_reducible refine And.intro (fun (hb : _ = true) => ?_) (fun (hb : _ = false) => ?_)) <;> replace hb := xnC hb <;> (try first | exact xfC | exact bff hb (by assumption) | exact bff (by assumption) hb)) | (with_reducible refine Both.mk ?_ ?_) | ((with_reducible refine And.intro ?_ ?_); focus exact xoC) | ((with_reducible refine Or.inl ⟨?_, ?_, ?_⟩); (focus rfl); focus exact xaC) | ((with_reducible refine xwB ?_ ?_); focus exact xaC) | ((with_reducible refine xwC ?_ ?_); focus exact xaC) | ((with_reducible refine xwD ?_ ?_); focus exact xaC) | ((with_reducible refine xwE ?_ ?_); focus exact xaC) | (with_reducible intro hc; (try simp only [capsP, and_true] at hc); (try exact xfC)) | ((fail_if_success (with_reducible first | refine xgon ?_ | intro _)); (conv => whnf); (fail_if_success (fail_if_success (with_reducible first | refine xstp ?_ | refine Both.mk ?_ ?_ | refine xgon ?_ | intro _)))))
    refine cH41zcR1 (σ := [.whole 1, .whole 2]) (nl := []) (cassemble X c hmk) ?_ (hle := by (repeat' first | refine And.intro ?_ ?_ | exact xeC | fail) <;> (exact xmC))
    rintro v h' ⟨rfl, rfl⟩ hcaps
    rw [hX]
    refine rH41zcR0 ?_
    repeat' (first | (fail_if_success (with_reducible refine xstp ?_)); first | ((fail_if_success (with_reducible first | refine xgon ?_ | intro _)); (conv => whnf); (fail_if_success (fail_if_success (with_reducible first | refine xstp ?_ | refine xgon ?_ | intro _)))))
    rw [hfin]
    refine FinK.mk ⟨[], _, _, ⟨rfl, rfl⟩, ?_⟩
    (repeat' first | refine And.intro ?_ ?_ | exact xeC | fail)
end Go.Proofs.YtkjkbpnhocjenaaGreat


namespace Go.Proofs.YtkjkbpnhocjenaaGreat
open Go.X
set_option linter.unusedSimpArgs false
set_option linter.unusedVariables false
open P4
open P5
theorem rpP_stop {s : ByteArray} {a : Nat} {x : Rp} (h : a ≤ s.size) (h0 : (rdT s a 0 200000).2.2 ≠ 0) : rpP s a x = x := by
  rcases Nat.lt_or_ge a s.size with q | q
  · exact rpP_err q h0
  · exact rpP_end (by omega)
theorem rH41zcS0 {σ : List Sg} {H h' : List Fam} {v : T} {K : T → List Fam → Prop} {H' : List Fam} {v' : T} {N : Nat} (hk : K v' H') (hN : H.length = N := by (try simp only [↓List.length_cons, ↓List.length_nil, Nat.reduceAdd]) <;> rfl) (h : givesF σ N H σ h' = some H' := by (try simp (maxSteps := 1000000) only [givesF, setF, updF, Fam.zeroth, Fam.rk, Ck.rk, C.rk, E.rk, T.rk, key, List.map_cons, List.map_nil, List.cons_append, List.nil_append, List.length_cons, List.length_nil, Option.map_some, Option.bind_some, Nat.reduceAdd, Nat.zero_add, Nat.add_zero, Nat.add_sub_cancel_left, Int.toNat_natCast, reps, List.all_cons, List.all_nil, C.flat, List.append_eq, Bool.not_true, Bool.and_true, Bool.or_false, Bool.or_self, Bool.not_false, List.append_nil, Bool.and_self, ↓chG_rk]) <;> rfl) (hv : v.rk σ N = v' := by (try simp only [givesF, setF, updF, Fam.zeroth, Fam.rk, Ck.rk, C.rk, E.rk, T.rk, key, List.map_cons, List.map_nil, List.cons_append, List.nil_append, List.length_cons, List.length_nil, Option.map_some, Option.bind_some, Nat.reduceAdd, Nat.zero_add, Nat.add_zero, Nat.add_sub_cancel_left, Int.toNat_natCast, reps, List.all_cons, List.all_nil, C.flat, List.append_eq, Bool.not_true, Bool.and_true, Bool.or_false, Bool.or_self, Bool.not_false, List.append_nil, Bool.and_self, ↓chG_rk]) <;> rfl) : RetG σ H h' v K := ret_mk3 hN h hv hk
theorem rH41zcS1 {σ : List Sg} {H h' : List Fam} {v : T} {K : T → List Fam → Prop} {H' : List Fam} {v' : T} {N : Nat} (hk : K v' H') (hN : H.length = N := by (try simp only [↓List.length_cons, ↓List.length_nil, Nat.reduceAdd]) <;> rfl) (h : givesF σ N H σ h' = some H' := by (try simp (maxSteps := 1000000) only [givesF, setF, updF, Fam.zeroth, Fam.rk, Ck.rk, C.rk, E.rk, T.rk, key, List.map_cons, List.map_nil, List.cons_append, List.nil_append, List.length_cons, List.length_nil, Option.map_some, Option.bind_some, Nat.reduceAdd, Nat.zero_add, Nat.add_zero, Nat.add_sub_cancel_left, Int.toNat_natCast, reps, List.all_cons, List.all_nil, C.flat, List.append_eq, Bool.not_true, Bool.and_true, Bool.or_false, Bool.or_self, Bool.not_false, List.append_nil, Bool.and_self, ↓chG_rk, encRh_rk1]) <;> rfl) (hv : v.rk σ N = v' := by (try simp only [givesF, setF, updF, Fam.zeroth, Fam.rk, Ck.rk, C.rk, E.rk, T.rk, key, List.map_cons, List.map_nil, List.cons_append, List.nil_append, List.length_cons, List.length_nil, Option.map_some, Option.bind_some, Nat.reduceAdd, Nat.zero_add, Nat.add_zero, Nat.add_sub_cancel_left, Int.toNat_natCast, reps, List.all_cons, List.all_nil, C.flat, List.append_eq, Bool.not_true, Bool.and_true, Bool.or_false, Bool.or_self, Bool.not_false, List.append_nil, Bool.and_self, ↓chG_rk, encRh_rk1]) <;> rfl) : RetG σ H h' v K := ret_mk3 hN h hv hk
theorem rH41zcS2 {σ : List Sg} {H h' : List Fam} {v : T} {K : T → List Fam → Prop} {H' : List Fam} {v' : T} {N : Nat} (hk : K v' H') (hN : H.length = N := by (try simp only [↓List.length_cons, ↓List.length_nil, Nat.reduceAdd]) <;> rfl) (h : givesF σ N H σ h' = some H' := by (try simp (maxSteps := 1000000) only [givesF, setF, updF, Fam.zeroth, Fam.rk, Ck.rk, C.rk, E.rk, T.rk, key, List.map_cons, List.map_nil, List.cons_append, List.nil_append, List.length_cons, List.length_nil, Option.map_some, Option.bind_some, Nat.reduceAdd, Nat.zero_add, Nat.add_zero, Nat.add_sub_cancel_left, Int.toNat_natCast, reps, List.all_cons, List.all_nil, C.flat, List.append_eq, Bool.not_true, Bool.and_true, Bool.or_false, Bool.or_self, Bool.not_false, List.append_nil, Bool.and_self, ↓chG_rk, encR, encRh_rk1]) <;> rfl) (hv : v.rk σ N = v' := by (try simp only [givesF, setF, updF, Fam.zeroth, Fam.rk, Ck.rk, C.rk, E.rk, T.rk, key, List.map_cons, List.map_nil, List.cons_append, List.nil_append, List.length_cons, List.length_nil, Option.map_some, Option.bind_some, Nat.reduceAdd, Nat.zero_add, Nat.add_zero, Nat.add_sub_cancel_left, Int.toNat_natCast, reps, List.all_cons, List.all_nil, C.flat, List.append_eq, Bool.not_true, Bool.and_true, Bool.or_false, Bool.or_self, Bool.not_false, List.append_nil, Bool.and_self, ↓chG_rk, encR, encRh_rk1]) <;> rfl) : RetG σ H h' v K := ret_mk3 hN h hv hk
theorem cH41zcS3 {P : Program} {F : Nat} {args : List T} {H : List Fam} {K : T → List Fam → Prop} {σ : List Sg} {nl : List Fam} {args0 : List T} {h0 : List Fam} {Q : T → List Fam → Prop} {H2 H1 : List Fam} {N n : Nat} (hc : Ctr P F args0 h0 Q) (hk : ∀ v h', Q v h' → capsP h' → RetG σ H2 h' v K) (hap : apart σ = true := by rfl) (hnl : nl.all nilB = true := by rfl) (h1 : H ++ nl = H1 := by first | exact List.append_nil _ | ((try simp only [List.cons_append, List.nil_append]) <;> rfl)) (hN : H1.length = N := by (try simp only [↓List.length_cons, ↓List.length_nil, Nat.reduceAdd]) <;> rfl) (hn : H.length = n := by (try simp only [↓List.length_cons, ↓List.length_nil, Nat.reduceAdd]) <;> rfl) (hH : givesF σ N H1 σ h0 = some H2 := by (try simp (maxSteps := 1000000) only [givesF, setF, updF, Fam.zeroth, Fam.rk, Ck.rk, C.rk, E.rk, T.rk, key, List.map_cons, List.map_nil, List.cons_append, List.nil_append, List.length_cons, List.length_nil, Option.map_some, Option.bind_some, Nat.reduceAdd, Nat.zero_add, Nat.add_zero, Nat.add_sub_cancel_left, Int.toNat_natCast, reps, List.all_cons, List.all_nil, C.flat, List.append_eq, Bool.not_true, Bool.and_true, Bool.or_false, Bool.or_self, Bool.not_false, List.append_nil, Bool.and_self, ↓chG_rk]) <;> rfl) (hle : leS n H1 σ N σ h0 (belsK N (h0.map (Fam.rk σ N)) (argsK n args (args0.map (T.rk σ N)) True)) := by repeat' first | refine And.intro ?_ ?_ | exact xeC | fail) : CallK P F args H K := CallK.mk3 hc hap hnl h1 hN hn hH hle hk
set_option maxRecDepth 10000 in
set_option maxHeartbeats 16000000 in
theorem cRepairR (l : List UInt8) (hl : l.length ≤ 20000) :
    Ctr Tryz.prog 11 [.c (.s (mkS l))] [] fun v h => v = repV l ∧ h = [] := by
  have hz : (mkS l).size = l.length := rfl
  have hm : ({ data := #[82, 66, 65, 71, 49] } : ByteArray) = mkS magic := rfl
  have t1 : (mkS l).extract 0 (Int.toNat 5) = mkS (l.take 5) := by rw [mkS_ext]; rfl
  refine Ctr.mk' tbv mixed Tryz.func11 rfl rfl rfl (fun _ _ => by kernel_rfl) (by kernel_rfl) (by rfl) (by rfl) (by (repeat' first | refine And.intro ?_ ?_ | exact xeC | fail) <;> (exact xmC)) ?_
  repeat' (first | (fail_if_success (with_reducible refine xstp ?_)); first | ((with_reducible refine And.intro (fun (hb : _ = true) => ?_) (fun (hb : _ = false) => ?_)) <;> replace hb := xnC hb <;> (try first | exact xfC | exact bff hb (by assumption) | exact bff (by assumption) hb)) | ((with_reducible refine And.intro ?_ ?_); focus exact xoC) | (with_reducible intro hc; (try simp only [capsP, and_true] at hc); (try exact xfC)) | ((fail_if_success (with_reducible first | refine xgon ?_ | intro _)); (conv => whnf); (fail_if_success (fail_if_success (with_reducible first | refine xstp ?_ | refine xgon ?_ | intro _)))))
  · rw [repV_bad (show rpE l = 1 from if_pos (by omega)) (by decide)]
    refine FinK.mk ⟨[], _, _, ⟨rfl, rfl⟩, ?_⟩
    (repeat' first | refine And.intro ?_ ?_ | exact xeC | fail)
  · rw [t1, hm, mkS_inj] at hb
    rw [repV_bad (show rpE l = 2 by unfold rpE; rw [if_neg (by omega), if_neg hb]) (by decide)]
    refine FinK.mk ⟨[], _, _, ⟨rfl, rfl⟩, ?_⟩
    (repeat' first | refine And.intro ?_ ?_ | exact xeC | fail)
  rw [t1, hm, mkS_inj] at hb
  have hE : rpE l = 0 := by unfold rpE; rw [if_neg (by omega), if_pos hb]
  have hR := rpR_P (l := l) (by omega)
  generalize hs : mkS l = s at *
  refine LoopK.mk' {p : Nat × Rp × List Ch × Nat // p.1 ≤ s.size ∧ RpI p.1 p.2.1 ∧ rpR l = rpP s p.1 p.2.1 ∧ ls p.2.2.1 = p.2.1.L}
    (fun ⟨(a, x, X, c), _⟩ => ⟨[(5, .c (.sl 1 0 1 0 X.length c)), (6, .c (.i .i64 (x.n : Nat))), (7, .c (.p 0 0 0))],
      [.one (.cells true (rv s a 0)), .one (rhR 2 X c), .many (chG X)]⟩) (fun p => s.size - p.1.1)
    ⟨⟨(5, ⟨[], 0, 0⟩, [], 0), by omega, RpI.init 5, hR, rfl⟩, [0, 99, 98], ?_⟩ ?_
  · (repeat' first | refine And.intro ?_ ?_ | exact xeC | fail)
    all_goals first
      | (exact xmC)
      | exact fun x => if_neg (Nat.not_lt_zero x)
      | skip
  rintro ⟨⟨a, x, X, c⟩, ha, hI, hx, hX⟩
  simp only at ha hI hx hX
  have hmk := hI.xok (by omega) hX
  have hn := hI.n
  have hXl := hmk.n
  have hmo := rdT_mono (s := s) (e := 0) (m := 200000) ha
  have hyl := rdT_len s a 0 200000
  have hys := rdT_size s a 0 200000
  repeat' (first | (fail_if_success (with_reducible refine xstp ?_)); first | (with_reducible intro hc; (try simp only [capsP, and_true] at hc); (try exact xfC)) | ((fail_if_success (with_reducible first | refine xgon ?_ | intro _)); (conv => whnf); (fail_if_success (fail_if_success (with_reducible first | refine xstp ?_ | refine xgon ?_ | intro _)))))
  refine cH41zcS3 (σ := []) (nl := []) (cRText s a 0 200000 ha (by omega) (by omega)) ?_ (hle := by (repeat' first | refine And.intro ?_ ?_ | exact xeC | fail) <;> (exact xmC))
  rintro v h' ⟨rfl, rfl⟩ hcaps
  refine rH41zcS0 ?_
  generalize hq : rdT s a 0 200000 = q at *
  obtain ⟨y, a2, e⟩ := q
  simp only at hmo hyl hys
  repeat' (first | (fail_if_success (with_reducible refine xstp ?_)); first | ((with_reducible refine And.intro (fun (hb : _ = true) => ?_) (fun (hb : _ = false) => ?_)) <;> replace hb := xnC hb <;> (try first | exact xfC | exact bff hb (by assumption) | exact bff (by assumption) hb)) | ((fail_if_success (with_reducible first | refine xgon ?_ | intro _)); (conv => whnf); (fail_if_success (fail_if_success (with_reducible first | refine xstp ?_ | refine xgon ?_ | intro _)))))
  · have hfin : repV l = _ := repV_ok hE (hx.trans (rpP_stop ha (by rw [hq]; simp only; omega)))
    have hbx : bagB (ls X) = bagB x.L := by rw [hX]
    refine cH41zcS3 (σ := [.whole 1, .whole 2]) (nl := []) (cBag X c hmk) ?_ (hle := by (repeat' first | refine And.intro ?_ ?_ | exact xeC | fail) <;> (exact xmC))
    rw [hbx]
    rintro v h' ⟨rfl, rfl⟩ hcaps
    refine rH41zcS1 ?_
    repeat' (first | (fail_if_success (with_reducible refine xstp ?_)); first | ((fail_if_success (with_reducible first | refine xgon ?_ | intro _)); (conv => whnf); (fail_if_success (fail_if_success (with_reducible first | refine xstp ?_ | refine xgon ?_ | intro _)))))
    rw [hfin]
    refine FinK.mk ⟨[], _, _, ⟨rfl, rfl⟩, ?_⟩
    (repeat' first | refine And.intro ?_ ?_ | exact xeC | fail)
  obtain rfl : e = 0 := by omega
  have hp := rdT_pos (s := s) (a := a) (e := 0) (m := 200000) (by rw [hq])
  rw [hq] at hp
  have ha2 : a + 1 ≤ a2 := hp.2
  refine cH41zcS3 (σ := []) (nl := []) (cOpenR y (by omega)) ?_ (hle := by (repeat' first | refine And.intro ?_ ?_ | exact xeC | fail) <;> (exact xmC))
  rintro v h' ⟨rfl, rfl⟩ hcaps
  refine rH41zcS0 ?_
  have hol := openL_len y
  have hnx : rpP s a x = rpP s a2 (if (openL y).2 = 0 then rpS x (recL (mkS (openL y).1)) else x) := by
    rw [rpP_go (by omega) (by rw [hq])]
    unfold rpN
    rw [hq]
  generalize openL y = o at *
  obtain ⟨z, oe⟩ := o
  simp only at hol hnx
  repeat' (first | (fail_if_success (with_reducible refine xstp ?_)); first | ((with_reducible refine And.intro (fun (hb : _ = true) => ?_) (fun (hb : _ = false) => ?_)) <;> replace hb := xnC hb <;> (try first | exact xfC | exact bff hb (by assumption) | exact bff (by assumption) hb)) | ((fail_if_success (with_reducible first | refine xgon ?_ | intro _)); (conv => whnf); (fail_if_success (fail_if_success (with_reducible first | refine xstp ?_ | refine xgon ?_ | intro _)))))
  · rw [if_neg (by omega)] at hnx
    refine ⟨⟨(a2, x, X, c), by omega, (hI.up (by omega)), (hx.trans hnx), hX⟩, [0, 1, 2], by simp only; omega, ?_⟩
    (repeat' first | refine And.intro ?_ ?_ | exact xeC | fail)
    all_goals first
      | (exact xmC)
      | skip
  rw [if_pos (by omega)] at hnx
  have hRl := recL_len (mkS z)
  have hzz : (mkS z).size = z.length := rfl
  have hbw := recL_bw (y := z)
  refine cH41zcS3 (σ := []) (nl := []) (crecsR (mkS z) (by omega)) ?_ (hle := by (repeat' first | refine And.intro ?_ ?_ | exact xeC | fail) <;> (exact xmC))
  rintro v h' ⟨c3, rfl, rfl⟩ hcaps
  generalize hRR : recL (mkS z) = R at *
  refine rH41zcS0 ?_
  repeat' (first | (fail_if_success (with_reducible refine xstp ?_)); first | ((fail_if_success (with_reducible first | refine xgon ?_ | intro _)); (conv => whnf); (fail_if_success (fail_if_success (with_reducible first | refine xstp ?_ | refine xgon ?_ | intro _)))))
  refine cH41zcS3 (σ := [.whole 1, .whole 2]) (nl := []) (clast X c (fun y hy => (hmk.ch y hy).1) (by omega) (fun y hy => by have := (hmk.ch y hy).2.1; omega)) ?_ (hle := by (repeat' first | refine And.intro ?_ ?_ | exact xeC | fail) <;> (exact xmC))
  have hlast : (lastR (X.map Ch.l)).at_ = x.la := by rw [show X.map Ch.l = x.L from hX]; exact hI.la.symm
  have hX0 : X.length = 0 → x.la = 0 := fun h => by
    have h1 : x.L.length = 0 := by rw [← hX, List.length_map]; exact h
    rw [hI.la, List.length_eq_zero_iff.1 h1]
    rfl
  generalize lastR (X.map Ch.l) = z2 at *
  rintro v h' ⟨rfl, rfl⟩ hcaps
  refine rH41zcS2 ?_
  repeat' (first | (fail_if_success (with_reducible refine xstp ?_)); first | ((with_reducible refine And.intro (fun (hb : _ = true) => ?_) (fun (hb : _ = false) => ?_)) <;> replace hb := xnC hb <;> (try first | exact xfC | exact bff hb (by assumption) | exact bff (by assumption) hb)) | ((with_reducible refine And.intro ?_ ?_); focus exact xoC) | ((with_reducible refine Or.inl ⟨?_, ?_, ?_⟩); (focus rfl); focus exact xaC) | (with_reducible intro hc; (try simp only [capsP, and_true] at hc); (try exact xfC)) | ((fail_if_success (with_reducible first | refine xgon ?_ | intro _)); (conv => whnf); (fail_if_success (fail_if_success (with_reducible first | refine xstp ?_ | refine xgon ?_ | intro _)))))
  · rename_i c4
    have h10 : 0 < R.length := by assumption
    have h9 : x.la ≤ (R.getD 0 default).at_ := by
      rw [hX0 (by omega)]
      exact ((hbw h10).2 _ (mem_getD h10)).2.1.1
    obtain ⟨hcz, hok⟩ := hbw h10
    have hsp : rpS x R = ⟨x.L ++ [R], x.n + R.length, (R.getD (R.length - 1) default).at_⟩ := if_pos ⟨h10, h9⟩
    have hI2 := (hI.add (l := R) (by omega) hok).up (b := a2) (by omega)
    rw [hsp] at hnx hI2
    refine ⟨⟨(a2, ⟨x.L ++ [R], x.n + R.length, (R.getD (R.length - 1) default).at_⟩, X ++ [⟨R, c3⟩], c4), by omega, hI2, hx.trans hnx, by simp [← hX]⟩, [0, 7, .adopt 2 X.length 4], by simp only; omega, ?_⟩
    (repeat' first | refine And.intro ?_ ?_ | exact xeC | fail)
    all_goals first
      | (exact xmC)
      | (simp; done)
      | exact rhApp (G := 4) (y := ⟨R, c3⟩) (fun i hi => by simp [key, hi]) (by simp [key]) rfl
      | exact fun x hx => ixG_leA chF hx
      | skip
    refine ixG_leAn chF ?_
    refine ⟨rfl, rfl, rfl, rfl, Nat.le_refl _, rfl, fun i hi => rfl, ?_⟩
    (repeat' first | refine And.intro ?_ ?_ | exact xeC | fail)
    all_goals first
      | (exact xmC)
      | (simp; done)
      | skip
  · rename_i c4
    have h10 : 0 < R.length := by assumption
    have h8 : z2.at_ ≤ (R.getD 0 default).at_ := by assumption
    have h9 : x.la ≤ (R.getD 0 default).at_ := by rw [← hlast]; exact h8
    obtain ⟨hcz, hok⟩ := hbw h10
    have hsp : rpS x R = ⟨x.L ++ [R], x.n + R.length, (R.getD (R.length - 1) default).at_⟩ := if_pos ⟨h10, h9⟩
    have hI2 := (hI.add (l := R) (by omega) hok).up (b := a2) (by omega)
    rw [hsp] at hnx hI2
    refine ⟨⟨(a2, ⟨x.L ++ [R], x.n + R.length, (R.getD (R.length - 1) default).at_⟩, X ++ [⟨R, c3⟩], c4), by omega, hI2, hx.trans hnx, by simp [← hX]⟩, [0, 7, .adopt 2 X.length 4], by simp only; omega, ?_⟩
    (repeat' first | refine And.intro ?_ ?_ | exact xeC | fail)
    all_goals first
      | (exact xmC)
      | (simp; done)
      | exact rhApp (G := 4) (y := ⟨R, c3⟩) (fun i hi => by simp [key, hi]) (by simp [key]) rfl
      | exact fun x hx => ixG_leA chF hx
      | skip
    refine ixG_leAn chF ?_
    refine ⟨rfl, rfl, rfl, rfl, Nat.le_refl _, rfl, fun i hi => rfl, ?_⟩
    (repeat' first | refine And.intro ?_ ?_ | exact xeC | fail)
    all_goals first
      | (exact xmC)
      | (simp; done)
      | skip
  · have h9 : (R.getD 0 default).at_ < z2.at_ := hb
    rw [show rpS x R = x from if_neg (fun q => by omega)] at hnx
    repeat' (first | (fail_if_success (with_reducible refine xstp ?_)); first | ((with_reducible refine And.intro (fun (hb : _ = true) => ?_) (fun (hb : _ = false) => ?_)) <;> replace hb := xnC hb <;> (try first | exact xfC | exact bff hb (by assumption) | exact bff (by assumption) hb)) | (with_reducible refine Both.mk ?_ ?_) | ((with_reducible refine And.intro ?_ ?_); focus exact xoC) | ((with_reducible refine Or.inl ⟨?_, ?_, ?_⟩); (focus rfl); focus exact xaC) | ((with_reducible refine xwB ?_ ?_); focus exact xaC) | ((with_reducible refine xwC ?_ ?_); focus exact xaC) | ((with_reducible refine xwD ?_ ?_); focus exact xaC) | ((with_reducible refine xwE ?_ ?_); focus exact xaC) | (with_reducible intro hc; (try simp only [capsP, and_true] at hc); (try exact xfC)) | ((fail_if_success (with_reducible first | refine xgon ?_ | intro _)); (conv => whnf); (fail_if_success (fail_if_success (with_reducible first | refine xstp ?_ | refine Both.mk ?_ ?_ | refine xgon ?_ | intro _)))))
    refine ⟨⟨(a2, x, X, c), by omega, (hI.up (by omega)), (hx.trans hnx), hX⟩, [0, 1, 2], by simp only; omega, ?_⟩
    (repeat' first | refine And.intro ?_ ?_ | exact xeC | fail)
    all_goals first
      | (exact xmC)
      | skip
  · rw [show rpS x R = x from if_neg (fun q => hb q.1)] at hnx
    refine ⟨⟨(a2, x, X, c), by omega, (hI.up (by omega)), (hx.trans hnx), hX⟩, [0, 1, 2], by simp only; omega, ?_⟩
    (repeat' first | refine And.intro ?_ ?_ | exact xeC | fail)
    all_goals first
      | (exact xmC)
      | skip
end Go.Proofs.YtkjkbpnhocjenaaGreat


namespace Go.Proofs.YtkjkbpnhocjenaaGreat
open Go.X
set_option linter.unusedSimpArgs false
set_option linter.unusedVariables false
open P4
open P5
theorem le8_drop : ∀ (l : List UInt8) (j : Nat), le8 (l.drop j) ≤ le8 l
  | _, 0 => Nat.le_refl _
  | [], j + 1 => by simp [le8]
  | b :: l, j + 1 => by
    have := le8_drop l j
    rw [List.drop_succ_cons, le8_cons]
    omega
set_option maxRecDepth 10000 in
theorem coffset (p : List UInt8) (h8 : p.length = 8) :
    Ctr Tryz.prog 27 [.c (.s (mkS p))] [] fun v h => (∃ z : Int, v = .c (.i .i64 z) ∧ (z = le8 p ∨ (z = -1 ∧ 1099511627776 < le8 p))) ∧ h = [] := by
  have hz8 : (mkS p).size = 8 := h8
  refine Ctr.mk' tbv mixed Tryz.func27 rfl rfl rfl (fun _ _ => by kernel_rfl) (by kernel_rfl) (by rfl) (by rfl) (by (repeat' first | refine And.intro ?_ ?_ | exact xeC | fail)) ?_
  repeat' (first | (fail_if_success (with_reducible refine xstp ?_)); first | (with_reducible intro hc; (try simp only [capsP, and_true] at hc); (try exact xfC)) | ((fail_if_success (with_reducible first | refine xgon ?_ | intro _)); (conv => whnf); (fail_if_success (fail_if_success (with_reducible first | refine xstp ?_ | refine xgon ?_ | intro _)))))
  refine LoopK.mk' {j : Nat // j ≤ 8}
    (fun ⟨j, _⟩ => ⟨[(0, .c (.s (mkS p))), (3, .c (.i .i64 (le8 (p.drop j) : Nat))), (4, .c (.i .i64 ((j : Int) - 1)))], []⟩) (fun j => j.1)
    ⟨⟨8, Nat.le_refl _⟩, [], ?_⟩ ?_
  · (repeat' first | refine And.intro ?_ ?_ | exact xeC | fail)
    rw [List.drop_of_length_le (by omega)]
    rfl
  rintro ⟨j, hj⟩
  have hdr := le8_drop p j
  cases j with
  | succ k =>
    have hdk := drop_consG p (k := k) (by omega)
    have ek : (((k + 1 : Nat) : Int) - 1).toNat = k := by omega
    have hby : ((p.getD k default).toNat : Int) ≤ 255 := by have := (p.getD k default).toNat_lt; omega
    have hgb : (mkS p).get! k = p.getD k default := getB (by omega)
    have hw : IntKind.i64.wrap (((mkS p).get! (((k + 1 : Nat) : Int) - 1).toNat).toNat : Int) = ((p.getD k default).toNat : Int) := by
      rw [ek, hgb, IntKind.wrap_i64]
      omega
    repeat' (first | (fail_if_success (with_reducible refine xstp ?_)); first | ((with_reducible refine And.intro (fun (hb : _ = true) => ?_) (fun (hb : _ = false) => ?_)) <;> replace hb := xnC hb <;> (try first | exact xfC | exact bff hb (by assumption) | exact bff (by assumption) hb)) | ((with_reducible refine And.intro ?_ ?_); focus exact xoC) | (with_reducible intro hc; (try simp only [capsP, and_true] at hc); (try exact xfC)) | ((fail_if_success (with_reducible first | refine xgon ?_ | intro _)); (conv => whnf); (fail_if_success (fail_if_success (with_reducible first | refine xstp ?_ | refine xgon ?_ | intro _)))))
    · refine FinK.mk ⟨[], _, _, ⟨⟨-1, rfl, .inr ⟨rfl, by omega⟩⟩, rfl⟩, ?_⟩
      (repeat' first | refine And.intro ?_ ?_ | exact xeC | fail)
    · refine ⟨⟨k, by omega⟩, [], by simp only; omega, ?_⟩
      (repeat' first | refine And.intro ?_ ?_ | exact xeC | fail)
      all_goals first
        | (rw [hw, hdk, le8_cons]; omega)
        | omega
  | zero =>
    repeat' (first | (fail_if_success (with_reducible refine xstp ?_)); first | ((with_reducible refine And.intro (fun (hb : _ = true) => ?_) (fun (hb : _ = false) => ?_)) <;> replace hb := xnC hb <;> (try first | exact xfC | exact bff hb (by assumption) | exact bff (by assumption) hb)) | (with_reducible intro hc; (try simp only [capsP, and_true] at hc); (try exact xfC)) | ((fail_if_success (with_reducible first | refine xgon ?_ | intro _)); (conv => whnf); (fail_if_success (fail_if_success (with_reducible first | refine xstp ?_ | refine xgon ?_ | intro _)))))
    rw [List.drop_zero]
    refine FinK.mk ⟨[], _, _, ⟨⟨le8 p, rfl, .inl rfl⟩, rfl⟩, ?_⟩
    (repeat' first | refine And.intro ?_ ?_ | exact xeC | fail)
structure Er where
  (e : En) (cap : Nat)
deriving Inhabited
def encEr (F : Nat) (X : List Er) (k : Nat) : List C := [.i .i64 ((X.getD k default).e.off : Nat), .i .i64 ((X.getD k default).e.fi : Nat), .i .i64 ((X.getD k default).e.la : Nat), .sl F k 2 0 (X.getD k default).e.T.length (X.getD k default).cap]
abbrev erR (F : Nat) (X : List Er) (c : Nat) : Ck := .row true true 43 4 X.length c (encEr F X)
def trC (y : Er) : Ck := tlR true y.e.T y.cap
theorem trF : FlatR trC := fun _ => ⟨_, _, _, _, _, _, rfl⟩
abbrev trG (X : List Er) (k : Nat) : Ck := ixG trC X k
theorem trG_rk (σ : List Sg) (N : Nat) (X : List Er) (x : Nat) : (trG X x).rk σ N = trG X x := ixG_rk trF σ N X x
/-- An entry that may stand in an index. -/
def okEn (e : En) : Prop := (1 ≤ e.T.length ∧ e.fi ≤ e.la) ∧ okTs e.T
instance (e : En) : Decidable (okEn e) := by unfold okEn; infer_instance
end Go.Proofs.YtkjkbpnhocjenaaGreat


namespace Go.Proofs.YtkjkbpnhocjenaaGreat
open Go.X
set_option linter.unusedSimpArgs false
set_option linter.unusedVariables false
open P4
open P5
theorem okTs_snoc {U : List Tl} {t : Tl} : okTs (U ++ [t]) ↔ okTs U ∧ isT t.1 ∧ (0 < U.length → (U.getD (U.length - 1) default).1 < t.1) ∧ 1 ≤ t.2 := by
  have g1 : ∀ i, i < U.length → (U ++ [t]).getD i default = U.getD i default := fun i hi => by simp [List.getD, List.getElem?_append_left hi]
  have g2 : (U ++ [t]).getD U.length default = t := by simp [List.getD]
  constructor
  · intro h
    refine ⟨fun i hi => ?_, ?_⟩
    · have := h i (by rw [List.length_append]; omega)
      unfold okT1 at this ⊢
      rw [g1 i hi] at this
      refine ⟨this.1, fun h0 => ?_, this.2.2⟩
      have h2 := this.2.1 h0
      rw [g1 (i - 1) (by omega)] at h2
      exact h2
    · have := h U.length (by rw [List.length_append, List.length_singleton]; omega)
      unfold okT1 at this
      rw [g2] at this
      refine ⟨this.1, fun h0 => ?_, this.2.2⟩
      have h2 := this.2.1 h0
      rw [g1 (U.length - 1) (by omega)] at h2
      exact h2
  · rintro ⟨h1, h2, h3, h4⟩ i hi
    rw [List.length_append, List.length_singleton] at hi
    unfold okT1
    rcases Nat.lt_or_ge i U.length with q | q
    · rw [g1 i q]
      have := h1 i q
      unfold okT1 at this
      refine ⟨this.1, fun h0 => ?_, this.2.2⟩
      rw [g1 (i - 1) (by omega)]
      exact this.2.1 h0
    · obtain rfl : i = U.length := by omega
      rw [g2]
      refine ⟨h2, fun h0 => ?_, h4⟩
      rw [g1 (U.length - 1) (by omega)]
      exact h3 h0
theorem bl_lt2 {t u : List UInt8} (h : t < u) : Op.bytesLess (mkS t).toList (mkS u).toList = true := by
  rw [show (mkS t).toList = t from ByteArray.toList_eq _, show (mkS u).toList = u from ByteArray.toList_eq _, bless]
  exact decide_eq_true h
theorem bl_lt3 {t u : List UInt8} (h : Op.bytesLess (mkS t).toList (mkS u).toList = true) : t < u := by
  rw [show (mkS t).toList = t from ByteArray.toList_eq _, show (mkS u).toList = u from ByteArray.toList_eq _, bless] at h
  exact of_decide_eq_true h
theorem okTs_nil : okTs [] := fun i hi => absurd hi (Nat.not_lt_zero i)
set_option maxRecDepth 10000 in
set_option maxHeartbeats 8000000 in
theorem centry (s : ByteArray) (a0 : Nat) (ha : a0 ≤ s.size) (hs : s.size ≤ 100000000) :
    Ctr Tryz.prog 58 [.a (rv s a0 0)] []
      fun v h => ∃ c', v = .t [.a (rv s (enT s a0 0).2.1 (enT s a0 0).2.2), .a [.i .i64 ((rdEn s a0 0).off : Nat), .i .i64 ((rdEn s a0 0).fi : Nat), .i .i64 ((rdEn s a0 0).la : Nat), .sl 0 0 2 0 (rdEn s a0 0).T.length c'], .c (.b (decide (1 ≤ (sm4 s a0 0).1 ∧ (rdEn s a0 0).fi ≤ (rdEn s a0 0).la ∧ okTs (rdEn s a0 0).T)))] ∧ h = [.one (tlR true (rdEn s a0 0).T c')] := by
  have hm := sm_mono (e := 0) ha
  refine Ctr.mk' tbv mixed Tryz.func58 rfl rfl rfl (fun _ _ => by kernel_rfl) (by kernel_rfl) (by rfl) (by rfl) (by (repeat' first | refine And.intro ?_ ?_ | exact xeC | fail)) ?_
  repeat' (first | (fail_if_success (with_reducible refine xstp ?_)); first | (with_reducible intro hc; (try simp only [capsP, and_true] at hc); (try exact xfC)) | ((fail_if_success (with_reducible first | refine xgon ?_ | intro _)); (conv => whnf); (fail_if_success (fail_if_success (with_reducible first | refine xstp ?_ | refine xgon ?_ | intro _)))))
  refine xcal (σ := []) (nl := []) (cRAt s a0 0 ha hs) ?_
  rintro v h' ⟨rfl, rfl⟩ hcaps
  rw [show rdAt s a0 0 = sm1 s a0 0 from rfl]
  refine xret ?_
  repeat' (first | (fail_if_success (with_reducible refine xstp ?_)); first | ((fail_if_success (with_reducible first | refine xgon ?_ | intro _)); (conv => whnf); (fail_if_success (fail_if_success (with_reducible first | refine xstp ?_ | refine xgon ?_ | intro _)))))
  refine xcal (σ := []) (nl := []) (cRAt s (sm1 s a0 0).2.1 (sm1 s a0 0).2.2 hm.1 hs) ?_
  rintro v h' ⟨rfl, rfl⟩ hcaps
  rw [show rdAt s (sm1 s a0 0).2.1 (sm1 s a0 0).2.2 = sm2 s a0 0 from rfl]
  refine xret ?_
  repeat' (first | (fail_if_success (with_reducible refine xstp ?_)); first | ((fail_if_success (with_reducible first | refine xgon ?_ | intro _)); (conv => whnf); (fail_if_success (fail_if_success (with_reducible first | refine xstp ?_ | refine xgon ?_ | intro _)))))
  refine xcal (σ := []) (nl := []) (cRAt s (sm2 s a0 0).2.1 (sm2 s a0 0).2.2 hm.2.1 hs) ?_
  rintro v h' ⟨rfl, rfl⟩ hcaps
  rw [show rdAt s (sm2 s a0 0).2.1 (sm2 s a0 0).2.2 = sm3 s a0 0 from rfl]
  refine xret ?_
  repeat' (first | (fail_if_success (with_reducible refine xstp ?_)); first | ((fail_if_success (with_reducible first | refine xgon ?_ | intro _)); (conv => whnf); (fail_if_success (fail_if_success (with_reducible first | refine xstp ?_ | refine xgon ?_ | intro _)))))
  refine xcal (σ := []) (nl := []) (cRAt s (sm3 s a0 0).2.1 (sm3 s a0 0).2.2 hm.2.2.1 hs) ?_
  rintro v h' ⟨rfl, rfl⟩ hcaps
  rw [show rdAt s (sm3 s a0 0).2.1 (sm3 s a0 0).2.2 = sm4 s a0 0 from rfl]
  refine xret ?_
  have hT : (rdEn s a0 0).T = (tlN s (sm4 s a0 0).1 (sm4 s a0 0).2.1 (sm4 s a0 0).2.2).1 := rfl
  have hE : enT s a0 0 = tlN s (sm4 s a0 0).1 (sm4 s a0 0).2.1 (sm4 s a0 0).2.2 := rfl
  have hoff : (rdEn s a0 0).off = (sm1 s a0 0).1 := rfl
  have hfi : (rdEn s a0 0).fi = (sm2 s a0 0).1 := rfl
  have hla : (rdEn s a0 0).la = (sm3 s a0 0).1 := rfl
  rw [hT, hE, hoff, hfi, hla]
  have hk4 : (((sm4 s a0 0).1 : Nat) : Int) ≤ 1099511627776 := rdAt_le s _ _
  have ha4 := hm.2.2.2.1
  generalize sm1 s a0 0 = q1 at *
  generalize sm2 s a0 0 = q2 at *
  generalize sm3 s a0 0 = q3 at *
  generalize sm4 s a0 0 = q4 at *
  obtain ⟨k4, a4, e4⟩ := q4
  simp only at hk4 ha4
  simp only
  repeat' (first | (fail_if_success (with_reducible refine xstp ?_)); first | ((with_reducible refine And.intro (fun (hb : _ = true) => ?_) (fun (hb : _ = false) => ?_)) <;> replace hb := xnC hb <;> (try first | exact xfC | exact bff hb (by assumption) | exact bff (by assumption) hb)) | ((fail_if_success (with_reducible first | refine xgon ?_ | intro _)); (conv => whnf); (fail_if_success (fail_if_success (with_reducible first | refine xstp ?_ | refine xgon ?_ | intro _)))))
  · skip
    refine LoopK.mk' {p : Nat × Nat × Nat × List Tl × Bool × Nat // p.1 ≤ k4 ∧ TlI s k4 a4 e4 p.1 p.2.1 p.2.2.1 p.2.2.2.1 ∧ p.2.2.2.1.length + p.1 = k4 ∧ (p.2.2.2.2.1 = true ↔ 1 ≤ k4 ∧ q2.1 ≤ q3.1 ∧ okTs p.2.2.2.1)}
      (fun ⟨(k, a, e, U, ok, c), _⟩ => ⟨[(1, .c (.p 0 0 0)), (2, .c (.p 1 0 0)), (3, .c (.p 2 0 0)), (5, .c (.p 3 0 0)), (6, .c (.i .i64 (k4 : Nat))), (7, .c (.b ok)), (8, .c (.i .i64 (U.length : Nat)))],
        [.one (.cells true (rv s a e)), .one (.cells true (rv (mkS []) 0 0)), .one (.cells true [.i .i64 0, .i .i64 0, .i .i64 0, .nils]), .one (.cells true [.i .i64 (q1.1 : Nat), .i .i64 (q2.1 : Nat), .i .i64 (q3.1 : Nat), .sl 4 0 2 0 U.length c]), .one (tlR true U c)]⟩) (fun p => p.1.1)
      ⟨⟨(k4, a4, e4, [], (decide (((q2.1 : Nat) : Int) ≤ (q3.1 : Nat))), 0), Nat.le_refl _, ⟨ha4, Nat.zero_le _, rfl⟩, by simp, (by constructor; intro h; have := of_decide_eq_true h; exact ⟨by omega, by omega, okTs_nil⟩; intro h; exact decide_eq_true (by omega))⟩, [0, 1, 2, 3, 99], ?_⟩ ?_
    · (repeat' first | refine And.intro ?_ ?_ | exact xeC | fail)
      all_goals first
        | (intro i hi; exact absurd hi (Nat.not_lt_zero i))
        | skip
    rintro ⟨⟨k, a, e, U, ok, c⟩, hk, hI, hU, hok⟩
    simp only at hk hI hU hok
    have hIl := hI.le
    have hIn := hI.len
    repeat' (first | (fail_if_success (with_reducible refine xstp ?_)); first | ((with_reducible refine And.intro (fun (hb : _ = true) => ?_) (fun (hb : _ = false) => ?_)) <;> replace hb := xnC hb <;> (try first | exact xfC | exact bff hb (by assumption) | exact bff (by assumption) hb)) | ((with_reducible refine And.intro ?_ ?_); focus exact xoC) | (with_reducible intro hc; (try simp only [capsP, and_true] at hc); (try exact xfC)) | ((fail_if_success (with_reducible first | refine xgon ?_ | intro _)); (conv => whnf); (fail_if_success (fail_if_success (with_reducible first | refine xstp ?_ | refine xgon ?_ | intro _)))))
    · obtain ⟨k2, rfl⟩ : ∃ k2, k = k2 + 1 := ⟨k - 1, by omega⟩
      obtain rfl : e = 0 := by omega
      rw [if_pos rfl] at hIn
      have hm1 := rdT_mono (e := 0) (m := 40) hIl
      have hst := hI.step
      have htl : (tlT s a).1.length ≤ 40 := rdT_len s a 0 40
      refine xcal (σ := []) (nl := []) (cRText s a 0 40 hIl (by omega) (by omega)) ?_
      rintro v h' ⟨rfl, rfl⟩ hcaps
      rw [show rdT s a 0 40 = tlT s a from rfl]
      refine xret ?_
      repeat' (first | (fail_if_success (with_reducible refine xstp ?_)); first | ((fail_if_success (with_reducible first | refine xgon ?_ | intro _)); (conv => whnf); (fail_if_success (fail_if_success (with_reducible first | refine xstp ?_ | refine xgon ?_ | intro _)))))
      refine xcal (σ := []) (nl := []) (cRAt s (tlT s a).2.1 (tlT s a).2.2 hm1.2 hs) ?_
      rintro v h' ⟨rfl, rfl⟩ hcaps
      rw [show rdAt s (tlT s a).2.1 (tlT s a).2.2 = tlM s a from rfl]
      refine xret ?_
      generalize tlM s a = qm at *
      generalize tlT s a = qt at *
      repeat' (first | (fail_if_success (with_reducible refine xstp ?_)); first | ((fail_if_success (with_reducible first | refine xgon ?_ | intro _)); (conv => whnf); (fail_if_success (fail_if_success (with_reducible first | refine xstp ?_ | refine xgon ?_ | intro _)))))
      have hsn := okTs_snoc (U := U) (t := (qt.1, qm.1))
      have hsf : ¬ (isT qt.1 ∧ (0 < U.length → (U.getD (U.length - 1) default).1 < qt.1) ∧ 1 ≤ (qt.1, qm.1).2) → (false = true ↔ 1 ≤ k4 ∧ q2.1 ≤ q3.1 ∧ okTs (U ++ [(qt.1, qm.1)])) := fun h => ⟨fun q => (by cases q), fun q => absurd (hsn.1 q.2.2).2 h⟩
      have hst2 : (isT qt.1 ∧ (0 < U.length → (U.getD (U.length - 1) default).1 < qt.1) ∧ 1 ≤ (qt.1, qm.1).2) → (ok = true ↔ 1 ≤ k4 ∧ q2.1 ≤ q3.1 ∧ okTs (U ++ [(qt.1, qm.1)])) := fun h => hok.trans ⟨fun q => ⟨q.1, q.2.1, hsn.2 ⟨q.2.2, h⟩⟩, fun q => ⟨q.1, q.2.1, (hsn.1 q.2.2).1⟩⟩
      refine xcal (σ := []) (nl := []) (cisTR qt.1 (by omega)) ?_
      by_cases hit : isT qt.1
      · rw [decide_eq_true hit]
        rintro v h' ⟨rfl, rfl⟩ hcaps
        refine xret ?_
        repeat' (first | (fail_if_success (with_reducible refine xstp ?_)); first | ((with_reducible refine And.intro (fun (hb : _ = true) => ?_) (fun (hb : _ = false) => ?_)) <;> replace hb := xnC hb <;> (try first | exact xfC | exact bff hb (by assumption) | exact bff (by assumption) hb)) | ((with_reducible refine And.intro ?_ ?_); focus exact xoC) | ((with_reducible refine Or.inl ⟨?_, ?_, ?_⟩); (focus rfl); focus exact xaC) | (with_reducible intro hc; (try simp only [capsP, and_true] at hc); (try exact xfC)) | ((fail_if_success (with_reducible first | refine xgon ?_ | intro _)); (conv => whnf); (fail_if_success (fail_if_success (with_reducible first | refine xstp ?_ | refine xgon ?_ | intro _)))))
        · skip
          rename_i c2
          refine ⟨⟨(k2, qm.2.1, qm.2.2, U ++ [(qt.1, qm.1)], false, c2), by omega, hst, by rw [List.length_append, List.length_singleton]; omega, (hsf fun q => by have := q.2.2; simp only at this; omega)⟩, [0, 1, 2, 3, 7], by simp only; omega, ?_⟩
          (repeat' first | refine And.intro ?_ ?_ | exact xeC | fail)
          all_goals first | omega | (simp only [List.length_append, List.length_singleton]; done) | (rw [List.length_append, List.length_singleton]; omega) | (intro i hi; (first | refine app_rowG _ _ _ _ ?_ i hi | refine app_row _ _ _ ?_ i hi); first | rfl | (simp only [Int.toNat_natCast, Nat.zero_add]; rfl))
        · skip
          rename_i c2
          refine ⟨⟨(k2, qm.2.1, qm.2.2, U ++ [(qt.1, qm.1)], false, c2), by omega, hst, by rw [List.length_append, List.length_singleton]; omega, (hsf fun q => by have h9 := bl_lt2 (q.2.1 (by omega)); rw [show U.length - 1 = ((U.length : Int) - 1).toNat by omega, hb] at h9; cases h9)⟩, [0, 1, 2, 3, 7], by simp only; omega, ?_⟩
          (repeat' first | refine And.intro ?_ ?_ | exact xeC | fail)
          all_goals first | omega | (simp only [List.length_append, List.length_singleton]; done) | (rw [List.length_append, List.length_singleton]; omega) | (intro i hi; (first | refine app_rowG _ _ _ _ ?_ i hi | refine app_row _ _ _ ?_ i hi); first | rfl | (simp only [Int.toNat_natCast, Nat.zero_add]; rfl))
        · skip
          rename_i c2
          refine ⟨⟨(k2, qm.2.1, qm.2.2, U ++ [(qt.1, qm.1)], ok, c2), by omega, hst, by rw [List.length_append, List.length_singleton]; omega, (hst2 ⟨hit, fun _ => bl_lt3 (by rw [show U.length - 1 = ((U.length : Int) - 1).toNat by omega]; assumption), by simp only; omega⟩)⟩, [0, 1, 2, 3, 7], by simp only; omega, ?_⟩
          (repeat' first | refine And.intro ?_ ?_ | exact xeC | fail)
          all_goals first | omega | (simp only [List.length_append, List.length_singleton]; done) | (rw [List.length_append, List.length_singleton]; omega) | (intro i hi; (first | refine app_rowG _ _ _ _ ?_ i hi | refine app_row _ _ _ ?_ i hi); first | rfl | (simp only [Int.toNat_natCast, Nat.zero_add]; rfl))
        · skip
          rename_i c2
          refine ⟨⟨(k2, qm.2.1, qm.2.2, U ++ [(qt.1, qm.1)], ok, c2), by omega, hst, by rw [List.length_append, List.length_singleton]; omega, (hst2 ⟨hit, fun h => by omega, by simp only; omega⟩)⟩, [0, 1, 2, 3, 7], by simp only; omega, ?_⟩
          (repeat' first | refine And.intro ?_ ?_ | exact xeC | fail)
          all_goals first | omega | (simp only [List.length_append, List.length_singleton]; done) | (rw [List.length_append, List.length_singleton]; omega) | (intro i hi; (first | refine app_rowG _ _ _ _ ?_ i hi | refine app_row _ _ _ ?_ i hi); first | rfl | (simp only [Int.toNat_natCast, Nat.zero_add]; rfl))
      · rw [decide_eq_false hit]
        rintro v h' ⟨rfl, rfl⟩ hcaps
        refine xret ?_
        repeat' (first | (fail_if_success (with_reducible refine xstp ?_)); first | ((with_reducible refine And.intro (fun (hb : _ = true) => ?_) (fun (hb : _ = false) => ?_)) <;> replace hb := xnC hb <;> (try first | exact xfC | exact bff hb (by assumption) | exact bff (by assumption) hb)) | ((with_reducible refine And.intro ?_ ?_); focus exact xoC) | ((with_reducible refine Or.inl ⟨?_, ?_, ?_⟩); (focus rfl); focus exact xaC) | (with_reducible intro hc; (try simp only [capsP, and_true] at hc); (try exact xfC)) | ((fail_if_success (with_reducible first | refine xgon ?_ | intro _)); (conv => whnf); (fail_if_success (fail_if_success (with_reducible first | refine xstp ?_ | refine xgon ?_ | intro _)))))
        rename_i c2
        refine ⟨⟨(k2, qm.2.1, qm.2.2, U ++ [(qt.1, qm.1)], false, c2), by omega, hst, by rw [List.length_append, List.length_singleton]; omega, (hsf fun q => hit q.1)⟩, [0, 1, 2, 3, 7], by simp only; omega, ?_⟩
        (repeat' first | refine And.intro ?_ ?_ | exact xeC | fail)
        all_goals first | omega | (simp only [List.length_append, List.length_singleton]; done) | (rw [List.length_append, List.length_singleton]; omega) | (intro i hi; (first | refine app_rowG _ _ _ _ ?_ i hi | refine app_row _ _ _ ?_ i hi); first | rfl | (simp only [Int.toNat_natCast, Nat.zero_add]; rfl))
    all_goals (
      have hq := hI.q
      rw [tlN_stop (s := s) (k := k) (a := a) (e := e) (by omega)] at hq
      simp only [List.append_nil] at hq
      have hod : decide (1 ≤ k4 ∧ q2.1 ≤ q3.1 ∧ okTs U) = ok := by
        cases ok with
        | true => exact decide_eq_true (hok.1 rfl)
        | false => exact decide_eq_false (fun q => by have := hok.2 q; cases this)
      rw [hq]
      simp only
      rw [hod]
      refine FinK.mk ⟨[4], _, _, ⟨c, rfl, rfl⟩, ?_⟩
      (repeat' first | refine And.intro ?_ ?_ | exact xeC | fail)
      )
  · skip
    refine LoopK.mk' {p : Nat × Nat × Nat × List Tl × Bool × Nat // p.1 ≤ k4 ∧ TlI s k4 a4 e4 p.1 p.2.1 p.2.2.1 p.2.2.2.1 ∧ p.2.2.2.1.length + p.1 = k4 ∧ (p.2.2.2.2.1 = true ↔ 1 ≤ k4 ∧ q2.1 ≤ q3.1 ∧ okTs p.2.2.2.1)}
      (fun ⟨(k, a, e, U, ok, c), _⟩ => ⟨[(1, .c (.p 0 0 0)), (2, .c (.p 1 0 0)), (3, .c (.p 2 0 0)), (5, .c (.p 3 0 0)), (6, .c (.i .i64 (k4 : Nat))), (7, .c (.b ok)), (8, .c (.i .i64 (U.length : Nat)))],
        [.one (.cells true (rv s a e)), .one (.cells true (rv (mkS []) 0 0)), .one (.cells true [.i .i64 0, .i .i64 0, .i .i64 0, .nils]), .one (.cells true [.i .i64 (q1.1 : Nat), .i .i64 (q2.1 : Nat), .i .i64 (q3.1 : Nat), .sl 4 0 2 0 U.length c]), .one (tlR true U c)]⟩) (fun p => p.1.1)
      ⟨⟨(k4, a4, e4, [], false, 0), Nat.le_refl _, ⟨ha4, Nat.zero_le _, rfl⟩, by simp, (by constructor; intro h; cases h; intro h; omega)⟩, [0, 1, 2, 3, 99], ?_⟩ ?_
    · (repeat' first | refine And.intro ?_ ?_ | exact xeC | fail)
      all_goals first
        | (intro i hi; exact absurd hi (Nat.not_lt_zero i))
        | skip
    rintro ⟨⟨k, a, e, U, ok, c⟩, hk, hI, hU, hok⟩
    simp only at hk hI hU hok
    have hIl := hI.le
    have hIn := hI.len
    repeat' (first | (fail_if_success (with_reducible refine xstp ?_)); first | ((with_reducible refine And.intro (fun (hb : _ = true) => ?_) (fun (hb : _ = false) => ?_)) <;> replace hb := xnC hb <;> (try first | exact xfC | exact bff hb (by assumption) | exact bff (by assumption) hb)) | ((with_reducible refine And.intro ?_ ?_); focus exact xoC) | (with_reducible intro hc; (try simp only [capsP, and_true] at hc); (try exact xfC)) | ((fail_if_success (with_reducible first | refine xgon ?_ | intro _)); (conv => whnf); (fail_if_success (fail_if_success (with_reducible first | refine xstp ?_ | refine xgon ?_ | intro _)))))
    all_goals (
      have hq := hI.q
      rw [tlN_stop (s := s) (k := k) (a := a) (e := e) (by omega)] at hq
      simp only [List.append_nil] at hq
      have hod : decide (1 ≤ k4 ∧ q2.1 ≤ q3.1 ∧ okTs U) = ok := by
        cases ok with
        | true => exact decide_eq_true (hok.1 rfl)
        | false => exact decide_eq_false (fun q => by have := hok.2 q; cases this)
      rw [hq]
      simp only
      rw [hod]
      refine FinK.mk ⟨[4], _, _, ⟨c, rfl, rfl⟩, ?_⟩
      (repeat' first | refine And.intro ?_ ?_ | exact xeC | fail)
      )
end Go.Proofs.YtkjkbpnhocjenaaGreat


namespace Go.Proofs.YtkjkbpnhocjenaaGreat
open Go.X
set_option linter.unusedSimpArgs false
set_option linter.unusedVariables false
open P4
open P5
theorem xmT {p : Prop} (h : p := by first | exact fun _ => trivial | exact fun x => ixG_le trF | exact fun x => ixG_bel trF | exact fun x => ixG_belR trF | fail) : p := h
abbrev ers (X : List Er) : List En := X.map Er.e
theorem ers_snoc (X : List Er) (y : Er) : ers (X ++ [y]) = ers X ++ [y.e] := by simp [ers]
theorem getErs (X : List Er) (i : Nat) : (ers X).getD i default = (X.getD i default).e := by
  simp only [ers, List.getD, List.getElem?_map]
  cases X[i]? <;> rfl
theorem erApp {σ : List Sg} {F F' G : Nat} {X : List Er} {y : Er} {g : Nat → List C} (hk : ∀ i, i ≠ X.length → key σ 0 F' i = (F, i)) (hn : key σ 0 F' X.length = (G, 0))
    (hg : g 0 = [.i .i64 (y.e.off : Nat), .i .i64 (y.e.fi : Nat), .i .i64 (y.e.la : Nat), .sl G 0 2 0 y.e.T.length y.cap]) : ∀ i, i < (X ++ [y]).length → appF X.length (encEr F X) 0 g i = List.map (C.rk σ 0) (encEr F' (X ++ [y]) i) := by
  intro i hi
  unfold appF
  by_cases h : i < X.length
  · rw [if_pos h]
    have e : (X ++ [y]).getD i default = X.getD i default := by simp [List.getD, List.getElem?_append_left h]
    simp only [encEr, List.map_cons, List.map_nil, C.rk, e, hk i (by omega)]
  · obtain rfl : i = X.length := by simp at hi; omega
    rw [if_neg h, Nat.sub_self, hg]
    have e : (X ++ [y]).getD X.length default = y := by simp [List.getD]
    simp only [encEr, List.map_cons, List.map_nil, C.rk, e, hn]
theorem rdAt_z {s : ByteArray} {a e : Nat} (h : (rdAt s a e).2.2 ≠ 0) : (rdAt s a e).1 = 0 := by
  unfold rdAt at h ⊢
  rw [rdS_U] at h ⊢
  split
  · rename_i h1
    rw [if_pos h1] at h
    split
    · rfl
    · rename_i h2
      rw [if_neg h2] at h
      exact absurd h1 h
  · rfl
theorem tl_pos {s : ByteArray} {a e : Nat} : 1 ≤ (sm4 s a e).1 ↔ 1 ≤ (rdEn s a e).T.length := by
  have hT : (rdEn s a e).T = (tlN s (sm4 s a e).1 (sm4 s a e).2.1 (sm4 s a e).2.2).1 := rfl
  have hz : (sm4 s a e).2.2 ≠ 0 → (sm4 s a e).1 = 0 := rdAt_z
  rw [hT]
  generalize sm4 s a e = q at *
  obtain ⟨n, b, f⟩ := q
  simp only at hz ⊢
  cases n with
  | zero => simp [tlN]
  | succ n =>
    have hf : f = 0 := Decidable.of_not_not fun h => by have := hz h; omega
    unfold tlN
    rw [if_pos hf]
    simp
theorem kind2_ok {s : ByteArray} (h : (rdAt s 0 0).1 = 2) : (rdU s 0 0).1 = 2 ∧ rdAt s 0 0 = rdU s 0 0 := by
  unfold rdAt at h ⊢
  rw [rdS_U] at h ⊢
  by_cases hu : (rdU s 0 0).2.2 = 0
  · rw [if_pos hu] at h ⊢
    by_cases hq : (1099511627776 : Int) < 0 ∨ 1099511627776 < (((rdU s 0 0).1 : Nat) : Int)
    · rw [if_pos hq] at h; simp at h
    · rw [if_neg hq] at h ⊢
      exact ⟨h, rfl⟩
  · rw [if_neg hu] at h; simp at h
theorem kind2_no {s : ByteArray} (h : (rdAt s 0 0).1 ≠ 2) : ixL s = ([], false) := by
  unfold ixL
  rw [if_neg]
  intro q
  apply h
  have hu : (rdU s 0 0).2.2 = 0 := Decidable.of_not_not fun hn => by
    have := (rdU_err s 0 0 hn).1
    omega
  unfold rdAt
  rw [rdS_U, if_pos hu, if_neg (by rw [q]; omega)]
  exact q
/-- The entries so far may stand in an index. -/
def okEs (L : List En) (ix : Nat) : Prop := ∀ i, i < L.length → okE1 L ix i
theorem okEs_snoc {L : List En} {y : En} {ix : Nat} : okEs (L ++ [y]) ix ↔ okEs L ix ∧
    ((L.length = 0 → y.off = 5) ∧ (0 < L.length → (L.getD (L.length - 1) default).off < y.off) ∧ y.off < ix) ∧ ((0 < L.length → (L.getD (L.length - 1) default).la ≤ y.fi) ∧ y.fi ≤ y.la ∧ 1 ≤ y.T.length) ∧ okTs y.T := by
  have g1 : ∀ i, i < L.length → (L ++ [y]).getD i default = L.getD i default := fun i hi => by simp [List.getD, List.getElem?_append_left hi]
  have g2 : (L ++ [y]).getD L.length default = y := by simp [List.getD]
  have g3 : ∀ i, i < L.length → (okE1 (L ++ [y]) ix i ↔ okE1 L ix i) := fun i hi => by
    unfold okE1
    rw [g1 i hi, g1 (i - 1) (by omega)]
  have g4 : okE1 (L ++ [y]) ix L.length ↔ ((L.length = 0 → y.off = 5) ∧ (0 < L.length → (L.getD (L.length - 1) default).off < y.off) ∧ y.off < ix) ∧ ((0 < L.length → (L.getD (L.length - 1) default).la ≤ y.fi) ∧ y.fi ≤ y.la ∧ 1 ≤ y.T.length) ∧ okTs y.T := by
    unfold okE1
    rw [g2]
    rcases Nat.eq_zero_or_pos L.length with q | q
    · simp [q]
    · rw [g1 (L.length - 1) (by omega)]
  rw [← g4]
  constructor
  · intro h
    exact ⟨fun i hi => (g3 i hi).1 (h i (by rw [List.length_append]; omega)), h L.length (by rw [List.length_append, List.length_singleton]; omega)⟩
  · rintro ⟨h1, h2⟩ i hi
    rw [List.length_append, List.length_singleton] at hi
    rcases Nat.lt_or_ge i L.length with q | q
    · exact (g3 i q).2 (h1 i q)
    · obtain rfl : i = L.length := by omega
      exact h2
theorem ix_fin {s : ByteArray} {q0 : Nat × Nat × Nat} {k0 a0 e0 k a e ix : Nat} {X : List Er} (hq0 : rdAt s 0 0 = q0) (hr0 : rdAt s q0.2.1 q0.2.2 = (k0, a0, e0)) (hI : EnI s k0 a0 e0 k a e (ers X))
    (hXk : X.length + k = k0) (hst : k = 0 ∨ e ≠ 0) : ((ixL s).2 = true ∧ ordE (ixL s).1 ix ↔ q0.1 = 2 ∧ endV s a e = 0 ∧ okEs (ers X) ix ∧ (k0 = 0 → ix = 5)) ∧ (q0.1 = 2 → (ixL s).1 = ers X) := by
  have hq := hI.q
  rw [enN_stop (s := s) (k := k) (a := a) (e := e) hst] at hq
  simp only [List.append_nil] at hq
  by_cases h2 : q0.1 = 2
  · obtain ⟨h3, h4⟩ := kind2_ok (s := s) (by rw [hq0]; exact h2)
    rw [hq0] at h4
    have hx : ixL s = (ers X, decide (endV s a e = 0)) := by
      unfold ixL
      rw [if_pos h3, ← h4, hr0]
      simp only
      rw [hq]
    have hel : (ers X).length = X.length := List.length_map _
    rw [hx]
    refine ⟨?_, fun _ => rfl⟩
    simp only [decide_eq_true_iff]
    unfold ordE
    rw [hel]
    constructor
    · rintro ⟨g1, g2, g3⟩
      exact ⟨h2, g1, fun i hi => g3 i (by rw [hel] at hi; exact hi), fun h0 => g2 (by omega)⟩
    · rintro ⟨_, g1, g2, g3⟩
      refine ⟨g1, fun h0 => g3 ?_, fun i hi => g2 i (by rw [hel]; exact hi)⟩
      have he : e = 0 := Decidable.of_not_not fun h => by
        unfold endV at g1
        rw [if_neg h] at g1
        exact h g1
      omega
  · have := kind2_no (s := s) (by rw [hq0]; exact h2)
    rw [this]
    exact ⟨⟨fun h => (by cases h.1), fun h => absurd h.1 h2⟩, fun h => absurd h h2⟩
theorem rH41zcX0 {σ : List Sg} {H h' : List Fam} {v : T} {K : T → List Fam → Prop} {H' : List Fam} {v' : T} {N : Nat} (hk : K v' H') (hN : H.length = N := by (try simp only [↓List.length_cons, ↓List.length_nil, Nat.reduceAdd]) <;> rfl) (h : givesF σ N H σ h' = some H' := by (try simp (maxSteps := 1000000) only [givesF, setF, updF, Fam.zeroth, Fam.rk, Ck.rk, C.rk, E.rk, T.rk, key, List.map_cons, List.map_nil, List.cons_append, List.nil_append, List.length_cons, List.length_nil, Option.map_some, Option.bind_some, Nat.reduceAdd, Nat.zero_add, Nat.add_zero, Nat.add_sub_cancel_left, Int.toNat_natCast, reps, List.all_cons, List.all_nil, C.flat, List.append_eq, Bool.not_true, Bool.and_true, Bool.or_false, Bool.or_self, Bool.not_false, List.append_nil, Bool.and_self, ↓trG_rk]) <;> rfl) (hv : v.rk σ N = v' := by (try simp only [givesF, setF, updF, Fam.zeroth, Fam.rk, Ck.rk, C.rk, E.rk, T.rk, key, List.map_cons, List.map_nil, List.cons_append, List.nil_append, List.length_cons, List.length_nil, Option.map_some, Option.bind_some, Nat.reduceAdd, Nat.zero_add, Nat.add_zero, Nat.add_sub_cancel_left, Int.toNat_natCast, reps, List.all_cons, List.all_nil, C.flat, List.append_eq, Bool.not_true, Bool.and_true, Bool.or_false, Bool.or_self, Bool.not_false, List.append_nil, Bool.and_self, ↓trG_rk]) <;> rfl) : RetG σ H h' v K := ret_mk3 hN h hv hk
theorem cH41zcX1 {P : Program} {F : Nat} {args : List T} {H : List Fam} {K : T → List Fam → Prop} {σ : List Sg} {nl : List Fam} {args0 : List T} {h0 : List Fam} {Q : T → List Fam → Prop} {H2 H1 : List Fam} {N n : Nat} (hc : Ctr P F args0 h0 Q) (hk : ∀ v h', Q v h' → capsP h' → RetG σ H2 h' v K) (hap : apart σ = true := by rfl) (hnl : nl.all nilB = true := by rfl) (h1 : H ++ nl = H1 := by first | exact List.append_nil _ | ((try simp only [List.cons_append, List.nil_append]) <;> rfl)) (hN : H1.length = N := by (try simp only [↓List.length_cons, ↓List.length_nil, Nat.reduceAdd]) <;> rfl) (hn : H.length = n := by (try simp only [↓List.length_cons, ↓List.length_nil, Nat.reduceAdd]) <;> rfl) (hH : givesF σ N H1 σ h0 = some H2 := by (try simp (maxSteps := 1000000) only [givesF, setF, updF, Fam.zeroth, Fam.rk, Ck.rk, C.rk, E.rk, T.rk, key, List.map_cons, List.map_nil, List.cons_append, List.nil_append, List.length_cons, List.length_nil, Option.map_some, Option.bind_some, Nat.reduceAdd, Nat.zero_add, Nat.add_zero, Nat.add_sub_cancel_left, Int.toNat_natCast, reps, List.all_cons, List.all_nil, C.flat, List.append_eq, Bool.not_true, Bool.and_true, Bool.or_false, Bool.or_self, Bool.not_false, List.append_nil, Bool.and_self, ↓trG_rk]) <;> rfl) (hle : leS n H1 σ N σ h0 (belsK N (h0.map (Fam.rk σ N)) (argsK n args (args0.map (T.rk σ N)) True)) := by repeat' first | refine And.intro ?_ ?_ | exact xeC | fail) : CallK P F args H K := CallK.mk3 hc hap hnl h1 hN hn hH hle hk
set_option maxRecDepth 10000 in
set_option maxHeartbeats 16000000 in
theorem centries (s : ByteArray) (ix : Nat) (hs : s.size ≤ 100000000) (hix : ix ≤ 1000000000) :
    Ctr Tryz.prog 29 [.c (.s s), .c (.i .i64 (ix : Nat))] []
      fun v h => ∃ X c okb, (okb = true ↔ (ixL s).2 = true ∧ ordE (ixL s).1 ix) ∧ (okb = true → ers X = (ixL s).1) ∧ v = .t [.c (.sl 0 0 4 0 X.length c), .c (.b okb)] ∧ h = [.one (erR 1 X c), .many (trG X)] := by
  refine Ctr.mk' tbv mixed Tryz.func29 rfl rfl rfl (fun _ _ => by kernel_rfl) (by kernel_rfl) (by rfl) (by rfl) (by (repeat' first | refine And.intro ?_ ?_ | exact xeC | fail) <;> exact xmT) ?_
  repeat' (first | (fail_if_success (with_reducible refine xstp ?_)); first | (with_reducible intro hc; (try simp only [capsP, and_true] at hc); (try exact xfC)) | ((fail_if_success (with_reducible first | refine xgon ?_ | intro _)); (conv => whnf); (fail_if_success (fail_if_success (with_reducible first | refine xstp ?_ | refine xgon ?_ | intro _)))))
  refine cH41zcX1 (σ := []) (nl := []) (cRAt s 0 0 (Nat.zero_le _) hs) ?_
  rintro v h' ⟨rfl, rfl⟩ hcaps
  have hm0 := rdAt_mono (s := s) (a := 0) (e := 0) (Nat.zero_le _)
  have hk2 := kind2_ok (s := s)
  have hkn := kind2_no (s := s)
  generalize hq0 : rdAt s 0 0 = q0 at *
  refine rH41zcX0 ?_
  repeat' (first | (fail_if_success (with_reducible refine xstp ?_)); first | ((fail_if_success (with_reducible first | refine xgon ?_ | intro _)); (conv => whnf); (fail_if_success (fail_if_success (with_reducible first | refine xstp ?_ | refine xgon ?_ | intro _)))))
  refine cH41zcX1 (σ := []) (nl := []) (cRAt s q0.2.1 q0.2.2 hm0.2 hs) ?_
  rintro v h' ⟨rfl, rfl⟩ hcaps
  have hm1 := rdAt_mono (e := q0.2.2) hm0.2
  have hn0 := rdAt_le s q0.2.1 q0.2.2
  generalize hr0 : rdAt s q0.2.1 q0.2.2 = r0 at *
  obtain ⟨k0, a0, e0⟩ := r0
  simp only at hm1 hn0
  refine rH41zcX0 ?_
  repeat' (first | (fail_if_success (with_reducible refine xstp ?_)); first | ((fail_if_success (with_reducible first | refine xgon ?_ | intro _)); (conv => whnf); (fail_if_success (fail_if_success (with_reducible first | refine xstp ?_ | refine xgon ?_ | intro _)))))
  refine LoopK.mk' {p : Nat × Nat × Nat × List Er × Bool × Nat // p.1 ≤ k0 ∧ EnI s k0 a0 e0 p.1 p.2.1 p.2.2.1 (ers p.2.2.2.1) ∧ p.2.2.2.1.length + p.1 = k0 ∧ (p.2.2.2.2.1 = true ↔ q0.1 = 2 ∧ okEs (ers p.2.2.2.1) ix)}
    (fun ⟨(k, a, e, X, ok, c), _⟩ => ⟨[(1, .c (.i .i64 (ix : Nat))), (6, .c (.p 0 0 0)), (8, .c (.i .i64 (k0 : Nat))), (9, .c (.b ok)), (10, .c (.sl 1 0 4 0 X.length c)), (11, .c (.i .i64 (X.length : Nat)))],
      [.one (.cells true (rv s a e)), .one (erR 2 X c), .many (trG X)]⟩) (fun p => p.1.1)
    ⟨⟨(k0, a0, e0, [], decide (((q0.1 : Nat) : Int) = 2), 0), Nat.le_refl _, ⟨hm1.2, Nat.zero_le _, rfl⟩, by simp, by constructor; intro h; have := of_decide_eq_true h; exact ⟨by omega, fun i hi => absurd hi (Nat.not_lt_zero i)⟩; intro h; exact decide_eq_true (by omega)⟩, [0, 99, 98], ?_⟩ ?_
  · (repeat' first | refine And.intro ?_ ?_ | exact xeC | fail)
    all_goals first
      | exact xmT
      | (intro i hi; exact absurd hi (Nat.not_lt_zero i))
      | exact fun x => if_neg (Nat.not_lt_zero x)
      | skip
  rintro ⟨⟨k, a, e, X, ok, c⟩, hk, hI, hXk, hok⟩
  simp only at hk hI hXk hok
  have hIl := hI.le
  have hIn := hI.len
  have hel : (ers X).length = X.length := List.length_map _
  rw [hel] at hIn
  repeat' (first | (fail_if_success (with_reducible refine xstp ?_)); first | ((with_reducible refine And.intro (fun (hb : _ = true) => ?_) (fun (hb : _ = false) => ?_)) <;> replace hb := xnC hb <;> (try first | exact xfC | exact bff hb (by assumption) | exact bff (by assumption) hb)) | (with_reducible intro hc; (try simp only [capsP, and_true] at hc); (try exact xfC)) | ((fail_if_success (with_reducible first | refine xgon ?_ | intro _)); (conv => whnf); (fail_if_success (fail_if_success (with_reducible first | refine xstp ?_ | refine xgon ?_ | intro _)))))
  · obtain ⟨k2, rfl⟩ : ∃ k2, k = k2 + 1 := ⟨k - 1, by omega⟩
    obtain rfl : e = 0 := by omega
    rw [if_pos rfl] at hIn
    have hst := hI.step
    have htp := tl_pos (s := s) (a := a) (e := 0)
    refine cH41zcX1 (σ := []) (nl := []) (centry s a hIl hs) ?_ (hle := by (repeat' first | refine And.intro ?_ ?_ | exact xeC | fail) <;> exact xmT)
    rintro v h' ⟨c3, rfl, rfl⟩ hcaps
    generalize hfb : decide (1 ≤ (sm4 s a 0).1 ∧ (rdEn s a 0).fi ≤ (rdEn s a 0).la ∧ okTs (rdEn s a 0).T) = fb at *
    have hfb2 : fb = true ↔ 1 ≤ (rdEn s a 0).T.length ∧ (rdEn s a 0).fi ≤ (rdEn s a 0).la ∧ okTs (rdEn s a 0).T := by rw [← hfb, decide_eq_true_iff, htp]
    clear hfb htp
    generalize rdEn s a 0 = y at *
    generalize enT s a 0 = et at *
    have hpv : (ers X).getD (X.length - 1) default = (X.getD ((X.length : Int) - 1).toNat default).e := by rw [getErs, show ((X.length : Int) - 1).toNat = X.length - 1 by omega]
    have hsn := okEs_snoc (L := ers X) (y := y) (ix := ix)
    rw [hel, hpv] at hsn
    have hbad := fun (h : ¬ (((X.length = 0 → y.off = 5) ∧ (0 < X.length → (X.getD ((X.length : Int) - 1).toNat default).e.off < y.off) ∧ y.off < ix) ∧ ((0 < X.length → (X.getD ((X.length : Int) - 1).toNat default).e.la ≤ y.fi) ∧ y.fi ≤ y.la ∧ 1 ≤ y.T.length) ∧ okTs y.T)) => (⟨fun q => (by cases q), fun q => absurd (hsn.1 q.2).2 h⟩ : false = true ↔ q0.1 = 2 ∧ okEs (ers X ++ [y]) ix)
    have hgood := fun (h : ((X.length = 0 → y.off = 5) ∧ (0 < X.length → (X.getD ((X.length : Int) - 1).toNat default).e.off < y.off) ∧ y.off < ix) ∧ ((0 < X.length → (X.getD ((X.length : Int) - 1).toNat default).e.la ≤ y.fi) ∧ y.fi ≤ y.la ∧ 1 ≤ y.T.length) ∧ okTs y.T) => hok.trans (⟨fun q => ⟨q.1, hsn.2 ⟨q.2, h⟩⟩, fun q => ⟨q.1, (hsn.1 q.2).1⟩⟩ : q0.1 = 2 ∧ okEs (ers X) ix ↔ q0.1 = 2 ∧ okEs (ers X ++ [y]) ix)
    refine rH41zcX0 ?_
    repeat' (first | (fail_if_success (with_reducible refine xstp ?_)); first | ((with_reducible refine And.intro (fun (hb : _ = true) => ?_) (fun (hb : _ = false) => ?_)) <;> replace hb := xnC hb <;> (try first | exact xfC | exact bff hb (by assumption) | exact bff (by assumption) hb)) | ((with_reducible refine And.intro ?_ ?_); focus exact xoC) | ((with_reducible refine Or.inl ⟨?_, ?_, ?_⟩); (focus rfl); focus exact xaC) | (with_reducible intro hc; (try simp only [capsP, and_true] at hc); (try exact xfC)) | ((fail_if_success (with_reducible first | refine xgon ?_ | intro _)); (conv => whnf); (fail_if_success (fail_if_success (with_reducible first | refine xstp ?_ | refine xgon ?_ | intro _)))))
    · skip
      rename_i c4
      refine ⟨⟨(k2, et.2.1, et.2.2, X ++ [⟨y, c3⟩], false, c4), by omega, by rw [ers_snoc]; exact hst, by rw [List.length_append, List.length_singleton]; omega, by rw [ers_snoc]; exact (hbad fun q => by have := hfb2.2 ⟨q.2.1.2.2, q.2.1.2.1, q.2.2⟩; rw [hb] at this; cases this)⟩, [0, 7, .adopt 2 X.length 3], by simp only; omega, ?_⟩
      (repeat' first | refine And.intro ?_ ?_ | exact xeC | fail)
      all_goals first
        | exact xmT
        | (simp; done)
        | exact erApp (G := 3) (y := ⟨y, c3⟩) (fun i hi => by simp [key, hi]) (by simp [key]) rfl
        | exact fun x hx => ixG_leA trF hx
        | skip
      refine ixG_leAn trF ?_
      refine ⟨rfl, rfl, rfl, rfl, Nat.le_refl _, rfl, fun i hi => rfl, ?_⟩
      (repeat' first | refine And.intro ?_ ?_ | exact xeC | fail)
      all_goals first
        | exact xmT
        | (simp; done)
        | skip
    · skip
      rename_i c4
      refine ⟨⟨(k2, et.2.1, et.2.2, X ++ [⟨y, c3⟩], false, c4), by omega, by rw [ers_snoc]; exact hst, by rw [List.length_append, List.length_singleton]; omega, by rw [ers_snoc]; exact (hbad fun q => by have := q.1.2.2; omega)⟩, [0, 7, .adopt 2 X.length 3], by simp only; omega, ?_⟩
      (repeat' first | refine And.intro ?_ ?_ | exact xeC | fail)
      all_goals first
        | exact xmT
        | (simp; done)
        | exact erApp (G := 3) (y := ⟨y, c3⟩) (fun i hi => by simp [key, hi]) (by simp [key]) rfl
        | exact fun x hx => ixG_leA trF hx
        | skip
      refine ixG_leAn trF ?_
      refine ⟨rfl, rfl, rfl, rfl, Nat.le_refl _, rfl, fun i hi => rfl, ?_⟩
      (repeat' first | refine And.intro ?_ ?_ | exact xeC | fail)
      all_goals first
        | exact xmT
        | (simp; done)
        | skip
    · skip
      rename_i c4
      refine ⟨⟨(k2, et.2.1, et.2.2, X ++ [⟨y, c3⟩], false, c4), by omega, by rw [ers_snoc]; exact hst, by rw [List.length_append, List.length_singleton]; omega, by rw [ers_snoc]; exact (hbad fun q => by have := q.1.1; omega)⟩, [0, 7, .adopt 2 X.length 3], by simp only; omega, ?_⟩
      (repeat' first | refine And.intro ?_ ?_ | exact xeC | fail)
      all_goals first
        | exact xmT
        | (simp; done)
        | exact erApp (G := 3) (y := ⟨y, c3⟩) (fun i hi => by simp [key, hi]) (by simp [key]) rfl
        | exact fun x hx => ixG_leA trF hx
        | skip
      refine ixG_leAn trF ?_
      refine ⟨rfl, rfl, rfl, rfl, Nat.le_refl _, rfl, fun i hi => rfl, ?_⟩
      (repeat' first | refine And.intro ?_ ?_ | exact xeC | fail)
      all_goals first
        | exact xmT
        | (simp; done)
        | skip
    · skip
      rename_i c4
      refine ⟨⟨(k2, et.2.1, et.2.2, X ++ [⟨y, c3⟩], ok, c4), by omega, by rw [ers_snoc]; exact hst, by rw [List.length_append, List.length_singleton]; omega, by rw [ers_snoc]; exact (hgood (by obtain ⟨p6, p5, p7⟩ := hfb2.1 (by assumption); exact ⟨⟨by omega, by omega, by omega⟩, ⟨by omega, p5, p6⟩, p7⟩))⟩, [0, 7, .adopt 2 X.length 3], by simp only; omega, ?_⟩
      (repeat' first | refine And.intro ?_ ?_ | exact xeC | fail)
      all_goals first
        | exact xmT
        | (simp; done)
        | exact erApp (G := 3) (y := ⟨y, c3⟩) (fun i hi => by simp [key, hi]) (by simp [key]) rfl
        | exact fun x hx => ixG_leA trF hx
        | skip
      refine ixG_leAn trF ?_
      refine ⟨rfl, rfl, rfl, rfl, Nat.le_refl _, rfl, fun i hi => rfl, ?_⟩
      (repeat' first | refine And.intro ?_ ?_ | exact xeC | fail)
      all_goals first
        | exact xmT
        | (simp; done)
        | skip
    · skip
      rename_i c4
      refine ⟨⟨(k2, et.2.1, et.2.2, X ++ [⟨y, c3⟩], false, c4), by omega, by rw [ers_snoc]; exact hst, by rw [List.length_append, List.length_singleton]; omega, by rw [ers_snoc]; exact (hbad fun q => by have := q.1.2.1; omega)⟩, [0, 7, .adopt 2 X.length 3], by simp only; omega, ?_⟩
      (repeat' first | refine And.intro ?_ ?_ | exact xeC | fail)
      all_goals first
        | exact xmT
        | (simp; done)
        | exact erApp (G := 3) (y := ⟨y, c3⟩) (fun i hi => by simp [key, hi]) (by simp [key]) rfl
        | exact fun x hx => ixG_leA trF hx
        | skip
      refine ixG_leAn trF ?_
      refine ⟨rfl, rfl, rfl, rfl, Nat.le_refl _, rfl, fun i hi => rfl, ?_⟩
      (repeat' first | refine And.intro ?_ ?_ | exact xeC | fail)
      all_goals first
        | exact xmT
        | (simp; done)
        | skip
    · skip
      rename_i c4
      refine ⟨⟨(k2, et.2.1, et.2.2, X ++ [⟨y, c3⟩], false, c4), by omega, by rw [ers_snoc]; exact hst, by rw [List.length_append, List.length_singleton]; omega, by rw [ers_snoc]; exact (hbad fun q => by have := q.2.1.1; omega)⟩, [0, 7, .adopt 2 X.length 3], by simp only; omega, ?_⟩
      (repeat' first | refine And.intro ?_ ?_ | exact xeC | fail)
      all_goals first
        | exact xmT
        | (simp; done)
        | exact erApp (G := 3) (y := ⟨y, c3⟩) (fun i hi => by simp [key, hi]) (by simp [key]) rfl
        | exact fun x hx => ixG_leA trF hx
        | skip
      refine ixG_leAn trF ?_
      refine ⟨rfl, rfl, rfl, rfl, Nat.le_refl _, rfl, fun i hi => rfl, ?_⟩
      (repeat' first | refine And.intro ?_ ?_ | exact xeC | fail)
      all_goals first
        | exact xmT
        | (simp; done)
        | skip
    · skip
      rename_i c4
      refine ⟨⟨(k2, et.2.1, et.2.2, X ++ [⟨y, c3⟩], ok, c4), by omega, by rw [ers_snoc]; exact hst, by rw [List.length_append, List.length_singleton]; omega, by rw [ers_snoc]; exact (hgood (by obtain ⟨p6, p5, p7⟩ := hfb2.1 (by assumption); exact ⟨⟨by omega, by omega, by omega⟩, ⟨by omega, p5, p6⟩, p7⟩))⟩, [0, 7, .adopt 2 X.length 3], by simp only; omega, ?_⟩
      (repeat' first | refine And.intro ?_ ?_ | exact xeC | fail)
      all_goals first
        | exact xmT
        | (simp; done)
        | exact erApp (G := 3) (y := ⟨y, c3⟩) (fun i hi => by simp [key, hi]) (by simp [key]) rfl
        | exact fun x hx => ixG_leA trF hx
        | skip
      refine ixG_leAn trF ?_
      refine ⟨rfl, rfl, rfl, rfl, Nat.le_refl _, rfl, fun i hi => rfl, ?_⟩
      (repeat' first | refine And.intro ?_ ?_ | exact xeC | fail)
      all_goals first
        | exact xmT
        | (simp; done)
        | skip
  all_goals obtain ⟨hfa, hfl⟩ := ix_fin (ix := ix) hq0 hr0 hI hXk (by omega)
  · skip
    refine cH41zcX1 (σ := []) (nl := []) (cREnd s a e) ?_ (hle := by (repeat' first | refine And.intro ?_ ?_ | exact xeC | fail) <;> exact xmT)
    rintro v h' ⟨rfl, rfl⟩ hcaps
    refine rH41zcX0 ?_
    repeat' (first | (fail_if_success (with_reducible refine xstp ?_)); first | ((fail_if_success (with_reducible first | refine xgon ?_ | intro _)); (conv => whnf); (fail_if_success (fail_if_success (with_reducible first | refine xstp ?_ | refine xgon ?_ | intro _)))))
    have hok2 := hok.1 (by assumption)
    have h5 : k0 = 0 → ix = 5 := by omega
    refine FinK.mk ⟨[1, 2], _, _, ⟨X, c, decide (((endV s a e : Nat) : Int) = 0), ⟨fun h => hfa.2 ⟨hok2.1, by have := of_decide_eq_true h; omega, hok2.2, h5⟩, fun h => decide_eq_true (by have := (hfa.1 h).2.1; omega)⟩, fun _ => (hfl hok2.1).symm, rfl, rfl⟩, ?_⟩
    (repeat' first | refine And.intro ?_ ?_ | exact xeC | fail)
    all_goals exact xmT
  · skip
    refine FinK.mk ⟨[1, 2], _, _, ⟨X, c, false, ⟨fun h => (by cases h), fun h => absurd (hfa.1 h) (fun q => by have := hok.2 ⟨q.1, q.2.2.1⟩; rw [hb] at this; cases this)⟩, fun h => (by cases h), rfl, rfl⟩, ?_⟩
    (repeat' first | refine And.intro ?_ ?_ | exact xeC | fail)
    all_goals exact xmT
  · skip
    refine FinK.mk ⟨[1, 2], _, _, ⟨X, c, false, ⟨fun h => (by cases h), fun h => absurd (hfa.1 h) (fun q => by have := q.2.2.2; omega)⟩, fun h => (by cases h), rfl, rfl⟩, ?_⟩
    (repeat' first | refine And.intro ?_ ?_ | exact xeC | fail)
    all_goals exact xmT
  · skip
    refine cH41zcX1 (σ := []) (nl := []) (cREnd s a e) ?_ (hle := by (repeat' first | refine And.intro ?_ ?_ | exact xeC | fail) <;> exact xmT)
    rintro v h' ⟨rfl, rfl⟩ hcaps
    refine rH41zcX0 ?_
    repeat' (first | (fail_if_success (with_reducible refine xstp ?_)); first | ((fail_if_success (with_reducible first | refine xgon ?_ | intro _)); (conv => whnf); (fail_if_success (fail_if_success (with_reducible first | refine xstp ?_ | refine xgon ?_ | intro _)))))
    have hok2 := hok.1 (by assumption)
    have h5 : k0 = 0 → ix = 5 := by omega
    refine FinK.mk ⟨[1, 2], _, _, ⟨X, c, decide (((endV s a e : Nat) : Int) = 0), ⟨fun h => hfa.2 ⟨hok2.1, by have := of_decide_eq_true h; omega, hok2.2, h5⟩, fun h => decide_eq_true (by have := (hfa.1 h).2.1; omega)⟩, fun _ => (hfl hok2.1).symm, rfl, rfl⟩, ?_⟩
    (repeat' first | refine And.intro ?_ ?_ | exact xeC | fail)
    all_goals exact xmT
  · skip
    refine FinK.mk ⟨[1, 2], _, _, ⟨X, c, false, ⟨fun h => (by cases h), fun h => absurd (hfa.1 h) (fun q => by have := hok.2 ⟨q.1, q.2.2.1⟩; rw [hb] at this; cases this)⟩, fun h => (by cases h), rfl, rfl⟩, ?_⟩
    (repeat' first | refine And.intro ?_ ?_ | exact xeC | fail)
    all_goals exact xmT
  · skip
    refine cH41zcX1 (σ := []) (nl := []) (cREnd s a e) ?_ (hle := by (repeat' first | refine And.intro ?_ ?_ | exact xeC | fail) <;> exact xmT)
    rintro v h' ⟨rfl, rfl⟩ hcaps
    refine rH41zcX0 ?_
    repeat' (first | (fail_if_success (with_reducible refine xstp ?_)); first | ((fail_if_success (with_reducible first | refine xgon ?_ | intro _)); (conv => whnf); (fail_if_success (fail_if_success (with_reducible first | refine xstp ?_ | refine xgon ?_ | intro _)))))
    have hok2 := hok.1 (by assumption)
    have h5 : k0 = 0 → ix = 5 := by omega
    refine FinK.mk ⟨[1, 2], _, _, ⟨X, c, decide (((endV s a e : Nat) : Int) = 0), ⟨fun h => hfa.2 ⟨hok2.1, by have := of_decide_eq_true h; omega, hok2.2, h5⟩, fun h => decide_eq_true (by have := (hfa.1 h).2.1; omega)⟩, fun _ => (hfl hok2.1).symm, rfl, rfl⟩, ?_⟩
    (repeat' first | refine And.intro ?_ ?_ | exact xeC | fail)
    all_goals exact xmT
  · skip
    refine FinK.mk ⟨[1, 2], _, _, ⟨X, c, false, ⟨fun h => (by cases h), fun h => absurd (hfa.1 h) (fun q => by have := hok.2 ⟨q.1, q.2.2.1⟩; rw [hb] at this; cases this)⟩, fun h => (by cases h), rfl, rfl⟩, ?_⟩
    (repeat' first | refine And.intro ?_ ?_ | exact xeC | fail)
    all_goals exact xmT
end Go.Proofs.YtkjkbpnhocjenaaGreat


namespace Go.Proofs.YtkjkbpnhocjenaaGreat
open Go.X
set_option linter.unusedSimpArgs false
set_option linter.unusedVariables false
open P4
open P5
theorem cntQ_L {A : List Rc} {t : List UInt8} (h : t ≠ []) : cntQ A t = cntL A t := by
  unfold cntQ cntL
  congr 1
  apply List.filter_congr
  intro r _
  by_cases q : r.tp = t
  · simp [q]
  · simp [q, h]
/-- A recording's topics and its records. -/
structure TpU (A : List Rc) (U : List (List UInt8)) : Prop where
  len : U.length ≤ 1000000
  srt : U.Pairwise (· < ·)
  mem : ∀ t, t ∈ U ↔ t ∈ A.map Rc.tp
theorem TpU.at {A : List Rc} {U : List (List UInt8)} (h : TpU A U) (hA : AOk A) {i : Nat} (hi : i < U.length) : 0 < cntL A (U.getD i default) ∧ cntQ A (U.getD i default) = cntL A (U.getD i default) ∧ (0 < i → U.getD (i - 1) default < U.getD i default) := by
  obtain ⟨r, hr, e⟩ := List.mem_map.1 ((h.mem _).1 (mem_getD hi))
  refine ⟨?_, cntQ_L ?_, fun h0 => ?_⟩
  · unfold cntL
    exact List.length_pos_of_mem (List.mem_filter.2 ⟨hr, by simpa using e⟩)
  · rw [← e]
    intro q
    have := (hA.ok r hr).1.1.1
    rw [q] at this
    exact absurd this (by decide)
  · have := List.pairwise_iff_getElem.1 h.srt (i - 1) i (by omega) hi (by omega)
    rw [getD_at (show i - 1 < U.length by omega), getD_at hi]
    exact this
end Go.Proofs.YtkjkbpnhocjenaaGreat


namespace Go.Proofs.YtkjkbpnhocjenaaGreat
open Go.X
set_option linter.unusedSimpArgs false
set_option linter.unusedVariables false
open P4
open P5
abbrev rbC (b : Bg) (F n c : Nat) : Ck := .cells true [.s (mkS b.s), .i .i64 (b.ix : Nat), .sl F 0 4 0 n c]
abbrev rbH (b : Bg) (X : List Er) (c : Nat) : List Fam := [.one (rbC b 1 X.length c), .one (erR 2 X c), .many (trG X)]
set_option maxRecDepth 10000 in
theorem csame (w w2 : Bool) (l m : List Tl) (c d : Nat) (hl : l.length ≤ 1000000000) :
    Ctr Tryz.prog 101 [.c (.sl 0 0 2 0 l.length c), .c (.sl 1 0 2 0 m.length d)] [.one (tlR w l c), .one (tlR w2 m d)]
      fun v h => v = .c (.b (decide (l = m))) ∧ h = [.one (tlR w l c), .one (tlR w2 m d)] := by
  refine Ctr.mk' tbv mixed Tryz.func101 rfl rfl rfl (fun _ _ => by kernel_rfl) (by kernel_rfl) (by rfl) (by rfl) (by (repeat' first | refine And.intro ?_ ?_ | exact xeC | fail)) ?_
  repeat' (first | (fail_if_success (with_reducible refine xstp ?_)); first | ((with_reducible refine And.intro (fun (hb : _ = true) => ?_) (fun (hb : _ = false) => ?_)) <;> replace hb := xnC hb <;> (try first | exact xfC | exact bff hb (by assumption) | exact bff (by assumption) hb)) | (with_reducible intro hc; (try simp only [capsP, and_true] at hc); (try exact xfC)) | ((fail_if_success (with_reducible first | refine xgon ?_ | intro _)); (conv => whnf); (fail_if_success (fail_if_success (with_reducible first | refine xstp ?_ | refine xgon ?_ | intro _)))))
  · rw [decide_eq_false (p := l = m) (fun e => hb (by rw [e]))]
    refine FinK.mk ⟨[0, 1], _, _, ⟨rfl, rfl⟩, ?_⟩
    (repeat' first | refine And.intro ?_ ?_ | exact xeC | fail)
  have hlm : l.length = m.length := by omega
  refine LoopK.mk' {i : Nat // i ≤ l.length ∧ l.take i = m.take i}
    (fun ⟨i, _⟩ => ⟨[(0, .c (.sl 0 0 2 0 l.length c)), (1, .c (.sl 1 0 2 0 m.length d)), (5, .c (.i .i64 (i : Nat)))], [.one (tlR w l c), .one (tlR w2 m d)]⟩) (fun p => l.length - p.1)
    ⟨⟨0, Nat.zero_le _, rfl⟩, [0, 1], ?_⟩ ?_
  · (repeat' first | refine And.intro ?_ ?_ | exact xeC | fail)
  rintro ⟨i, hi, hq⟩
  have e2 : 0 + ((i : Nat) : Int).toNat = i := by omega
  repeat' (first | (fail_if_success (with_reducible refine xstp ?_)); first | ((with_reducible refine And.intro (fun (hb : _ = true) => ?_) (fun (hb : _ = false) => ?_)) <;> replace hb := xnC hb <;> (try first | exact xfC | exact bff hb (by assumption) | exact bff (by assumption) hb)) | ((with_reducible refine And.intro ?_ ?_); focus exact xoC) | (with_reducible intro hc; (try simp only [capsP, and_true] at hc); (try exact xfC)) | ((fail_if_success (with_reducible first | refine xgon ?_ | intro _)); (conv => whnf); (fail_if_success (fail_if_success (with_reducible first | refine xstp ?_ | refine xgon ?_ | intro _)))))
  · have hne : l ≠ m := fun e => by
      rw [e] at hb
      simp at hb
    rw [decide_eq_false (p := l = m) hne]
    refine FinK.mk ⟨[0, 1], _, _, ⟨rfl, rfl⟩, ?_⟩
    (repeat' first | refine And.intro ?_ ?_ | exact xeC | fail)
  · have hg : l.getD i default = m.getD i default := by
      obtain ⟨h1, h2⟩ := hb
      have h1 := mkS_inj.1 h1
      generalize l.getD i default = x at *
      generalize m.getD i default = y at *
      cases x
      cases y
      simp only at h1 h2
      rw [h1, show _ = _ from Int.ofNat_inj.1 h2]
    refine ⟨⟨i + 1, by omega, take_eq hq (by omega) (by omega) hg⟩, [0, 1], by simp only; omega, ?_⟩
    (repeat' first | refine And.intro ?_ ?_ | exact xeC | fail)
  · obtain rfl : i = l.length := by omega
    rw [decide_eq_true (p := l = m) (by rw [List.take_length, hlm, List.take_length] at hq; exact hq)]
    refine FinK.mk ⟨[0, 1], _, _, ⟨rfl, rfl⟩, ?_⟩
    (repeat' first | refine And.intro ?_ ?_ | exact xeC | fail)
set_option maxRecDepth 10000 in
theorem chas (w : Bool) (e : En) (c : Nat) (t : List UInt8) (hl : e.T.length ≤ 1000000000) :
    Ctr Tryz.prog 88 [.a [.i .i64 (e.off : Nat), .i .i64 (e.fi : Nat), .i .i64 (e.la : Nat), .sl 0 0 2 0 e.T.length c], .c (.s (mkS t))] [.one (tlR w e.T c)]
      fun v h => v = .c (.b (decide (hasT e t))) ∧ h = [.one (tlR w e.T c)] := by
  have hm : t ∈ e.T.map Prod.fst ↔ ∃ k, k < e.T.length ∧ (e.T.getD k default).1 = t := by
    constructor
    · intro h
      obtain ⟨p, hp, rfl⟩ := List.mem_map.1 h
      obtain ⟨k, hk, e2⟩ := List.mem_iff_getElem.1 hp
      exact ⟨k, hk, by rw [getD_at hk, e2]⟩
    · rintro ⟨k, hk, rfl⟩
      exact List.mem_map.2 ⟨_, by rw [getD_at hk]; exact List.getElem_mem _, rfl⟩
  refine Ctr.mk' tbv mixed Tryz.func88 rfl rfl rfl (fun _ _ => by kernel_rfl) (by kernel_rfl) (by rfl) (by rfl) (by (repeat' first | refine And.intro ?_ ?_ | exact xeC | fail)) ?_
  repeat' (first | (fail_if_success (with_reducible refine xstp ?_)); first | (with_reducible intro hc; (try simp only [capsP, and_true] at hc); (try exact xfC)) | ((fail_if_success (with_reducible first | refine xgon ?_ | intro _)); (conv => whnf); (fail_if_success (fail_if_success (with_reducible first | refine xstp ?_ | refine xgon ?_ | intro _)))))
  refine LoopK.mk' {i : Nat // i ≤ e.T.length ∧ ∀ k, k < i → (e.T.getD k default).1 ≠ t}
    (fun ⟨i, _⟩ => ⟨[(1, .c (.s (mkS t))), (2, .c (.p 1 0 0)), (5, .c (.i .i64 (i : Nat)))], [.one (tlR w e.T c), .one (.cells true [.i .i64 (e.off : Nat), .i .i64 (e.fi : Nat), .i .i64 (e.la : Nat), .sl 0 0 2 0 e.T.length c])]⟩) (fun p => e.T.length - p.1)
    ⟨⟨0, Nat.zero_le _, fun k hk => absurd hk (Nat.not_lt_zero k)⟩, [0, 1], ?_⟩ ?_
  · (repeat' first | refine And.intro ?_ ?_ | exact xeC | fail)
  rintro ⟨i, hi, hq⟩
  have e2 : 0 + ((i : Nat) : Int).toNat = i := by omega
  repeat' (first | (fail_if_success (with_reducible refine xstp ?_)); first | ((with_reducible refine And.intro (fun (hb : _ = true) => ?_) (fun (hb : _ = false) => ?_)) <;> replace hb := xnC hb <;> (try first | exact xfC | exact bff hb (by assumption) | exact bff (by assumption) hb)) | ((with_reducible refine And.intro ?_ ?_); focus exact xoC) | (with_reducible intro hc; (try simp only [capsP, and_true] at hc); (try exact xfC)) | ((fail_if_success (with_reducible first | refine xgon ?_ | intro _)); (conv => whnf); (fail_if_success (fail_if_success (with_reducible first | refine xstp ?_ | refine xgon ?_ | intro _)))))
  · rw [decide_eq_true (p := hasT e t) (.inr (hm.2 ⟨i, by omega, mkS_inj.1 hb⟩))]
    refine FinK.mk ⟨[0], _, _, ⟨rfl, rfl⟩, ?_⟩
    (repeat' first | refine And.intro ?_ ?_ | exact xeC | fail)
  · refine ⟨⟨i + 1, by omega, fun k hk => ?_⟩, [0, 1], by simp only; omega, ?_⟩
    · rcases Nat.lt_or_ge k i with q | q
      · exact hq k q
      · obtain rfl : k = i := by omega
        exact fun q => hb (by rw [q])
    · (repeat' first | refine And.intro ?_ ?_ | exact xeC | fail)
  · obtain rfl : i = e.T.length := by omega
    have hd : decide (mkS t = { data := #[] }) = decide (hasT e t) := by
      by_cases q : t = []
      · rw [decide_eq_true (mkS_nil.2 q), decide_eq_true (p := hasT e t) (.inl q)]
      · rw [decide_eq_false (fun h => q (mkS_nil.1 h)), decide_eq_false (p := hasT e t) (fun h => h.elim q (fun h => by obtain ⟨k, hk, he⟩ := hm.1 h; exact hq k hk he))]
    rw [← hd]
    refine FinK.mk ⟨[0], _, _, ⟨rfl, rfl⟩, ?_⟩
    (repeat' first | refine And.intro ?_ ?_ | exact xeC | fail)
end Go.Proofs.YtkjkbpnhocjenaaGreat


namespace Go.Proofs.YtkjkbpnhocjenaaGreat
open Go.X
set_option linter.unusedSimpArgs false
set_option linter.unusedVariables false
open P4
open P5
theorem encEr_rk0 (N : Nat) (X : List Er) (i : Nat) : List.map (C.rk [] N) (encEr 1 X i) = encEr (N + 1) X i := rfl
theorem rH41zcY0 {σ : List Sg} {H h' : List Fam} {v : T} {K : T → List Fam → Prop} {H' : List Fam} {v' : T} {N : Nat} (hk : K v' H') (hN : H.length = N := by (try simp only [↓List.length_cons, ↓List.length_nil, Nat.reduceAdd]) <;> rfl) (h : givesF σ N H σ h' = some H' := by (try simp (maxSteps := 1000000) only [givesF, setF, updF, Fam.zeroth, Fam.rk, Ck.rk, C.rk, E.rk, T.rk, key, List.map_cons, List.map_nil, List.cons_append, List.nil_append, List.length_cons, List.length_nil, Option.map_some, Option.bind_some, Nat.reduceAdd, Nat.zero_add, Nat.add_zero, Nat.add_sub_cancel_left, Int.toNat_natCast, reps, List.all_cons, List.all_nil, C.flat, List.append_eq, Bool.not_true, Bool.and_true, Bool.or_false, Bool.or_self, Bool.not_false, List.append_nil, Bool.and_self, ↓trG_rk]) <;> rfl) (hv : v.rk σ N = v' := by (try simp only [givesF, setF, updF, Fam.zeroth, Fam.rk, Ck.rk, C.rk, E.rk, T.rk, key, List.map_cons, List.map_nil, List.cons_append, List.nil_append, List.length_cons, List.length_nil, Option.map_some, Option.bind_some, Nat.reduceAdd, Nat.zero_add, Nat.add_zero, Nat.add_sub_cancel_left, Int.toNat_natCast, reps, List.all_cons, List.all_nil, C.flat, List.append_eq, Bool.not_true, Bool.and_true, Bool.or_false, Bool.or_self, Bool.not_false, List.append_nil, Bool.and_self, ↓trG_rk]) <;> rfl) : RetG σ H h' v K := ret_mk3 hN h hv hk
theorem rH41zcY1 {σ : List Sg} {H h' : List Fam} {v : T} {K : T → List Fam → Prop} {H' : List Fam} {v' : T} {N : Nat} (hk : K v' H') (hN : H.length = N := by (try simp only [↓List.length_cons, ↓List.length_nil, Nat.reduceAdd]) <;> rfl) (h : givesF σ N H σ h' = some H' := by (try simp (maxSteps := 1000000) only [givesF, setF, updF, Fam.zeroth, Fam.rk, Ck.rk, C.rk, E.rk, T.rk, key, List.map_cons, List.map_nil, List.cons_append, List.nil_append, List.length_cons, List.length_nil, Option.map_some, Option.bind_some, Nat.reduceAdd, Nat.zero_add, Nat.add_zero, Nat.add_sub_cancel_left, Int.toNat_natCast, reps, List.all_cons, List.all_nil, C.flat, List.append_eq, Bool.not_true, Bool.and_true, Bool.or_false, Bool.or_self, Bool.not_false, List.append_nil, Bool.and_self, ↓trG_rk, encEr_rk0]) <;> rfl) (hv : v.rk σ N = v' := by (try simp only [givesF, setF, updF, Fam.zeroth, Fam.rk, Ck.rk, C.rk, E.rk, T.rk, key, List.map_cons, List.map_nil, List.cons_append, List.nil_append, List.length_cons, List.length_nil, Option.map_some, Option.bind_some, Nat.reduceAdd, Nat.zero_add, Nat.add_zero, Nat.add_sub_cancel_left, Int.toNat_natCast, reps, List.all_cons, List.all_nil, C.flat, List.append_eq, Bool.not_true, Bool.and_true, Bool.or_false, Bool.or_self, Bool.not_false, List.append_nil, Bool.and_self, ↓trG_rk, encEr_rk0]) <;> rfl) : RetG σ H h' v K := ret_mk3 hN h hv hk
theorem cH41zcY2 {P : Program} {F : Nat} {args : List T} {H : List Fam} {K : T → List Fam → Prop} {σ : List Sg} {nl : List Fam} {args0 : List T} {h0 : List Fam} {Q : T → List Fam → Prop} {H2 H1 : List Fam} {N n : Nat} (hc : Ctr P F args0 h0 Q) (hk : ∀ v h', Q v h' → capsP h' → RetG σ H2 h' v K) (hap : apart σ = true := by rfl) (hnl : nl.all nilB = true := by rfl) (h1 : H ++ nl = H1 := by first | exact List.append_nil _ | ((try simp only [List.cons_append, List.nil_append]) <;> rfl)) (hN : H1.length = N := by (try simp only [↓List.length_cons, ↓List.length_nil, Nat.reduceAdd]) <;> rfl) (hn : H.length = n := by (try simp only [↓List.length_cons, ↓List.length_nil, Nat.reduceAdd]) <;> rfl) (hH : givesF σ N H1 σ h0 = some H2 := by (try simp (maxSteps := 1000000) only [givesF, setF, updF, Fam.zeroth, Fam.rk, Ck.rk, C.rk, E.rk, T.rk, key, List.map_cons, List.map_nil, List.cons_append, List.nil_append, List.length_cons, List.length_nil, Option.map_some, Option.bind_some, Nat.reduceAdd, Nat.zero_add, Nat.add_zero, Nat.add_sub_cancel_left, Int.toNat_natCast, reps, List.all_cons, List.all_nil, C.flat, List.append_eq, Bool.not_true, Bool.and_true, Bool.or_false, Bool.or_self, Bool.not_false, List.append_nil, Bool.and_self, ↓trG_rk]) <;> rfl) (hle : leS n H1 σ N σ h0 (belsK N (h0.map (Fam.rk σ N)) (argsK n args (args0.map (T.rk σ N)) True)) := by repeat' first | refine And.intro ?_ ?_ | exact xeC | fail) : CallK P F args H K := CallK.mk3 hc hap hnl h1 hN hn hH hle hk
set_option maxRecDepth 10000 in
set_option maxHeartbeats 8000000 in
theorem cOpenRef (l : List UInt8) (hl : l.length ≤ 400000) :
    Ctr Tryz.prog 8 [.c (.s (mkS l))] []
      fun v h => (bgE l ≠ 0 ∧ v = .t [.c .nilp, .c (.i .i64 (bgE l : Nat))] ∧ h = []) ∨ (bgE l = 0 ∧ ∃ X c, ers X = (bgO l).L ∧ v = .t [.c (.p 0 0 0), .c (.i .i64 0)] ∧ h = rbH (bgO l) X c) := by
  have hz : (mkS l).size = l.length := rfl
  have hm : ({ data := #[82, 66, 65, 71, 49] } : ByteArray) = mkS magic := rfl
  have t1 : (mkS l).extract 0 (Int.toNat 5) = mkS (l.take 5) := by rw [mkS_ext]; rfl
  refine Ctr.mk' tbv mixed Tryz.func8 rfl rfl rfl (fun _ _ => by kernel_rfl) (by kernel_rfl) (by rfl) (by rfl) (by (repeat' first | refine And.intro ?_ ?_ | exact xeC | fail) <;> exact xmT) ?_
  have t2 : (mkS l).extract (((mkS l).size : Int) - 13 + 8).toNat (mkS l).size = mkS (l.drop (l.length - 5)) := by
    rw [mkS_ext, hz, List.take_length]
    rcases Nat.lt_or_ge l.length 5 with q | q
    · rw [show ((l.length : Int) - 13 + 8).toNat = l.length - 5 by omega]
    · rw [show ((l.length : Int) - 13 + 8).toNat = l.length - 5 by omega]
  have t3 : 18 ≤ l.length → (mkS l).extract (((mkS l).size : Int) - 13).toNat (((mkS l).size : Int) - 13 + 8).toNat = mkS ((l.drop (l.length - 13)).take 8) := fun h => by
    rw [mkS_ext, hz, show ((l.length : Int) - 13 + 8).toNat = (l.length - 13) + 8 by omega, show ((l.length : Int) - 13).toNat = l.length - 13 by omega, List.drop_take, Nat.add_sub_cancel_left]
  repeat' (first | (fail_if_success (with_reducible refine xstp ?_)); first | ((with_reducible refine And.intro (fun (hb : _ = true) => ?_) (fun (hb : _ = false) => ?_)) <;> replace hb := xnC hb <;> (try first | exact xfC | exact bff hb (by assumption) | exact bff (by assumption) hb)) | ((with_reducible refine And.intro ?_ ?_); focus exact xoC) | (with_reducible intro hc; (try simp only [capsP, and_true] at hc); (try exact xfC)) | ((fail_if_success (with_reducible first | refine xgon ?_ | intro _)); (conv => whnf); (fail_if_success (fail_if_success (with_reducible first | refine xstp ?_ | refine xgon ?_ | intro _)))))
  · skip
    have hE : bgE l = 1 := if_pos (by omega)
    refine FinK.mk ⟨[], _, _, .inl ⟨by rw [hE]; decide, by rw [hE], rfl⟩, ?_⟩
    (repeat' first | refine And.intro ?_ ?_ | exact xeC | fail)
  rw [t3 (by omega)]
  have h8 : ((l.drop (l.length - 13)).take 8).length = 8 := by rw [List.length_take, List.length_drop]; omega
  have hA : bgA l = le8 ((l.drop (l.length - 13)).take 8) := rfl
  refine cH41zcY2 (σ := []) (nl := []) (coffset ((l.drop (l.length - 13)).take 8) h8) ?_
  rintro v h' ⟨⟨z, rfl, hzz⟩, rfl⟩ hcaps
  rw [← hA] at hzz
  refine rH41zcY0 ?_
  repeat' (first | (fail_if_success (with_reducible refine xstp ?_)); first | ((with_reducible refine And.intro (fun (hb : _ = true) => ?_) (fun (hb : _ = false) => ?_)) <;> replace hb := xnC hb <;> (try first | exact xfC | exact bff hb (by assumption) | exact bff (by assumption) hb)) | ((with_reducible refine And.intro ?_ ?_); focus exact xoC) | ((fail_if_success (with_reducible first | refine xgon ?_ | intro _)); (conv => whnf); (fail_if_success (fail_if_success (with_reducible first | refine xstp ?_ | refine xgon ?_ | intro _)))))
  · rw [t1, hm, mkS_inj] at hb
    have hE : bgE l = 2 := (by unfold bgE; rw [if_neg (by omega), if_pos (fun q => hb q.1)])
    refine FinK.mk ⟨[], _, _, .inl ⟨by rw [hE]; decide, by rw [hE], rfl⟩, ?_⟩
    (repeat' first | refine And.intro ?_ ?_ | exact xeC | fail)
  · rw [t2, hm, mkS_inj] at hb
    have hE : bgE l = 2 := (by unfold bgE; rw [if_neg (by omega), if_pos (fun q => hb q.2.1)])
    refine FinK.mk ⟨[], _, _, .inl ⟨by rw [hE]; decide, by rw [hE], rfl⟩, ?_⟩
    (repeat' first | refine And.intro ?_ ?_ | exact xeC | fail)
  · skip
    have hE : bgE l = 2 := (by unfold bgE; rw [if_neg (by omega), if_pos (fun q => by have := q.2.2.1; have := q.2.2.2; omega)])
    refine FinK.mk ⟨[], _, _, .inl ⟨by rw [hE]; decide, by rw [hE], rfl⟩, ?_⟩
    (repeat' first | refine And.intro ?_ ?_ | exact xeC | fail)
  · skip
    have hE : bgE l = 2 := (by unfold bgE; rw [if_neg (by omega), if_pos (fun q => by have := q.2.2.2; omega)])
    refine FinK.mk ⟨[], _, _, .inl ⟨by rw [hE]; decide, by rw [hE], rfl⟩, ?_⟩
    (repeat' first | refine And.intro ?_ ?_ | exact xeC | fail)
  have hh2 : l.drop (l.length - 5) = magic := by rw [← mkS_inj, ← hm, ← t2]; assumption
  have hh1 : l.take 5 = magic := by rw [← mkS_inj, ← hm, ← t1]; assumption
  obtain rfl : z = (bgA l : Nat) := by omega
  have h5 : 5 ≤ bgA l := by omega
  have h13 : bgA l ≤ l.length - 13 := by omega
  have hsl : (mkS l).extract (((bgA l : Nat) : Int)).toNat (((mkS l).size : Int) - 13).toNat = mkS ((l.take (l.length - 13)).drop (bgA l)) := by rw [mkS_ext, hz, show ((l.length : Int) - 13).toNat = l.length - 13 by omega, Int.toNat_natCast]
  rw [hsl]
  have hB : ((l.take (l.length - 13)).drop (bgA l)).length ≤ 400000 := by rw [List.length_drop, List.length_take]; omega
  refine cH41zcY2 (σ := []) (nl := []) (cexaR ((l.take (l.length - 13)).drop (bgA l)) (by omega)) ?_
  rintro v h' ⟨rfl, rfl⟩ hcaps
  refine rH41zcY0 ?_
  have hxl := exaL_len ((l.take (l.length - 13)).drop (bgA l))
  have hX : exaL ((l.take (l.length - 13)).drop (bgA l)) = bgX l := rfl
  rw [hX] at hxl ⊢
  have hE1 : bgE l = if (bgX l).2 ≠ 0 then (bgX l).2 else if (ixL (mkS (bgX l).1)).2 = true ∧ ordE (ixL (mkS (bgX l).1)).1 (bgA l) then 0 else 2 := by
    unfold bgE
    rw [if_neg (by omega), if_neg (fun q => q ⟨hh1, hh2, h5, h13⟩)]
  repeat' (first | (fail_if_success (with_reducible refine xstp ?_)); first | ((with_reducible refine And.intro (fun (hb : _ = true) => ?_) (fun (hb : _ = false) => ?_)) <;> replace hb := xnC hb <;> (try first | exact xfC | exact bff hb (by assumption) | exact bff (by assumption) hb)) | ((fail_if_success (with_reducible first | refine xgon ?_ | intro _)); (conv => whnf); (fail_if_success (fail_if_success (with_reducible first | refine xstp ?_ | refine xgon ?_ | intro _)))))
  · rw [if_pos (by omega)] at hE1
    rw [hE1]
    refine FinK.mk ⟨[], _, _, .inl ⟨by omega, rfl, rfl⟩, ?_⟩
    (repeat' first | refine And.intro ?_ ?_ | exact xeC | fail)
  rw [if_neg (by omega)] at hE1
  have hzx : (mkS (bgX l).1).size = (bgX l).1.length := rfl
  refine cH41zcY2 (σ := []) (nl := []) (centries (mkS (bgX l).1) (bgA l) (by omega) (by omega)) ?_
  rintro v h' ⟨X, c, okb, hk1, hk3, rfl, rfl⟩ hcaps
  have hO := bgO_L l
  have hO1 : (bgO l).s = l := by simp only [bgO]
  have hO2 : (bgO l).ix = bgA l := by simp only [bgO]
  generalize ixL (mkS (bgX l).1) = r at *
  refine rH41zcY1 ?_
  repeat' (first | (fail_if_success (with_reducible refine xstp ?_)); first | ((with_reducible refine And.intro (fun (hb : _ = true) => ?_) (fun (hb : _ = false) => ?_)) <;> replace hb := xnC hb <;> (try first | exact xfC | exact bff hb (by assumption) | exact bff (by assumption) hb)) | ((fail_if_success (with_reducible first | refine xgon ?_ | intro _)); (conv => whnf); (fail_if_success (fail_if_success (with_reducible first | refine xstp ?_ | refine xgon ?_ | intro _)))))
  · rw [if_neg (fun q => by have := hk1.2 q; rw [hb] at this; cases this)] at hE1
    have hE : bgE l = 2 := hE1
    refine FinK.mk ⟨[], _, _, .inl ⟨by rw [hE]; decide, by rw [hE], rfl⟩, ?_⟩
    (repeat' first | refine And.intro ?_ ?_ | exact xeC | fail)
  · have hok := hk1.1 hb
    rw [if_pos hok] at hE1
    refine FinK.mk ⟨[2, 0, 1], _, _, .inr ⟨hE1, X, c, by rw [hO]; exact hk3 hb, rfl, rfl⟩, ?_⟩
    (repeat' first | refine And.intro ?_ ?_ | exact xeC | fail)
    all_goals exact xmT
end Go.Proofs.YtkjkbpnhocjenaaGreat


namespace Go.Proofs.YtkjkbpnhocjenaaGreat
open Go.X Go.RowKit
set_option linter.unusedVariables false
theorem one_read {β : Nm} {W : World} {ck : Ck} (h : ck.holds β W (β 0 0)) (ho : ck.owned = false) : Fits β [.one ck] W ∧ ∀ f x, (Go.X.get [.one ck] f x).owned = false := by
  have hno := get_ones_own (h := [ck]) (by intro q hq; rw [List.mem_singleton.1 hq]; exact ho)
  exact ⟨fits_read (get_ones (h := [ck]) (fun f q hf => by
    match f, hf with
    | 0, hf => cases hf; exact h
    | f + 1, hf => simp at hf)) hno, hno⟩
theorem ft_Rc {l : List C} (h : FT [.i .i64, .s, .s] l) : ∃ x : Rc, l = encR x ∧ True := by
  obtain ⟨a, _, rfl, ha, h1⟩ := FT_i h
  obtain ⟨b, _, rfl, hb, h2⟩ := FT_s h1
  obtain ⟨c, _, rfl, hc, h3⟩ := FT_s h2
  obtain rfl := FT_nil h3
  exact ⟨⟨a, b.data.toList, c.data.toList⟩, by unfold encR; simp only [mkS_of], trivial⟩
theorem recs_view {W : World} {v : Value} (k : VK W (.sl [.i .i64, .s, .s]) v) (e : ∀ a n c, v = .slice (some a) n c → a.spot = none) :
    ∃ (A : Nat × Nat × Fl) (l : List Rc) (c : Nat), l.length ≤ 9223372036854775807 ∧ (∀ β f x, β f x = A → (C.sl f x 3 0 l.length c).ren β = v) ∧ ∀ β, (rcR false l c).holds β W A := by
  obtain ⟨A, n, c, g, hv, hh, hn, hc, hnc, hg⟩ := row_view (by rfl) k e
  obtain ⟨l, hl, hge, hp⟩ := list_of encR (Pr := fun _ => True) (fun i hi => ft_Rc (hg i hi))
  subst hl
  exact ⟨A, l, c, by unfold maxLen at hn; omega, hv, fun β => holds_row_congr (hh _ _) hge⟩
end Go.Proofs.YtkjkbpnhocjenaaGreat


namespace Go.Proofs.YtkjkbpnhocjenaaGreat
open Go.X
set_option linter.unusedSimpArgs false
set_option linter.unusedVariables false
open P4
open P5
end Go.Proofs.YtkjkbpnhocjenaaGreat


namespace Go.Proofs.YtkjkbpnhocjenaaGreat
open Go.X
set_option linter.unusedSimpArgs false
set_option linter.unusedVariables false
open P4
open P5
end Go.Proofs.YtkjkbpnhocjenaaGreat


namespace Go.Proofs.YtkjkbpnhocjenaaGreat
open Go.X
set_option linter.unusedSimpArgs false
set_option linter.unusedVariables false
open P4
open P5
theorem rH41zgC0 {σ : List Sg} {H h' : List Fam} {v : T} {K : T → List Fam → Prop} {H' : List Fam} {v' : T} {N : Nat} (hk : K v' H') (hN : H.length = N := by (try simp only [↓List.length_cons, ↓List.length_nil, Nat.reduceAdd]) <;> rfl) (h : givesF σ N H σ h' = some H' := by (try simp (maxSteps := 1000000) only [givesF, setF, updF, Fam.zeroth, Fam.rk, Ck.rk, C.rk, E.rk, T.rk, key, List.map_cons, List.map_nil, List.cons_append, List.nil_append, List.length_cons, List.length_nil, Option.map_some, Option.bind_some, Nat.reduceAdd, Nat.zero_add, Nat.add_zero, Nat.add_sub_cancel_left, Int.toNat_natCast, reps, List.all_cons, List.all_nil, C.flat, List.append_eq, Bool.not_true, Bool.and_true, Bool.or_false, Bool.or_self, Bool.not_false, List.append_nil, Bool.and_self, ↓trG_rk]) <;> rfl) (hv : v.rk σ N = v' := by (try simp only [givesF, setF, updF, Fam.zeroth, Fam.rk, Ck.rk, C.rk, E.rk, T.rk, key, List.map_cons, List.map_nil, List.cons_append, List.nil_append, List.length_cons, List.length_nil, Option.map_some, Option.bind_some, Nat.reduceAdd, Nat.zero_add, Nat.add_zero, Nat.add_sub_cancel_left, Int.toNat_natCast, reps, List.all_cons, List.all_nil, C.flat, List.append_eq, Bool.not_true, Bool.and_true, Bool.or_false, Bool.or_self, Bool.not_false, List.append_nil, Bool.and_self, ↓trG_rk]) <;> rfl) : RetG σ H h' v K := ret_mk3 hN h hv hk
theorem cH41zgC1 {P : Program} {F : Nat} {args : List T} {H : List Fam} {K : T → List Fam → Prop} {σ : List Sg} {nl : List Fam} {args0 : List T} {h0 : List Fam} {Q : T → List Fam → Prop} {H2 H1 : List Fam} {N n : Nat} (hc : Ctr P F args0 h0 Q) (hk : ∀ v h', Q v h' → capsP h' → RetG σ H2 h' v K) (hap : apart σ = true := by rfl) (hnl : nl.all nilB = true := by rfl) (h1 : H ++ nl = H1 := by first | exact List.append_nil _ | ((try simp only [List.cons_append, List.nil_append]) <;> rfl)) (hN : H1.length = N := by (try simp only [↓List.length_cons, ↓List.length_nil, Nat.reduceAdd]) <;> rfl) (hn : H.length = n := by (try simp only [↓List.length_cons, ↓List.length_nil, Nat.reduceAdd]) <;> rfl) (hH : givesF σ N H1 σ h0 = some H2 := by (try simp (maxSteps := 1000000) only [givesF, setF, updF, Fam.zeroth, Fam.rk, Ck.rk, C.rk, E.rk, T.rk, key, List.map_cons, List.map_nil, List.cons_append, List.nil_append, List.length_cons, List.length_nil, Option.map_some, Option.bind_some, Nat.reduceAdd, Nat.zero_add, Nat.add_zero, Nat.add_sub_cancel_left, Int.toNat_natCast, reps, List.all_cons, List.all_nil, C.flat, List.append_eq, Bool.not_true, Bool.and_true, Bool.or_false, Bool.or_self, Bool.not_false, List.append_nil, Bool.and_self, ↓trG_rk]) <;> rfl) (hle : leS n H1 σ N σ h0 (belsK N (h0.map (Fam.rk σ N)) (argsK n args (args0.map (T.rk σ N)) True)) := by repeat' first | refine And.intro ?_ ?_ | exact xeC | fail) : CallK P F args H K := CallK.mk3 hc hap hnl h1 hN hn hH hle hk
set_option maxRecDepth 10000 in
set_option maxHeartbeats 16000000 in
theorem cchunkR (b : Bg) (X : List Er) (c k : Nat) (hb : BOk b) (hl : b.s.length ≤ 100000) (hX : ers X = b.L) (hk : k < X.length) :
    Ctr Tryz.prog 89 [.c (.p 0 0 0), .c (.i .i64 (k : Nat))] (rbH b X c)
      fun v h => ∃ c', v = .t [.c (.sl 3 0 3 0 (chL b k).length c'), .c (.i .i64 (chE b k : Nat))] ∧ h = rbH b X c ++ [.one (rcR true (chL b k) c')] := by
  have hLl : b.L.length = X.length := by rw [← hX]; exact List.length_map _
  have hbk := hb.at (k := k) (by omega)
  have hgk : ∀ i, b.L.getD i default = (X.getD i default).e := fun i => by rw [← hX, getErs]
  rw [hgk] at hbk
  have hn := hb.n
  have hlen := hb.len
  have hz : (mkS b.s).size = b.s.length := rfl
  have e2 : 0 + ((k : Nat) : Int).toNat = k := by omega
  have e3 : 0 + (((k : Nat) : Int) + 1).toNat = k + 1 := by omega
  have hend : endE b k = if k + 1 < X.length then (X.getD (k + 1) default).e.off else b.ix := by unfold endE; rw [hLl, hgk]
  refine Ctr.mk' tbv mixed Tryz.func89 rfl rfl rfl (fun _ _ => by kernel_rfl) (by kernel_rfl) (by rfl) (by rfl) (by (repeat' first | refine And.intro ?_ ?_ | exact xeC | fail) <;> exact xmT) ?_
  generalize hxx : chX b k = x
  obtain ⟨xs, xe⟩ := x
  generalize hR : recL (mkS xs) = R
  obtain ⟨hE1, hL1⟩ := chE_eq hxx hR
  rw [hgk] at hE1
  have hxx2 : exaL ((b.s.take (endE b k)).drop (X.getD k default).e.off) = (xs, xe) := by rw [← hgk]; exact hxx
  have hxl := exaL_len ((b.s.take (endE b k)).drop (X.getD k default).e.off)
  rw [hxx2, List.length_drop, List.length_take] at hxl
  simp only at hxl
  have hof2 : k + 1 < X.length → (X.getD (0 + ((k : Nat) : Int).toNat) default).e.off ≤ (X.getD (0 + (((k : Nat) : Int) + 1).toNat) default).e.off ∧ (X.getD (0 + (((k : Nat) : Int) + 1).toNat) default).e.off ≤ b.s.length := fun h => by
    rw [e2, e3]; rw [if_pos h] at hend; omega
  have hof3 : ¬ k + 1 < X.length → (X.getD (0 + ((k : Nat) : Int).toNat) default).e.off ≤ b.ix ∧ b.ix ≤ b.s.length := fun h => by
    rw [e2]; rw [if_neg h] at hend; omega
  have hext : ∀ a d, (mkS b.s).extract a d = mkS ((b.s.take d).drop a) := fun a d => mkS_ext _ _ _
  have g1 : ixG trC X k = tlR true (X.getD k default).e.T (X.getD k default).cap := ixG_at hk
  have hB : ((b.s.take (endE b k)).drop (X.getD k default).e.off).length ≤ 100000 := by rw [List.length_drop, List.length_take]; omega
  have hTk := hbk.2.2.2.1
  have hset : ∀ ck, ck = ixG trC X k → (fun y => if y = k then ck else if y = k then ck else trG X y) = trG X := fun ck h => by
    funext y
    by_cases e : y = k
    · rw [if_pos e, h, e]
    · rw [if_neg e, if_neg e]
  repeat' (first | (fail_if_success (with_reducible refine xstp ?_)); first | ((with_reducible refine And.intro (fun (hb : _ = true) => ?_) (fun (hb : _ = false) => ?_)) <;> replace hb := xnC hb <;> (try first | exact xfC | exact bff hb (by assumption) | exact bff (by assumption) hb)) | ((with_reducible refine And.intro ?_ ?_); focus exact xoC) | (with_reducible intro hc; (try simp only [capsP, and_true] at hc); (try exact xfC)) | ((fail_if_success (with_reducible first | refine xgon ?_ | intro _)); (conv => whnf); (fail_if_success (fail_if_success (with_reducible first | refine xstp ?_ | refine xgon ?_ | intro _)))))
  all_goals (
    first
      | rw [e2, e3, Int.toNat_natCast, Int.toNat_natCast, hext, ← (show endE b k = (X.getD (k + 1) default).e.off by rw [hend, if_pos (by omega)])]
      | rw [e2, Int.toNat_natCast, Int.toNat_natCast, hext, ← (show endE b k = b.ix by rw [hend, if_neg (by omega)])]
    refine cH41zgC1 (σ := []) (nl := []) (cexaR ((b.s.take (endE b k)).drop (X.getD k default).e.off) (by omega)) ?_ (hle := by (repeat' first | refine And.intro ?_ ?_ | exact xeC | fail) <;> exact xmT)
    rintro v h' ⟨rfl, rfl⟩ hcaps
    rw [hxx2]
    refine rH41zgC0 ?_
    repeat' (first | (fail_if_success (with_reducible refine xstp ?_)); first | ((with_reducible refine And.intro (fun (hb : _ = true) => ?_) (fun (hb : _ = false) => ?_)) <;> replace hb := xnC hb <;> (try first | exact xfC | exact bff hb (by assumption) | exact bff (by assumption) hb)) | ((fail_if_success (with_reducible first | refine xgon ?_ | intro _)); (conv => whnf); (fail_if_success (fail_if_success (with_reducible first | refine xstp ?_ | refine xgon ?_ | intro _)))))
    · rw [if_pos (by omega)] at hE1
      have hL : chL b k = [] := by rw [hL1, if_neg (by omega)]
      rw [hL, hE1]
      refine FinK.mk ⟨[0, 1, 2, 99], _, _, ⟨0, rfl, rfl⟩, ?_⟩
      (repeat' first | refine And.intro ?_ ?_ | exact xeC | fail)
      all_goals exact xmT
    rw [if_neg (by omega)] at hE1
    refine cH41zgC1 (σ := []) (nl := []) (crecsR (mkS xs) (by show xs.length ≤ _; omega)) ?_ (hle := by (repeat' first | refine And.intro ?_ ?_ | exact xeC | fail) <;> exact xmT)
    rintro v h' ⟨c3, rfl, rfl⟩ hcaps
    rw [hR]
    refine rH41zgC0 ?_
    have hRl : R.length ≤ 100000 := by rw [← hR]; have := recL_len (mkS xs); have : (mkS xs).size = xs.length := rfl; omega
    have eR : ((R.length : Int) - 1).toNat = R.length - 1 := by omega
    repeat' (first | (fail_if_success (with_reducible refine xstp ?_)); first | ((with_reducible refine And.intro (fun (hb : _ = true) => ?_) (fun (hb : _ = false) => ?_)) <;> replace hb := xnC hb <;> (try first | exact xfC | exact bff hb (by assumption) | exact bff (by assumption) hb)) | ((with_reducible refine And.intro ?_ ?_); focus exact xoC) | ((fail_if_success (with_reducible first | refine xgon ?_ | intro _)); (conv => whnf); (fail_if_success (fail_if_success (with_reducible first | refine xstp ?_ | refine xgon ?_ | intro _)))))
    · skip
      have hE : chE b k = 2 := by rw [hE1, if_neg (fun q => hb q.1)]
      have hL : chL b k = [] := by rw [hL1, if_neg (by rw [hE]; decide)]
      rw [hE, hL]
      refine FinK.mk ⟨[0, 1, 2, 99], _, _, ⟨0, rfl, rfl⟩, ?_⟩
      (repeat' first | refine And.intro ?_ ?_ | exact xeC | fail)
      all_goals exact xmT
    · skip
      have hE : chE b k = 2 := by rw [hE1, if_neg (fun q => hb q.2.1)]
      have hL : chL b k = [] := by rw [hL1, if_neg (by rw [hE]; decide)]
      rw [hE, hL]
      refine FinK.mk ⟨[0, 1, 2, 99], _, _, ⟨0, rfl, rfl⟩, ?_⟩
      (repeat' first | refine And.intro ?_ ?_ | exact xeC | fail)
      all_goals exact xmT
    · skip
      have hE : chE b k = 2 := by rw [hE1, if_neg (fun q => hb (by rw [eR]; exact q.2.2.1))]
      have hL : chL b k = [] := by rw [hL1, if_neg (by rw [hE]; decide)]
      rw [hE, hL]
      refine FinK.mk ⟨[0, 1, 2, 99], _, _, ⟨0, rfl, rfl⟩, ?_⟩
      (repeat' first | refine And.intro ?_ ?_ | exact xeC | fail)
      all_goals exact xmT
    have hel : (R.getD (R.length - 1) default).at_ = (X.getD k default).e.la := by rw [← eR]; exact hb
    rename_i hfi
    have hE2 : chE b k = if tal R = (X.getD k default).e.T then 0 else 2 := by
      rw [hE1]
      by_cases hq : tal R = (X.getD k default).e.T
      · rw [if_pos ⟨by assumption, hfi, hel, hq⟩, if_pos hq]
      · rw [if_neg (fun q => hq q.2.2.2), if_neg hq]
    clear hE1
    refine cH41zgC1 (σ := [.whole 3]) (nl := []) (ctallies true R c3 (by omega)) ?_ (hle := by (repeat' first | refine And.intro ?_ ?_ | exact xeC | fail) <;> exact xmT)
    rintro v h' ⟨c4, rfl, rfl⟩ hcaps
    refine rH41zgC0 ?_
    have htl := tal_le R
    repeat' (first | (fail_if_success (with_reducible refine xstp ?_)); first | ((with_reducible refine And.intro ?_ ?_); focus exact xoC) | ((fail_if_success (with_reducible first | refine xgon ?_ | intro _)); (conv => whnf); (fail_if_success (fail_if_success (with_reducible first | refine xstp ?_ | refine xgon ?_ | intro _)))))
    rw [e2]
    by_cases hq : tal R = (X.getD k default).e.T
    · refine cH41zgC1 (σ := [.whole 4, .mem 2 k]) (nl := []) (csame true true (tal R) (X.getD k default).e.T c4 (X.getD k default).cap (by omega)) ?_ (hle := by (repeat' first | refine And.intro ?_ ?_ | exact xeC | fail) <;> (first | (refine ManyK.mk ⟨_, g1, ?_⟩ <;> (repeat' first | refine And.intro ?_ ?_ | exact xeC | fail)) | exact xmT))
      rw [decide_eq_true (p := tal R = (X.getD k default).e.T) hq]
      rintro v h' ⟨rfl, rfl⟩ hcaps
      refine rH41zgC0 ?_
      rw [hset _ g1.symm]
      repeat' (first | (fail_if_success (with_reducible refine xstp ?_)); first | ((with_reducible refine And.intro (fun (hb : _ = true) => ?_) (fun (hb : _ = false) => ?_)) <;> replace hb := xnC hb <;> (try first | exact xfC | exact bff hb (by assumption) | exact bff (by assumption) hb)) | ((fail_if_success (with_reducible first | refine xgon ?_ | intro _)); (conv => whnf); (fail_if_success (fail_if_success (with_reducible first | refine xstp ?_ | refine xgon ?_ | intro _)))))
      rw [if_pos hq] at hE2
      have hL : chL b k = R := by rw [hL1, if_pos hE2]
      rw [hE2, hL]
      refine FinK.mk ⟨[0, 1, 2, 3], _, _, ⟨c3, rfl, rfl⟩, ?_⟩
      (repeat' first | refine And.intro ?_ ?_ | exact xeC | fail)
      all_goals exact xmT
    · refine cH41zgC1 (σ := [.whole 4, .mem 2 k]) (nl := []) (csame true true (tal R) (X.getD k default).e.T c4 (X.getD k default).cap (by omega)) ?_ (hle := by (repeat' first | refine And.intro ?_ ?_ | exact xeC | fail) <;> (first | (refine ManyK.mk ⟨_, g1, ?_⟩ <;> (repeat' first | refine And.intro ?_ ?_ | exact xeC | fail)) | exact xmT))
      rw [decide_eq_false (p := tal R = (X.getD k default).e.T) hq]
      rintro v h' ⟨rfl, rfl⟩ hcaps
      refine rH41zgC0 ?_
      rw [hset _ g1.symm]
      repeat' (first | (fail_if_success (with_reducible refine xstp ?_)); first | ((with_reducible refine And.intro (fun (hb : _ = true) => ?_) (fun (hb : _ = false) => ?_)) <;> replace hb := xnC hb <;> (try first | exact xfC | exact bff hb (by assumption) | exact bff (by assumption) hb)) | ((fail_if_success (with_reducible first | refine xgon ?_ | intro _)); (conv => whnf); (fail_if_success (fail_if_success (with_reducible first | refine xstp ?_ | refine xgon ?_ | intro _)))))
      rw [if_neg hq] at hE2
      have hL : chL b k = [] := by rw [hL1, if_neg (by rw [hE2]; decide)]
      rw [hE2, hL]
      refine FinK.mk ⟨[0, 1, 2, 99], _, _, ⟨0, rfl, rfl⟩, ?_⟩
      (repeat' first | refine And.intro ?_ ?_ | exact xeC | fail)
      all_goals exact xmT
    )
end Go.Proofs.YtkjkbpnhocjenaaGreat


namespace Go.Proofs.YtkjkbpnhocjenaaGreat
open Go.X
set_option linter.unusedSimpArgs false
set_option linter.unusedVariables false
open P4
open P5
theorem rH41zgD0 {σ : List Sg} {H h' : List Fam} {v : T} {K : T → List Fam → Prop} {H' : List Fam} {v' : T} {N : Nat} (hk : K v' H') (hN : H.length = N := by (try simp only [↓List.length_cons, ↓List.length_nil, Nat.reduceAdd]) <;> rfl) (h : givesF σ N H σ h' = some H' := by (try simp (maxSteps := 1000000) only [givesF, setF, updF, Fam.zeroth, Fam.rk, Ck.rk, C.rk, E.rk, T.rk, key, List.map_cons, List.map_nil, List.cons_append, List.nil_append, List.length_cons, List.length_nil, Option.map_some, Option.bind_some, Nat.reduceAdd, Nat.zero_add, Nat.add_zero, Nat.add_sub_cancel_left, Int.toNat_natCast, reps, List.all_cons, List.all_nil, C.flat, List.append_eq, Bool.not_true, Bool.and_true, Bool.or_false, Bool.or_self, Bool.not_false, List.append_nil, Bool.and_self, ↓trG_rk]) <;> rfl) (hv : v.rk σ N = v' := by (try simp only [givesF, setF, updF, Fam.zeroth, Fam.rk, Ck.rk, C.rk, E.rk, T.rk, key, List.map_cons, List.map_nil, List.cons_append, List.nil_append, List.length_cons, List.length_nil, Option.map_some, Option.bind_some, Nat.reduceAdd, Nat.zero_add, Nat.add_zero, Nat.add_sub_cancel_left, Int.toNat_natCast, reps, List.all_cons, List.all_nil, C.flat, List.append_eq, Bool.not_true, Bool.and_true, Bool.or_false, Bool.or_self, Bool.not_false, List.append_nil, Bool.and_self, ↓trG_rk]) <;> rfl) : RetG σ H h' v K := ret_mk3 hN h hv hk
theorem cH41zgD1 {P : Program} {F : Nat} {args : List T} {H : List Fam} {K : T → List Fam → Prop} {σ : List Sg} {nl : List Fam} {args0 : List T} {h0 : List Fam} {Q : T → List Fam → Prop} {H2 H1 : List Fam} {N n : Nat} (hc : Ctr P F args0 h0 Q) (hk : ∀ v h', Q v h' → capsP h' → RetG σ H2 h' v K) (hap : apart σ = true := by rfl) (hnl : nl.all nilB = true := by rfl) (h1 : H ++ nl = H1 := by first | exact List.append_nil _ | ((try simp only [List.cons_append, List.nil_append]) <;> rfl)) (hN : H1.length = N := by (try simp only [↓List.length_cons, ↓List.length_nil, Nat.reduceAdd]) <;> rfl) (hn : H.length = n := by (try simp only [↓List.length_cons, ↓List.length_nil, Nat.reduceAdd]) <;> rfl) (hH : givesF σ N H1 σ h0 = some H2 := by (try simp (maxSteps := 1000000) only [givesF, setF, updF, Fam.zeroth, Fam.rk, Ck.rk, C.rk, E.rk, T.rk, key, List.map_cons, List.map_nil, List.cons_append, List.nil_append, List.length_cons, List.length_nil, Option.map_some, Option.bind_some, Nat.reduceAdd, Nat.zero_add, Nat.add_zero, Nat.add_sub_cancel_left, Int.toNat_natCast, reps, List.all_cons, List.all_nil, C.flat, List.append_eq, Bool.not_true, Bool.and_true, Bool.or_false, Bool.or_self, Bool.not_false, List.append_nil, Bool.and_self, ↓trG_rk]) <;> rfl) (hle : leS n H1 σ N σ h0 (belsK N (h0.map (Fam.rk σ N)) (argsK n args (args0.map (T.rk σ N)) True)) := by repeat' first | refine And.intro ?_ ?_ | exact xeC | fail) : CallK P F args H K := CallK.mk3 hc hap hnl h1 hN hn hH hle hk
set_option maxRecDepth 10000 in
set_option maxHeartbeats 16000000 in
theorem cReadR (b : Bg) (X : List Er) (c : Nat) (t : List UInt8) (fr un : Int) (hB : BOk b) (hl : b.s.length ≤ 100000) (hX : ers X = b.L) :
    Ctr Tryz.prog 75 [.c (.p 0 0 0), .c (.s (mkS t)), .c (.i .i64 fr), .c (.i .i64 un)] (rbH b X c)
      fun v h => ∃ c', v = .t [.c (.sl 3 0 3 0 (readB b t fr un).1.length c'), .c (.i .i64 ((readB b t fr un).2 : Nat))] ∧ h = rbH b X c ++ [.one (rcR true (readB b t fr un).1 c')] := by
  have hLl : b.L.length = X.length := by rw [← hX]; exact List.length_map _
  have hgk : ∀ i, b.L.getD i default = (X.getD i default).e := fun i => by rw [← hX, getErs]
  have hn := hB.n
  have hlen := hB.len
  refine Ctr.mk' tbv mixed Tryz.func75 rfl rfl rfl (fun _ _ => by kernel_rfl) (by kernel_rfl) (by rfl) (by rfl) (by (repeat' first | refine And.intro ?_ ?_ | exact xeC | fail) <;> exact xmT) ?_
  repeat' (first | (fail_if_success (with_reducible refine xstp ?_)); first | (with_reducible intro hc; (try simp only [capsP, and_true] at hc); (try exact xfC)) | ((fail_if_success (with_reducible first | refine xgon ?_ | intro _)); (conv => whnf); (fail_if_success (fail_if_success (with_reducible first | refine xstp ?_ | refine xgon ?_ | intro _)))))
  refine LoopK.mk' {p : Nat × List Rc × Nat // RdI b t fr un p.1 p.2.1}
    (fun ⟨(i, O, c1), _⟩ => ⟨[(0, .c (.p 0 0 0)), (1, .c (.s (mkS t))), (2, .c (.i .i64 fr)), (3, .c (.i .i64 un)), (10, .c (.sl 3 0 3 0 O.length c1)), (11, .c (.i .i64 (i : Nat)))],
      [.one (rbC b 1 X.length c), .one (erR 2 X c), .many (trG X), .one (rcR true O c1)]⟩) (fun p => X.length - p.1.1)
    ⟨⟨(0, [], 0), RdI.init b t fr un⟩, [0, 1, 2, 99], ?_⟩ ?_
  · (repeat' first | refine And.intro ?_ ?_ | exact xeC | fail)
    all_goals first
      | exact xmT
      | (intro i hi; exact absurd hi (Nat.not_lt_zero i))
      | skip
  rintro ⟨⟨i, O, c1⟩, hI⟩
  simp only at hI
  have hil := hI.le
  have hOl := hI.len
  have e2 : 0 + ((i : Nat) : Int).toNat = i := by omega
  rcases Nat.lt_or_ge i X.length with hlt | hge
  · have g1 : ixG trC X i = tlR true (X.getD i default).e.T (X.getD i default).cap := ixG_at hlt
    have hTl := (hB.sz (b.L.getD i default) (by rw [getD_at (by omega)]; exact List.getElem_mem _)).1
    rw [hgk] at hTl
    have hof := offE_le hB (i := i) (by omega)
    have hsk : skipE (b.L.getD i default) t fr un ↔ ¬ hasT (X.getD i default).e t ∨ ((X.getD i default).e.la : Int) < fr ∨ un ≤ ((X.getD i default).e.fi : Int) := by rw [hgk]; exact Iff.rfl
    have hset : ∀ ck, ck = ixG trC X i → (fun y => if y = i then ck else if y = i then ck else trG X y) = trG X := fun ck h => by
      funext y
      by_cases e : y = i
      · rw [if_pos e, h, e]
      · rw [if_neg e, if_neg e]
    repeat' (first | (fail_if_success (with_reducible refine xstp ?_)); first | ((with_reducible refine And.intro (fun (hb : _ = true) => ?_) (fun (hb : _ = false) => ?_)) <;> replace hb := xnC hb <;> (try first | exact xfC | exact bff hb (by assumption) | exact bff (by assumption) hb)) | ((with_reducible refine And.intro ?_ ?_); focus exact xoC) | (with_reducible intro hc; (try simp only [capsP, and_true] at hc); (try exact xfC)) | ((fail_if_success (with_reducible first | refine xgon ?_ | intro _)); (conv => whnf); (fail_if_success (fail_if_success (with_reducible first | refine xstp ?_ | refine xgon ?_ | intro _)))))
    rw [e2]
    by_cases hm : hasT (X.getD i default).e t
    · refine cH41zgD1 (σ := [.mem 2 i]) (nl := []) (chas true (X.getD i default).e (X.getD i default).cap t hTl) ?_ (hle := by (repeat' first | refine And.intro ?_ ?_ | exact xeC | fail) <;> (first | (refine ManyK.mk ⟨_, g1, ?_⟩ <;> (repeat' first | refine And.intro ?_ ?_ | exact xeC | fail)) | exact xmT))
      rw [decide_eq_true (p := hasT (X.getD i default).e t) hm]
      rintro v h' ⟨rfl, rfl⟩ hcaps
      refine rH41zgD0 ?_
      rw [hset _ g1.symm]
      repeat' (first | (fail_if_success (with_reducible refine xstp ?_)); first | ((with_reducible refine And.intro (fun (hb : _ = true) => ?_) (fun (hb : _ = false) => ?_)) <;> replace hb := xnC hb <;> (try first | exact xfC | exact bff hb (by assumption) | exact bff (by assumption) hb)) | ((with_reducible refine And.intro ?_ ?_); focus exact xoC) | ((fail_if_success (with_reducible first | refine xgon ?_ | intro _)); (conv => whnf); (fail_if_success (fail_if_success (with_reducible first | refine xstp ?_ | refine xgon ?_ | intro _)))))
      · skip
        refine ⟨⟨(i + 1, O, c1), hI.skip hB (by omega) (hsk.2 (.inr (.inl (by omega))))⟩, [0, 1, 2, 3], by simp only; omega, ?_⟩
        (repeat' first | refine And.intro ?_ ?_ | exact xeC | fail)
        all_goals exact xmT
      · skip
        refine ⟨⟨(i + 1, O, c1), hI.skip hB (by omega) (hsk.2 (.inr (.inr (by omega))))⟩, [0, 1, 2, 3], by simp only; omega, ?_⟩
        (repeat' first | refine And.intro ?_ ?_ | exact xeC | fail)
        all_goals exact xmT
      have hns : ¬ skipE (b.L.getD i default) t fr un := fun q => by
        rcases hsk.1 q with q | q | q
        · exact q hm
        · omega
        · omega
      clear hsk
      refine cH41zgD1 (σ := [.whole 0, .whole 1, .whole 2]) (nl := []) (cchunkR b X c i hB hl hX hlt) ?_ (hle := by (repeat' first | refine And.intro ?_ ?_ | exact xeC | fail) <;> exact xmT)
      rintro v h' ⟨c3, rfl, rfl⟩ hcaps
      refine rH41zgD0 ?_
      repeat' (first | (fail_if_success (with_reducible refine xstp ?_)); first | ((with_reducible refine And.intro (fun (hb : _ = true) => ?_) (fun (hb : _ = false) => ?_)) <;> replace hb := xnC hb <;> (try first | exact xfC | exact bff hb (by assumption) | exact bff (by assumption) hb)) | ((fail_if_success (with_reducible first | refine xgon ?_ | intro _)); (conv => whnf); (fail_if_success (fail_if_success (with_reducible first | refine xstp ?_ | refine xgon ?_ | intro _)))))
      · have hE : chE b i ≠ 0 := by omega
        rw [hI.err (by omega) hns hE]
        refine FinK.mk ⟨[0, 1, 2, 99], _, _, ⟨0, rfl, rfl⟩, ?_⟩
        (repeat' first | refine And.intro ?_ ?_ | exact xeC | fail)
        all_goals exact xmT
      have hE : chE b i = 0 := by omega
      have hcL := chL_len b i
      have hgo := hI.go hB (by omega) hns hE
      generalize chL b i = L at *
      refine LoopK.mk' {p : Nat × Nat // p.1 ≤ L.length}
        (fun ⟨(j, c2), _⟩ => ⟨[(0, .c (.p 0 0 0)), (1, .c (.s (mkS t))), (2, .c (.i .i64 fr)), (3, .c (.i .i64 un)), (10, .c (.sl 3 0 3 0 (O ++ selR t fr un (L.take j)).length c2)), (11, .c (.i .i64 (i : Nat))), (12, .c (.sl 4 0 3 0 L.length c3)), (14, .c (.i .i64 (j : Nat)))],
          [.one (rbC b 1 X.length c), .one (erR 2 X c), .many (trG X), .one (rcR true (O ++ selR t fr un (L.take j)) c2), .one (rcR true L c3)]⟩) (fun p => L.length - p.1.1)
        ⟨⟨(0, c1), Nat.zero_le _⟩, [0, 1, 2, 3, 4], ?_⟩ ?_
      · (repeat' first | refine And.intro ?_ ?_ | exact xeC | fail)
        all_goals first
          | exact xmT
          | (rw [selR_0]; done)
          | (rw [selR_0]; exact Nat.le_refl _)
          | (rw [selR_0]; intro i hi; rfl)
          | skip
      rintro ⟨⟨j, c2⟩, hj⟩
      simp only at hj
      have hselj := selR_le t fr un (L.take j)
      rw [List.length_take] at hselj
      have hOb : (O ++ selR t fr un (L.take j)).length ≤ 200000000 := by rw [List.length_append]; omega
      have e3 : 0 + ((j : Nat) : Int).toNat = j := by omega
      rcases Nat.lt_or_ge j L.length with hjl | hjg
      · have hts := selR_snoc t fr un (L.take j) (L.getD j default)
        rw [← take_snocG L hjl] at hts
        repeat' (first | (fail_if_success (with_reducible refine xstp ?_)); first | ((with_reducible refine And.intro (fun (hb : _ = true) => ?_) (fun (hb : _ = false) => ?_)) <;> replace hb := xnC hb <;> (try first | exact xfC | exact bff hb (by assumption) | exact bff (by assumption) hb)) | ((with_reducible refine And.intro ?_ ?_); focus exact xoC) | ((with_reducible refine Or.inl ⟨?_, ?_, ?_⟩); (focus rfl); focus exact xaC) | (with_reducible intro hc; (try simp only [capsP, and_true] at hc); (try exact xfC)) | ((fail_if_success (with_reducible first | refine xgon ?_ | intro _)); (conv => whnf); (fail_if_success (fail_if_success (with_reducible first | refine xstp ?_ | refine xgon ?_ | intro _)))))
        · skip
          rename_i c4
          rw [e3]
          rw [if_pos ⟨(.inl (mkS_nil.1 (by assumption))), by omega, by omega⟩] at hts
          refine ⟨⟨(j + 1, c4), hjl⟩, [0, 1, 2, 6, 4], by simp only; omega, ?_⟩
          simp only [hts, ← List.append_assoc]
          (repeat' first | refine And.intro ?_ ?_ | exact xeC | fail)
          all_goals first
            | exact xmT
            | skip
          all_goals first | omega | (simp only [List.length_append, List.length_singleton]; done) | (rw [List.length_append, List.length_singleton]; omega) | (intro i hi; (first | refine app_rowG _ _ _ _ ?_ i hi | refine app_row _ _ _ ?_ i hi); first | rfl | (simp only [Int.toNat_natCast, Nat.zero_add]; rfl))
        · skip
          rw [if_neg (fun q => by omega), List.append_nil] at hts
          refine ⟨⟨(j + 1, c2), hjl⟩, [0, 1, 2, 3, 4], by simp only; omega, ?_⟩
          simp only [hts]
          (repeat' first | refine And.intro ?_ ?_ | exact xeC | fail)
          all_goals first
            | exact xmT
            | skip
        · skip
          rw [if_neg (fun q => by omega), List.append_nil] at hts
          refine ⟨⟨(j + 1, c2), hjl⟩, [0, 1, 2, 3, 4], by simp only; omega, ?_⟩
          simp only [hts]
          (repeat' first | refine And.intro ?_ ?_ | exact xeC | fail)
          all_goals first
            | exact xmT
            | skip
        · skip
          rename_i c4
          rw [e3]
          rw [if_pos ⟨(.inr (mkS_inj.1 (by assumption))), by omega, by omega⟩] at hts
          refine ⟨⟨(j + 1, c4), hjl⟩, [0, 1, 2, 6, 4], by simp only; omega, ?_⟩
          simp only [hts, ← List.append_assoc]
          (repeat' first | refine And.intro ?_ ?_ | exact xeC | fail)
          all_goals first
            | exact xmT
            | skip
          all_goals first | omega | (simp only [List.length_append, List.length_singleton]; done) | (rw [List.length_append, List.length_singleton]; omega) | (intro i hi; (first | refine app_rowG _ _ _ _ ?_ i hi | refine app_row _ _ _ ?_ i hi); first | rfl | (simp only [Int.toNat_natCast, Nat.zero_add]; rfl))
        · skip
          rw [if_neg (fun q => by omega), List.append_nil] at hts
          refine ⟨⟨(j + 1, c2), hjl⟩, [0, 1, 2, 3, 4], by simp only; omega, ?_⟩
          simp only [hts]
          (repeat' first | refine And.intro ?_ ?_ | exact xeC | fail)
          all_goals first
            | exact xmT
            | skip
        · skip
          rw [if_neg (fun q => by omega), List.append_nil] at hts
          refine ⟨⟨(j + 1, c2), hjl⟩, [0, 1, 2, 3, 4], by simp only; omega, ?_⟩
          simp only [hts]
          (repeat' first | refine And.intro ?_ ?_ | exact xeC | fail)
          all_goals first
            | exact xmT
            | skip
        · rename_i h5
          rw [if_neg (fun q => q.1.elim (fun h => h5 (mkS_nil.2 h)) (fun h => hb (by rw [h]))), List.append_nil] at hts
          refine ⟨⟨(j + 1, c2), hjl⟩, [0, 1, 2, 3, 4], by simp only; omega, ?_⟩
          simp only [hts]
          (repeat' first | refine And.intro ?_ ?_ | exact xeC | fail)
          all_goals first
            | exact xmT
            | skip
      · obtain rfl : j = L.length := by omega
        repeat' (first | (fail_if_success (with_reducible refine xstp ?_)); first | ((with_reducible refine And.intro (fun (hb : _ = true) => ?_) (fun (hb : _ = false) => ?_)) <;> replace hb := xnC hb <;> (try first | exact xfC | exact bff hb (by assumption) | exact bff (by assumption) hb)) | ((with_reducible refine And.intro ?_ ?_); focus exact xoC) | (with_reducible intro hc; (try simp only [capsP, and_true] at hc); (try exact xfC)) | ((fail_if_success (with_reducible first | refine xgon ?_ | intro _)); (conv => whnf); (fail_if_success (fail_if_success (with_reducible first | refine xstp ?_ | refine xgon ?_ | intro _)))))
        rw [List.take_length]
        refine ⟨⟨(i + 1, O ++ selR t fr un L, c2), hgo⟩, [0, 1, 2, 3], by simp only; omega, ?_⟩
        (repeat' first | refine And.intro ?_ ?_ | exact xeC | fail)
        all_goals first
          | exact xmT
          | skip
    · refine cH41zgD1 (σ := [.mem 2 i]) (nl := []) (chas true (X.getD i default).e (X.getD i default).cap t hTl) ?_ (hle := by (repeat' first | refine And.intro ?_ ?_ | exact xeC | fail) <;> (first | (refine ManyK.mk ⟨_, g1, ?_⟩ <;> (repeat' first | refine And.intro ?_ ?_ | exact xeC | fail)) | exact xmT))
      rw [decide_eq_false (p := hasT (X.getD i default).e t) hm]
      rintro v h' ⟨rfl, rfl⟩ hcaps
      refine rH41zgD0 ?_
      rw [hset _ g1.symm]
      repeat' (first | (fail_if_success (with_reducible refine xstp ?_)); first | ((with_reducible refine And.intro (fun (hb : _ = true) => ?_) (fun (hb : _ = false) => ?_)) <;> replace hb := xnC hb <;> (try first | exact xfC | exact bff hb (by assumption) | exact bff (by assumption) hb)) | ((with_reducible refine And.intro ?_ ?_); focus exact xoC) | ((fail_if_success (with_reducible first | refine xgon ?_ | intro _)); (conv => whnf); (fail_if_success (fail_if_success (with_reducible first | refine xstp ?_ | refine xgon ?_ | intro _)))))
      refine ⟨⟨(i + 1, O, c1), hI.skip hB (by omega) (hsk.2 (.inl hm))⟩, [0, 1, 2, 3], by simp only; omega, ?_⟩
      (repeat' first | refine And.intro ?_ ?_ | exact xeC | fail)
      all_goals exact xmT
  · obtain rfl : i = X.length := by omega
    repeat' (first | (fail_if_success (with_reducible refine xstp ?_)); first | ((with_reducible refine And.intro (fun (hb : _ = true) => ?_) (fun (hb : _ = false) => ?_)) <;> replace hb := xnC hb <;> (try first | exact xfC | exact bff hb (by assumption) | exact bff (by assumption) hb)) | (with_reducible intro hc; (try simp only [capsP, and_true] at hc); (try exact xfC)) | ((fail_if_success (with_reducible first | refine xgon ?_ | intro _)); (conv => whnf); (fail_if_success (fail_if_success (with_reducible first | refine xstp ?_ | refine xgon ?_ | intro _)))))
    rw [(show readB b t fr un = (O, 0) from RdI.fin (by rw [hLl]; exact hI))]
    refine FinK.mk ⟨[0, 1, 2, 3], _, _, ⟨c1, rfl, rfl⟩, ?_⟩
    (repeat' first | refine And.intro ?_ ?_ | exact xeC | fail)
    all_goals exact xmT
set_option maxRecDepth 10000 in
theorem cAllR (b : Bg) (X : List Er) (c : Nat) (hB : BOk b) (hl : b.s.length ≤ 100000) (hX : ers X = b.L) :
    Ctr Tryz.prog 43 [.c (.p 0 0 0)] (rbH b X c)
      fun v h => ∃ c', v = .t [.c (.sl 3 0 3 0 (readB b [] 0 1099511627777).1.length c'), .c (.i .i64 ((readB b [] 0 1099511627777).2 : Nat))] ∧ h = rbH b X c ++ [.one (rcR true (readB b [] 0 1099511627777).1 c')] := by
  refine Ctr.mk' tbv mixed Tryz.func43 rfl rfl rfl (fun _ _ => by kernel_rfl) (by kernel_rfl) (by rfl) (by rfl) (by (repeat' first | refine And.intro ?_ ?_ | exact xeC | fail) <;> exact xmT) ?_
  repeat' (first | (fail_if_success (with_reducible refine xstp ?_)); first | (with_reducible intro hc; (try simp only [capsP, and_true] at hc); (try exact xfC)) | ((fail_if_success (with_reducible first | refine xgon ?_ | intro _)); (conv => whnf); (fail_if_success (fail_if_success (with_reducible first | refine xstp ?_ | refine xgon ?_ | intro _)))))
  refine cH41zgD1 (σ := [.whole 0, .whole 1, .whole 2]) (nl := []) (cReadR b X c [] 0 1099511627777 hB hl hX) ?_ (hle := by (repeat' first | refine And.intro ?_ ?_ | exact xeC | fail) <;> exact xmT)
  rintro v h' ⟨c3, rfl, rfl⟩ hcaps
  refine rH41zgD0 ?_
  repeat' (first | (fail_if_success (with_reducible refine xstp ?_)); first | ((fail_if_success (with_reducible first | refine xgon ?_ | intro _)); (conv => whnf); (fail_if_success (fail_if_success (with_reducible first | refine xstp ?_ | refine xgon ?_ | intro _)))))
  refine FinK.mk ⟨[0, 1, 2, 3], _, _, ⟨c3, rfl, rfl⟩, ?_⟩
  (repeat' first | refine And.intro ?_ ?_ | exact xeC | fail)
  all_goals exact xmT
end Go.Proofs.YtkjkbpnhocjenaaGreat


namespace Go.Proofs.YtkjkbpnhocjenaaGreat
open Go.X
open P4
open P5
/-- Chunks that may follow a time. -/
def Chn : Int → List (List Rc) → Prop
  | _, [] => True
  | la, y :: M => (okX y ∧ y.length ≤ 40) ∧ Asc 0 y ∧ la ≤ (y.getD 0 default).at_ ∧ Chn (y.getD (y.length - 1) default).at_ M
/-- The last time behind some chunks. -/
def lstA : Int → List (List Rc) → Int
  | la, [] => la
  | _, y :: M => lstA (y.getD (y.length - 1) default).at_ M
theorem rp_secs {s : ByteArray} : ∀ (M : List (List Rc)) (a : Nat) (x : Rp) (r : List UInt8), Chn x.la M → a ≤ s.size → rem s a = secsB M ++ r →
    ∃ a', rem s a' = r ∧ a' ≤ s.size ∧ rpP s a x = rpP s a' ⟨x.L ++ M, x.n + M.flatten.length, lstA x.la M⟩
  | [], a, x, r, _, ha, h => ⟨a, by simpa [secsB] using h, ha, by simp [lstA]⟩
  | y :: M, a, x, r, hc, ha, h => by
    obtain ⟨⟨hx, h40⟩, hasc, hla, hM⟩ := hc
    have hcl := conB_len hx.2.2
    have hsl := sealL_len (conB y)
    have hh : rem s a = textL (sealL (conB y)) ++ (secsB M ++ r) := by rw [h]; simp [secsB, secB]
    have hlt : a < s.size := by
      have h1 := rem_len hh
      have h2 := secB_pos y
      unfold secB at h2
      rw [List.length_append] at h1
      omega
    obtain ⟨b, e1, h1⟩ := rdT_fw (m := 200000) (x := sealL (conB y)) (by omega) (by omega) hh
    have hm := rdT_mono (s := s) (e := 0) (m := 200000) ha
    rw [e1] at hm
    have hgo := rpP_go (x := x) hlt (by rw [e1])
    have hN : rpN s a x = ⟨x.L ++ [y], x.n + y.length, (y.getD (y.length - 1) default).at_⟩ := by
      unfold rpN
      rw [e1]
      simp only
      rw [open_seal, if_pos rfl]
      simp only
      rw [recL_fw hasc]
      exact if_pos ⟨hx.1, hla⟩
    rw [hN, e1] at hgo
    simp only at hgo hm
    obtain ⟨c, h3, h4, h5⟩ := rp_secs M b ⟨x.L ++ [y], x.n + y.length, (y.getD (y.length - 1) default).at_⟩ r hM hm.2 h1
    refine ⟨c, h3, h4, ?_⟩
    rw [hgo, h5]
    simp only [List.append_assoc, List.cons_append, List.nil_append, List.flatten_cons, List.length_append, lstA, Nat.add_assoc]
end Go.Proofs.YtkjkbpnhocjenaaGreat


namespace Go.Proofs.YtkjkbpnhocjenaaGreat
open Go.X
open P4
open P5
theorem xor_can {x y z : Nat} (h : x ^^^ z = y ^^^ z) : x = y := by
  have h2 : (x ^^^ z) ^^^ z = (y ^^^ z) ^^^ z := by rw [h]
  rwa [Nat.xor_assoc, Nat.xor_self, Nat.xor_zero, Nat.xor_assoc, Nat.xor_self, Nat.xor_zero] at h2
theorem top_odd {x : Nat} (h : x < 4294967296) : 2147483648 ≤ (x / 2) ^^^ 2197175160 := by
  have h1 : ((x / 2) ^^^ 2197175160).testBit 31 = true := by
    rw [Nat.testBit_xor, Nat.testBit_lt_two_pow (x := x / 2) (by omega)]
    decide
  exact Nat.ge_two_pow_of_testBit h1
theorem stp_inj {x y : Nat} (hx : x < 4294967296) (hy : y < 4294967296) (h : stp x = stp y) : x = y := by
  have tx := top_odd hx
  have ty := top_odd hy
  unfold stp at h
  split at h
  · split at h
    · have := xor_can h
      omega
    · omega
  · split at h
    · omega
    · omega
theorem stps_inj : ∀ (n : Nat) {x y : Nat}, x < 4294967296 → y < 4294967296 → stps n x = stps n y → x = y
  | 0, _, _, _, _, h => h
  | n + 1, _, _, hx, hy, h => stp_inj hx hy (stps_inj n (stp_lt hx) (stp_lt hy) h)
theorem crcB_inj {x y : Nat} {b : UInt8} (hx : x < 4294967296) (hy : y < 4294967296) (h : crcB x b = crcB y b) : x = y :=
  xor_can (stps_inj 8 (xorb_lt hx b) (xorb_lt hy b) h)
theorem crcB_byte {x : Nat} {a b : UInt8} (hx : x < 4294967296) (h : crcB x a = crcB x b) : a = b := by
  have h1 := stps_inj 8 (xorb_lt hx a) (xorb_lt hx b) h
  rw [Nat.xor_comm x, Nat.xor_comm x] at h1
  exact UInt8.toNat_inj.1 (xor_can h1)
theorem crcF_inj : ∀ (l : List UInt8) {x y : Nat}, x < 4294967296 → y < 4294967296 → crcF l x = crcF l y → x = y
  | [], _, _, _, _, h => h
  | b :: l, _, _, hx, hy, h => crcB_inj hx hy (crcF_inj l (crcB_lt hx b) (crcB_lt hy b) h)
theorem crc_byte {l m : List UInt8} {a b : UInt8} (h : crc (l ++ a :: m) = crc (l ++ b :: m)) : a = b := by
  unfold crc at h
  have h1 := xor_can h
  rw [crcF_append, crcF_append] at h1
  have hl := crcF_lt l (x := 4294967295) (by decide)
  exact crcB_byte hl (crcF_inj m (crcB_lt hl a) (crcB_lt hl b) h1)
end Go.Proofs.YtkjkbpnhocjenaaGreat


namespace Go.Proofs.YtkjkbpnhocjenaaGreat
open Go.X
open P4
open P5
theorem set_split {l : List UInt8} {i : Nat} (h : i < l.length) (b : UInt8) : l.set i b = l.take i ++ b :: l.drop (i + 1) := by
  rw [List.set_eq_take_append_cons_drop, if_pos h]
theorem open_spoilt {c : List UInt8} {i : Nat} {b : UInt8} (hi : i < (sealL c).length) (hb : b ≠ (sealL c).getD i default) : (openL ((sealL c).set i b)).2 ≠ 0 := by
  have hl := sealL_len c
  have h4 : ¬ ((sealL c).set i b).length < 4 := by rw [List.length_set]; omega
  unfold openL
  rw [if_neg h4]
  rw [if_neg]
  · decide
  intro h
  rcases Nat.lt_or_ge i 4 with q | q
  · have hd : ((sealL c).set i b).drop 4 = c := by
      rw [List.drop_set, if_pos q]
      unfold sealL
      exact List.drop_left' (le_length 4 _)
    rw [hd] at h
    have h1 : (sealL c).getD i default = ((sealL c).set i b).getD i default := congrArg (fun l => l.getD i default) h
    rw [show ((sealL c).set i b).getD i default = b by simp [List.getD, hi]] at h1
    exact hb h1.symm
  · have hd : ((sealL c).set i b).drop 4 = c.set (i - 4) b := by
      rw [List.drop_set, if_neg (by omega)]
      have hd2 : (sealL c).drop 4 = c := List.drop_left' (le_length 4 _)
      rw [hd2]
    rw [hd] at h
    have h1 : (sealL (c.set (i - 4) b)).take 4 = ((sealL c).set i b).take 4 := congrArg (fun l => l.take 4) h
    have h2 : (sealL (c.set (i - 4) b)).take 4 = le 4 (crc (c.set (i - 4) b)) := List.take_left' (le_length 4 _)
    have h3 : ((sealL c).set i b).take 4 = le 4 (crc c) := by
      rw [List.take_set_of_le (by omega)]
      exact List.take_left' (le_length 4 _)
    rw [h2, h3] at h1
    have h5 := congrArg le8 h1
    rw [le8_le, le8_le] at h5
    have c1 := crc_lt c
    have c2 := crc_lt (c.set (i - 4) b)
    have h6 : crc (c.set (i - 4) b) = crc c := by omega
    have hi4 : i - 4 < c.length := by omega
    have hc : c = c.take (i - 4) ++ c.getD (i - 4) default :: c.drop (i - 4 + 1) := by
      conv => lhs; rw [← List.take_append_drop (i - 4) c, drop_consG c hi4]
    rw [set_split hi4] at h6
    conv at h6 => rhs; rw [hc]
    have h7 := crc_byte h6
    apply hb
    rw [h7]
    unfold sealL
    simp only [List.getD]
    rw [List.getElem?_append_right (by rw [le_length]; exact q), le_length]
end Go.Proofs.YtkjkbpnhocjenaaGreat


namespace Go.Proofs.YtkjkbpnhocjenaaGreat
open Go.X
open P4
open P5
theorem le8_hi {n : Nat} (hn : n < 1099511627776) : ∃ a0 a1 a2 a3 a4, le 8 n = [a0, a1, a2, a3, a4, 0, 0, 0] := by
  refine ⟨UInt8.ofNat (n % 256), UInt8.ofNat (n / 256 % 256), UInt8.ofNat (n / 256 / 256 % 256), UInt8.ofNat (n / 256 / 256 / 256 % 256), UInt8.ofNat (n / 256 / 256 / 256 / 256 % 256), ?_⟩
  · simp only [le]
    rw [show n / 256 / 256 / 256 / 256 / 256 = 0 by omega]
    rfl
theorem open_bw2 {l : List UInt8} (h : (openL l).2 = 0) : sealL (openL l).1 = l := by
  unfold openL at h ⊢
  split at h
  · exact absurd h (by decide)
  rename_i h1
  rw [if_neg h1]
  split at h
  · rename_i h2
    rw [if_pos h2]
    exact h2
  · exact absurd h (by decide)
theorem tail_no {s : ByteArray} {t0 n : Nat} (ht : rem s t0 = le 8 n ++ magic) (hn : n < 1099511627776) {a : Nat} (ha : t0 ≤ a) (i : Nat) (hi : 5 ≤ i) : (rem s a)[i]? ≠ some 1 := by
  obtain ⟨a0, a1, a2, a3, a4, h8⟩ := le8_hi hn
  have h1 : (rem s a)[i]? = (rem s t0)[i + (a - t0)]? := by
    unfold rem
    rw [List.getElem?_drop, List.getElem?_drop]
    congr 1
    omega
  rw [h1, ht, h8]
  have hk : 5 ≤ i + (a - t0) := by omega
  generalize i + (a - t0) = k at *
  intro h
  have : k = 5 ∨ k = 6 ∨ k = 7 ∨ k = 8 ∨ k = 9 ∨ k = 10 ∨ k = 11 ∨ k = 12 ∨ 13 ≤ k := by omega
  rcases this with q | q | q | q | q | q | q | q | q
  · subst q; exact absurd h (by simp)
  · subst q; exact absurd h (by simp)
  · subst q; exact absurd h (by simp)
  · subst q; exact absurd h (by simp [magic])
  · subst q; exact absurd h (by simp [magic])
  · subst q; exact absurd h (by simp [magic])
  · subst q; exact absurd h (by simp [magic])
  · subst q; exact absurd h (by simp [magic])
  · rw [List.getElem?_eq_none (by simp [magic]; omega)] at h
    cases h
theorem tail_rp {s : ByteArray} {t0 n : Nat} (ht : rem s t0 = le 8 n ++ magic) (hn : n < 1099511627776) : ∀ (m a : Nat) (x : Rp), s.size - a ≤ m → t0 ≤ a → a ≤ s.size → rpP s a x = x
  | m, a, x, hm, h0, ha => by
    rcases Nat.lt_or_ge a s.size with hlt | hge
    · by_cases he : (rdT s a 0 200000).2.2 = 0
      · have hp := rdT_pos he
        have hmo := rdT_mono (s := s) (e := 0) (m := 200000) ha
        obtain ⟨_, hb⟩ := rdT_bw (tri_z he)
        rw [rpP_go hlt he]
        have hN : rpN s a x = x := by
          unfold rpN
          split
          · rename_i ho
            have hse : sealL (openL (rdT s a 0 200000).1).1 = (rdT s a 0 200000).1 := open_bw2 ho
            unfold rpS
            rw [if_neg]
            intro q
            have hcb := (recL_bw q.1).1
            generalize (openL (rdT s a 0 200000).1).1 = c at *
            generalize recL (mkS c) = R at *
            apply tail_no ht hn h0 ((venc (rdT s a 0 200000).1.length).length + 4) (by have := venc_pos (n := (rdT s a 0 200000).1.length) (by have h9 : (rdT s a 0 200000).1.length ≤ 200000 := rdT_len s a 0 200000; omega); omega)
            rw [hb, textL, ← hse, List.append_assoc]
            rw [List.getElem?_append_right (by omega)]
            unfold sealL
            rw [List.append_assoc, List.getElem?_append_right (by rw [le_length]; omega), le_length]
            rw [← hcb, conB, show venc 1 = [1] from by decide]
            simp
          · rfl
        rw [hN]
        match m, hm with
        | 0, hm => omega
        | m + 1, hm => exact tail_rp ht hn m _ x (by omega) (by omega) hmo.2
      · exact rpP_err hlt he
    · exact rpP_end (by omega)
end Go.Proofs.YtkjkbpnhocjenaaGreat


namespace Go.Proofs.YtkjkbpnhocjenaaGreat
open Go.X
open P4
open P5
theorem recL_ind (L : List (List Rc)) : recL (mkS (indB L)) = [] := by
  have h0 : rem (mkS (indB L)) 0 = venc 2 ++ (venc L.length ++ idxB 5 L) := by rw [rem_mk, indB, List.append_assoc]
  obtain ⟨a, e1, _⟩ := rdU_fw (n := 2) (by decide) h0
  unfold recL
  rw [e1, if_neg (fun q => by have := q.1; simp at this)]
theorem rp_made {L : List (List Rc)} (hc : Chn 0 L) (hs : (secsB L).length ≤ 1000000000) (hi : (indB L).length ≤ 190000) : rpR (bagB L) = ⟨L, L.flatten.length, lstA 0 L⟩ := by
  have hl := bagB_len L
  have hz : (mkS (bagB L)).size = (bagB L).length := rfl
  have hr : rem (mkS (bagB L)) 5 = secsB L ++ (textL (sealL (indB L)) ++ (le 8 (5 + (secsB L).length) ++ magic)) := by
    have e : bagB L = magic ++ (secsB L ++ (textL (sealL (indB L)) ++ (le 8 (5 + (secsB L).length) ++ magic))) := by simp only [bagB, List.append_assoc]
    show (bagB L).drop 5 = _
    rw [e]
    exact List.drop_left' rfl
  rw [rpR_P (by omega)]
  obtain ⟨a, h1, h2, h3⟩ := rp_secs L 5 ⟨[], 0, 0⟩ _ hc (by omega) hr
  rw [h3]
  have hsl := sealL_len (indB L)
  obtain ⟨b, e1, h4⟩ := rdT_fw (m := 200000) (x := sealL (indB L)) (by omega) (by omega) h1
  have hmo := rdT_mono (s := mkS (bagB L)) (e := 0) (m := 200000) h2
  rw [e1] at hmo
  have hlt : a < (mkS (bagB L)).size := by
    have h6 := rem_len h1
    rw [List.length_append, List.length_append, le_length] at h6
    omega
  rw [rpP_go hlt (by rw [e1]), e1]
  simp only
  have hN : ∀ x, rpN (mkS (bagB L)) a x = x := fun x => by
    unfold rpN
    rw [e1]
    simp only
    rw [open_seal, if_pos rfl]
    simp only
    rw [recL_ind]
    exact if_neg (fun q => by have := q.1; simp at this)
  rw [hN, tail_rp h4 (by omega) _ b _ (Nat.le_refl _) (Nat.le_refl _) hmo.2]
  simp
end Go.Proofs.YtkjkbpnhocjenaaGreat


namespace Go.Proofs.YtkjkbpnhocjenaaGreat
open Go.X
open P4
open P5
/-! ### Lengths -/
def sumP : List Rc → Nat
  | [] => 0
  | r :: l => r.pl.length + sumP l
theorem sumP_app : ∀ l m : List Rc, sumP (l ++ m) = sumP l + sumP m
  | [], m => by simp [sumP]
  | r :: l, m => by simp only [List.cons_append, sumP, sumP_app l m]; omega
theorem sumP_sub {A B : List Rc} (h : A.Sublist B) : sumP A ≤ sumP B := by
  induction h with
  | slnil => exact Nat.le_refl _
  | cons a _ ih => rw [sumP]; omega
  | cons_cons a _ ih => rw [sumP, sumP]; omega
theorem recsB_len2 : ∀ {l : List Rc}, (∀ r ∈ l, okR r) → (recsB l).length ≤ 70 * l.length + sumP l
  | [], _ => by simp [recsB, sumP]
  | r :: l, h => by
    have h1 := recsB_len2 (l := l) fun q hq => h q (List.mem_cons_of_mem _ hq)
    have h2 := (h r (List.mem_cons_self ..)).1.1.2
    have h3 := textL_len r.tp
    have h4 := textL_len r.pl
    have h5 := venc_le r.at_.toNat
    have e : recsB (r :: l) = recB r ++ recsB l := by simp [recsB]
    rw [e, List.length_append, List.length_cons, sumP]
    simp only [recB, List.length_append]
    omega
theorem secsB_le2 : ∀ {L : List (List Rc)}, (∀ r ∈ L.flatten, okR r) → (secsB L).length ≤ 24 * L.length + 70 * L.flatten.length + sumP L.flatten
  | [], _ => by simp [secsB, sumP]
  | x :: L, h => by
    have h1 := secsB_le2 (L := L) fun r hr => h r (by rw [List.flatten_cons, List.mem_append]; exact .inr hr)
    have h2 := recsB_len2 (l := x) fun r hr => h r (by rw [List.flatten_cons, List.mem_append]; exact .inl hr)
    have h3 : (secsB (x :: L)).length = (secB x).length + (secsB L).length := by simp [secsB]
    have h4 := textL_len (sealL (conB x))
    have h5 := sealL_len (conB x)
    have h6 : (conB x).length = 1 + (recsB x).length := by
      rw [conB, show venc 1 = [1] from by decide, List.length_append, List.length_singleton]
    rw [h3, List.flatten_cons, List.length_append, List.length_cons, sumP_app]
    unfold secB
    omega
theorem idxB_le : ∀ (M : List (List Rc)) (off : Nat), (∀ r ∈ M.flatten, okR r) → (idxB off M).length ≤ 40 * M.length + 60 * M.flatten.length
  | [], off, _ => by simp [idxB]
  | x :: M, off, hM => by
    have g1 := idxB_le M (off + (secB x).length) fun r hr => hM r (by rw [List.flatten_cons, List.mem_append]; exact .inr hr)
    have g2 := desB_len (off := off) (fi := (x.getD 0 default).at_.toNat) (la := (x.getD (x.length - 1) default).at_.toNat) (T := tal x) fun t ht => by
      obtain ⟨r, hr, e⟩ := List.mem_map.1 (((tal_inv x).2.1 t.1).1 (List.mem_map.2 ⟨t, ht, rfl⟩))
      rw [← e]; exact (hM r (by rw [List.flatten_cons, List.mem_append]; exact .inl hr)).1.1.2
    have g3 := tal_le x
    rw [List.flatten_cons, List.length_append, List.length_cons, idxB, List.length_append]
    unfold idxE
    omega
theorem indB_le {L : List (List Rc)} (h : LOk L) (h40 : L.flatten.length ≤ 40) : (indB L).length ≤ 4020 := by
  have h1 := idxB_le L 5 h.ok
  have h2 := len_flat h.ch
  have v1 := venc_le 2
  have v2 := venc_le L.length
  unfold indB
  rw [List.length_append, List.length_append]
  omega
theorem bag_short {L : List (List Rc)} (h : LOk L) (h40 : L.flatten.length ≤ 40) (hp : sumP L.flatten ≤ 6000) : (bagB L).length ≤ 15000 := by
  have h1 := indB_le h h40
  have h2 := secsB_le2 h.ok
  have h3 := len_flat h.ch
  have h4 := textL_len (sealL (indB L))
  have h5 := sealL_len (indB L)
  have h6 := bagB_len L
  omega
theorem accL_sum (l : List Rc) : (accL l).length ≤ l.length ∧ sumP (accL l) ≤ sumP l := by
  refine ⟨(runA_WI 65536 l).2, ?_⟩
  suffices ∀ k, k ≤ l.length → sumP (runA 65536 (l.take k)).2 ≤ sumP (l.take k) by
    have := this l.length (Nat.le_refl _)
    rwa [List.take_length] at this
  intro k
  induction k with
  | zero => intro _; exact Nat.le_refl _
  | succ k ih =>
    intro hk
    have h1 := ih (by omega)
    rw [take_snocG l (by omega), runA_snoc, sumP_app]
    unfold stepA
    split
    · simp only [sumP_app]; omega
    · omega
/-! ### Chunks without one of them -/
theorem chn_of : ∀ {L : List (List Rc)} {la : Int}, (∀ x ∈ L, okX x ∧ x.length ≤ 40 ∧ Asc 0 x) → (L.flatten.Pairwise fun a b => a.at_ ≤ b.at_) → (∀ r ∈ L.flatten, la ≤ r.at_) → Chn la L
  | [], _, _, _, _ => trivial
  | x :: L, la, h, hp, hl => by
    have hx := h x (List.mem_cons_self ..)
    have hx0 := hx.1.1
    rw [List.flatten_cons] at hp hl
    have hp2 := List.pairwise_append.1 hp
    refine ⟨⟨hx.1, hx.2.1⟩, hx.2.2, hl _ (List.mem_append.2 (.inl (mem_getD hx0))), ?_⟩
    exact chn_of (fun y hy => h y (List.mem_cons_of_mem _ hy)) hp2.2.1 fun r hr => hp2.2.2 _ (mem_getD (by omega)) r hr
theorem LOk.chn {L : List (List Rc)} (h : LOk L) (h40 : L.flatten.length ≤ 40) : Chn 0 L :=
  chn_of (fun x hx => ⟨h.okX x hx, Nat.le_trans (LOk.sub hx).length_le h40, h.asc hx⟩) h.pw fun r hr => (h.ok r hr).2.1.1
theorem chn_app : ∀ {A B : List (List Rc)} {la : Int}, Chn la (A ++ B) → Chn la A ∧ Chn (lstA la A) B
  | [], _, _, h => ⟨trivial, h⟩
  | x :: A, B, la, h => by
    obtain ⟨h1, h2, h3, h4⟩ := h
    have h5 := chn_app h4
    exact ⟨⟨h1, h2, h3, h5.1⟩, h5.2⟩
theorem sub_flat {α : Type} {A B : List (List α)} (h : A.Sublist B) : A.flatten.Sublist B.flatten := by
  induction h with
  | slnil => exact List.Sublist.refl _
  | cons a _ ih => rw [List.flatten_cons]; exact ih.trans (List.sublist_append_right _ _)
  | cons_cons a _ ih => rw [List.flatten_cons, List.flatten_cons]; exact (List.Sublist.refl a).append ih
theorem era_sub {α : Type} (L : List (List α)) (w : Nat) : (L.eraseIdx w).flatten.Sublist L.flatten := sub_flat (List.eraseIdx_sublist L w)
theorem LOk.era {L : List (List Rc)} (h : LOk L) (w : Nat) : LOk (L.eraseIdx w) :=
  ⟨fun x hx => h.ch x ((List.eraseIdx_sublist L w).subset hx), fun r hr => h.ok r ((era_sub L w).subset hr), h.pw.sublist (era_sub L w), Nat.le_trans (era_sub L w).length_le h.n⟩
theorem era_eq {α : Type} (L : List α) (w : Nat) : L.eraseIdx w = L.take w ++ L.drop (w + 1) := List.eraseIdx_eq_take_drop_succ L w
/-! ### Repair -/
theorem rp_idx {s : ByteArray} {L : List (List Rc)} {a n : Nat} (h1 : rem s a = textL (sealL (indB L)) ++ (le 8 n ++ magic)) (hn : n < 1099511627776) (hi : (indB L).length ≤ 190000) (h2 : a ≤ s.size) (x : Rp) : rpP s a x = x := by
  have hsl := sealL_len (indB L)
  obtain ⟨b, e1, h4⟩ := rdT_fw (m := 200000) (x := sealL (indB L)) (by omega) (by omega) h1
  have hmo := rdT_mono (s := s) (e := 0) (m := 200000) h2
  rw [e1] at hmo
  have hlt : a < s.size := by
    have h6 := rem_len h1
    rw [List.length_append, List.length_append, le_length] at h6
    omega
  rw [rpP_go hlt (by rw [e1]), e1]
  simp only
  have hN : ∀ x, rpN s a x = x := fun x => by
    unfold rpN
    rw [e1]
    simp only
    rw [open_seal, if_pos rfl]
    simp only
    rw [recL_ind]
    exact if_neg (fun q => by have := q.1; simp at this)
  rw [hN, tail_rp h4 hn _ b _ (Nat.le_refl _) (Nat.le_refl _) hmo.2]
/-- The bag of the chunks L with another text in the place of chunk w. -/
def spoB (L : List (List Rc)) (w : Nat) (X : List UInt8) : List UInt8 :=
  magic ++ (secsB (L.take w) ++ (textL X ++ (secsB (L.drop (w + 1)) ++ (textL (sealL (indB L)) ++ (le 8 (5 + (secsB L).length) ++ magic)))))
theorem rp_spoilt {L : List (List Rc)} {w : Nat} {X : List UInt8} (h : LOk L) (h40 : L.flatten.length ≤ 40) (hX : (openL X).2 ≠ 0) (hXl : X.length ≤ 200000) :
    rpE (spoB L w X) = 0 ∧ rpR (spoB L w X) = ⟨L.eraseIdx w, (L.eraseIdx w).flatten.length, lstA 0 (L.eraseIdx w)⟩ := by
  have hlen : 5 ≤ (spoB L w X).length := by unfold spoB; rw [List.length_append]; simp [magic]
  have hz : (mkS (spoB L w X)).size = (spoB L w X).length := rfl
  have hr : rem (mkS (spoB L w X)) 5 = secsB (L.take w) ++ (textL X ++ (secsB (L.drop (w + 1)) ++ (textL (sealL (indB L)) ++ (le 8 (5 + (secsB L).length) ++ magic)))) := by
    show (spoB L w X).drop 5 = _
    unfold spoB
    exact List.drop_left' rfl
  have hE : rpE (spoB L w X) = 0 := by
    unfold rpE
    rw [if_neg (by omega), if_pos]
    unfold spoB
    exact List.take_left' rfl
  refine ⟨hE, ?_⟩
  have hsec := h.secs
  have hind := indB_le h h40
  have hc := (h.era w).chn (Nat.le_trans (era_sub L w).length_le h40)
  rw [era_eq] at hc
  obtain ⟨hc1, hc2⟩ := chn_app hc
  rw [rpR_P hlen]
  obtain ⟨a, h1, h2, h3⟩ := rp_secs (L.take w) 5 ⟨[], 0, 0⟩ _ hc1 (by omega) hr
  obtain ⟨b, e1, h4⟩ := rdT_fw (m := 200000) (x := X) (by omega) (by omega) h1
  have hmo := rdT_mono (s := mkS (spoB L w X)) (e := 0) (m := 200000) h2
  rw [e1] at hmo
  have hlt : a < (mkS (spoB L w X)).size := by
    have h6 := rem_len h1
    simp only [List.length_append, le_length] at h6
    omega
  have hN : ∀ x, rpN (mkS (spoB L w X)) a x = x := fun x => by
    unfold rpN
    rw [e1]
    exact if_neg hX
  rw [h3, rpP_go hlt (by rw [e1]), e1, hN]
  simp only
  obtain ⟨c, h5, h6, h7⟩ := rp_secs (L.drop (w + 1)) b ⟨[] ++ L.take w, 0 + (L.take w).flatten.length, lstA 0 (L.take w)⟩ _ hc2 hmo.2 h4
  rw [h7, rp_idx h5 (by omega) (by omega) h6]
  have hla : ∀ (A B : List (List Rc)) (la : Int), lstA (lstA la A) B = lstA la (A ++ B) := fun A => by
    induction A with
    | nil => intro B la; rfl
    | cons x A ih => intro B la; exact ih B _
  rw [era_eq, List.flatten_append, List.length_append]
  simp only [List.nil_append, Nat.zero_add, hla]
theorem rp_whole {L : List (List Rc)} (h : LOk L) (h40 : L.flatten.length ≤ 40) : rpE (bagB L) = 0 ∧ rpR (bagB L) = ⟨L, L.flatten.length, lstA 0 L⟩ := by
  have hl := bagB_len L
  have hi := indB_le h h40
  have hs := h.secs
  refine ⟨?_, rp_made (h.chn h40) (by omega) (by omega)⟩
  unfold rpE
  rw [if_neg (by omega), if_pos]
  simp only [bagB, List.append_assoc]
  exact List.take_left' rfl
/-- A chunk alone. -/
theorem rp_one {L : List (List Rc)} (h : LOk L) (h40 : L.flatten.length ≤ 40) {k : Nat} (hk : k < L.length) : rpE (magic ++ secB (L.getD k default)) = 0 ∧ (rpR (magic ++ secB (L.getD k default))).L = [L.getD k default] := by
  have hm := mem_getD hk
  have hx := h.okX _ hm
  have ha := h.asc hm
  have hx4 := Nat.le_trans (LOk.sub hm).length_le h40
  generalize L.getD k default = x at *
  have hz : (mkS (magic ++ secB x)).size = (magic ++ secB x).length := rfl
  have h5 : 5 ≤ (magic ++ secB x).length := by rw [List.length_append]; simp [magic]
  have hr : rem (mkS (magic ++ secB x)) 5 = secsB [x] ++ [] := by
    show (magic ++ secB x).drop 5 = _
    rw [List.drop_left' (show magic.length = 5 from rfl)]
    simp [secsB]
  have hE : rpE (magic ++ secB x) = 0 := by
    unfold rpE
    rw [if_neg (by omega), if_pos]
    exact List.take_left' rfl
  refine ⟨hE, ?_⟩
  have hx0 := hx.1
  have hc : Chn 0 [x] := ⟨⟨hx, hx4⟩, ha, (okX_at hx hx0).2.1.1, trivial⟩
  rw [rpR_P h5]
  obtain ⟨a, h1, h2, h3⟩ := rp_secs [x] 5 ⟨[], 0, 0⟩ _ hc (by omega) hr
  have h6 := rem_len h1
  rw [List.length_nil] at h6
  rw [h3, rpP_end (by omega)]
  rfl
theorem LOk.one {L : List (List Rc)} (h : LOk L) {k : Nat} (hk : k < L.length) : LOk [L.getD k default] := by
  have hm := mem_getD hk
  have hs := LOk.sub hm
  refine ⟨fun x hx => by rw [List.mem_singleton.1 hx]; exact h.ch _ hm, fun r hr => ?_, ?_, ?_⟩
  · rw [List.flatten_singleton] at hr; exact h.ok r (hs.subset hr)
  · rw [List.flatten_singleton]; exact h.pw.sublist hs
  · rw [List.flatten_singleton]; exact Nat.le_trans hs.length_le h.n
theorem sel_all {A : List Rc} (h : ∀ r ∈ A, okR r) : selR [] 0 1099511627777 A = A := by
  unfold selR
  rw [List.filter_eq_self]
  intro r hr
  have := (h r hr).2.1
  exact decide_eq_true ⟨.inl rfl, by omega, by omega⟩
theorem read_all {L : List (List Rc)} (h : LOk L) : readB (bgL L) [] 0 1099511627777 = (L.flatten, 0) := by
  rw [read_bag h, sel_all h.ok]
/-! ### What is wanted -/
def wntL (L : List (List Rc)) (w i : Nat) : List Rc := ((L.take i).eraseIdx w).flatten
theorem wnt_all (L : List (List Rc)) (w : Nat) : wntL L w L.length = (L.eraseIdx w).flatten := by unfold wntL; rw [List.take_length]
theorem wnt_at {L : List (List Rc)} {w i : Nat} (hi : i < L.length) (h : i = w) : wntL L w (i + 1) = wntL L w i := by
  subst h
  unfold wntL
  have hl : (L.take i).length = i := by rw [List.length_take]; omega
  rw [take_snocG L hi, List.eraseIdx_append_of_length_le (by omega), List.eraseIdx_of_length_le (l := L.take i) (by omega), hl, Nat.sub_self]
  simp
theorem wnt_go {L : List (List Rc)} {w i : Nat} (hi : i < L.length) (h : i ≠ w) : wntL L w (i + 1) = wntL L w i ++ L.getD i default := by
  unfold wntL
  rw [take_snocG L hi]
  rcases Nat.lt_or_ge w i with q | q
  · rw [List.eraseIdx_append_of_lt_length (by rw [List.length_take]; omega), List.flatten_append, List.flatten_singleton]
  · rw [List.eraseIdx_of_length_le (by rw [List.length_append, List.length_take, List.length_singleton]; omega), List.eraseIdx_of_length_le (by rw [List.length_take]; omega), List.flatten_append, List.flatten_singleton]
theorem wnt_le {L : List (List Rc)} (h40 : L.flatten.length ≤ 40) (w i : Nat) : (wntL L w i).length ≤ 40 :=
  Nat.le_trans (Nat.le_trans (era_sub (L.take i) w).length_le (sub_flat (List.take_sublist i L)).length_le) h40
/-! ### The spoilt bag as the bag with a changed byte -/
theorem spo_set {L : List (List Rc)} {w p : Nat} {b : UInt8} (hw : w < L.length) (hp : p < (sealL (conB (L.getD w default))).length) :
    (bagB L).set (5 + (secsB (L.take w)).length + (venc (sealL (conB (L.getD w default))).length).length + p) b = spoB L w ((sealL (conB (L.getD w default))).set p b) := by
  have e : bagB L = magic ++ (secsB (L.take w) ++ (venc (sealL (conB (L.getD w default))).length ++ (sealL (conB (L.getD w default)) ++ (secsB (L.drop (w + 1)) ++ (textL (sealL (indB L)) ++ (le 8 (5 + (secsB L).length) ++ magic)))))) := by
    have e1 : secsB L = secsB (L.take w) ++ (venc (sealL (conB (L.getD w default))).length ++ (sealL (conB (L.getD w default)) ++ secsB (L.drop (w + 1)))) := by
      conv => lhs; rw [secsB_tl L (w + 1), secsB_take hw]
      simp only [secB, textL, List.append_assoc]
    conv => lhs; rw [bagB, e1]
    simp only [List.append_assoc]
    rw [← e1]
  have e2 : textL ((sealL (conB (L.getD w default))).set p b) = venc (sealL (conB (L.getD w default))).length ++ (sealL (conB (L.getD w default))).set p b := by rw [textL, List.length_set]
  rw [e, spoB, e2]
  generalize sealL (conB (L.getD w default)) = X at *
  generalize secsB (L.take w) = A at *
  generalize venc X.length = V at *
  rw [List.set_append_right _ _ (by simp only [magic, List.length_cons, List.length_nil]; omega)]
  rw [List.set_append_right _ _ (by simp only [magic, List.length_cons, List.length_nil]; omega)]
  rw [List.set_append_right _ _ (by simp only [magic, List.length_cons, List.length_nil]; omega)]
  rw [List.set_append_left _ _ (by simp only [magic, List.length_cons, List.length_nil]; omega)]
  rw [show 5 + A.length + V.length + p - magic.length - A.length - V.length = p by simp only [magic, List.length_cons, List.length_nil]; omega]
  simp only [List.append_assoc]
end Go.Proofs.YtkjkbpnhocjenaaGreat


namespace Go.Proofs.YtkjkbpnhocjenaaGreat
open Go.X
set_option linter.unusedSimpArgs false
set_option linter.unusedVariables false
open P4
open P5
theorem xmO {p : Prop} (h : p := by first | exact xmC2 | exact xmT | fail) : p := h
def fewQ (l : List Rc) : Prop := fewP l ∧ sumP l ≤ 6000
set_option maxRecDepth 10000 in
theorem cfew2 (w : Bool) (l : List Rc) (c : Nat) (hl : l.length ≤ 9223372036854775807) :
    Ctr Tryz.prog 4 [.c (.sl 0 0 3 0 l.length c)] [.one (rcR w l c)]
      fun v h => ((v = .c .ff) ∨ (v = .c .tt ∧ fewQ l)) ∧ h = [.one (rcR w l c)] := by
  refine Ctr.mk' tbv mixed Tryz.func4 rfl rfl rfl (fun _ _ => by kernel_rfl) (by kernel_rfl) (by rfl) (by rfl) (by (repeat' first | refine And.intro ?_ ?_ | exact xeC | fail)) ?_
  repeat' (first | (fail_if_success (with_reducible refine xstp ?_)); first | (with_reducible intro hc; (try simp only [capsP, and_true] at hc); (try exact xfC)) | ((fail_if_success (with_reducible first | refine xgon ?_ | intro _)); (conv => whnf); (fail_if_success (fail_if_success (with_reducible first | refine xstp ?_ | refine xgon ?_ | intro _)))))
  refine LoopK.mk' {p : Nat × Nat // p.1 ≤ l.length ∧ p.1 ≤ 41 ∧ p.2 ≤ 4100 * p.1 ∧ p.2 = sumP (l.take p.1) ∧ ∀ k, k < p.1 → (l.getD k default).pl.length ≤ 4100 ∧ (l.getD k default).tp.length ≤ 50}
    (fun ⟨(i, n), _⟩ => ⟨[(0, .c (.sl 0 0 3 0 l.length c)), (3, .c (.i .i64 (n : Nat))), (4, .c (.i .i64 (i : Nat)))], [.one (rcR w l c)]⟩) (fun p => 41 - p.1.1)
    ⟨⟨(0, 0), Nat.zero_le _, Nat.zero_le _, Nat.le_refl _, rfl, fun k hk => absurd hk (Nat.not_lt_zero k)⟩, [0], ?_⟩ ?_
  · (repeat' first | refine And.intro ?_ ?_ | exact xeC | fail)
  rintro ⟨⟨i, n⟩, hi, hi2, hn, hsn, hok⟩
  simp only at hi hi2 hn hsn hok
  have e2 : 0 + ((i : Nat) : Int).toNat = i := by omega
  have z1 : (mkS (l.getD i default).pl).size = (l.getD i default).pl.length := rfl
  have z2 : (mkS (l.getD i default).tp).size = (l.getD i default).tp.length := rfl
  repeat' (first | (fail_if_success (with_reducible refine xstp ?_)); first | ((with_reducible refine And.intro (fun (hb : _ = true) => ?_) (fun (hb : _ = false) => ?_)) <;> replace hb := xnC hb <;> (try first | exact xfC | exact bff hb (by assumption) | exact bff (by assumption) hb)) | ((with_reducible refine And.intro ?_ ?_); focus exact xoC) | (with_reducible intro hc; (try simp only [capsP, and_true] at hc); (try exact xfC)) | ((fail_if_success (with_reducible first | refine xgon ?_ | intro _)); (conv => whnf); (fail_if_success (fail_if_success (with_reducible first | refine xstp ?_ | refine xgon ?_ | intro _)))))
  · refine FinK.mk ⟨[0], _, _, ⟨.inl rfl, rfl⟩, ?_⟩
    (repeat' first | refine And.intro ?_ ?_ | exact xeC | fail)
  · refine FinK.mk ⟨[0], _, _, ⟨.inl rfl, rfl⟩, ?_⟩
    (repeat' first | refine And.intro ?_ ?_ | exact xeC | fail)
  · refine ⟨⟨(i + 1, n + (l.getD i default).pl.length), by omega, by omega, by simp only; omega, by simp only; rw [take_snocG l (by omega), sumP_app, ← hsn]; rfl, fun k hk => ?_⟩, [0], by simp only; omega, ?_⟩
    · rcases Nat.lt_or_ge k i with q | q
      · exact hok k q
      · obtain rfl : k = i := by simp only at hk; omega
        exact ⟨by omega, by omega⟩
    · (repeat' first | refine And.intro ?_ ?_ | exact xeC | fail)
      all_goals (first | (rw [e2]; omega) | omega)
  · refine FinK.mk ⟨[0], _, _, ⟨.inl rfl, rfl⟩, ?_⟩
    (repeat' first | refine And.intro ?_ ?_ | exact xeC | fail)
  · have hfw : fewP l := ⟨by omega, fun r hr => by
      obtain ⟨k, hk, e⟩ := List.mem_iff_getElem.1 hr
      have := hok k (by omega)
      rw [getD_at hk, e] at this
      exact this⟩
    obtain rfl : i = l.length := by omega
    rw [List.take_length] at hsn
    by_cases q : ((n : Nat) : Int) ≤ 6000
    · rw [decide_eq_true q]
      refine FinK.mk ⟨[0], _, _, ⟨.inr ⟨rfl, hfw, by omega⟩, rfl⟩, ?_⟩
      (repeat' first | refine And.intro ?_ ?_ | exact xeC | fail)
    · rw [decide_eq_false q]
      refine FinK.mk ⟨[0], _, _, ⟨.inl rfl, rfl⟩, ?_⟩
      (repeat' first | refine And.intro ?_ ?_ | exact xeC | fail)
  · refine FinK.mk ⟨[0], _, _, ⟨.inl rfl, rfl⟩, ?_⟩
    (repeat' first | refine And.intro ?_ ?_ | exact xeC | fail)
theorem rH41zgN0 {σ : List Sg} {H h' : List Fam} {v : T} {K : T → List Fam → Prop} {H' : List Fam} {v' : T} {N : Nat} (hk : K v' H') (hN : H.length = N := by (try simp only [↓List.length_cons, ↓List.length_nil, Nat.reduceAdd]) <;> rfl) (h : givesF σ N H σ h' = some H' := by (try simp (maxSteps := 1000000) only [givesF, setF, updF, Fam.zeroth, Fam.rk, Ck.rk, C.rk, E.rk, T.rk, key, List.map_cons, List.map_nil, List.cons_append, List.nil_append, List.length_cons, List.length_nil, Option.map_some, Option.bind_some, Nat.reduceAdd, Nat.zero_add, Nat.add_zero, Nat.add_sub_cancel_left, Int.toNat_natCast, reps, List.all_cons, List.all_nil, C.flat, List.append_eq, Bool.not_true, Bool.and_true, Bool.or_false, Bool.or_self, Bool.not_false, List.append_nil, Bool.and_self, ↓tpG_rk, ↓cnG_rk, ↓trG_rk, encEr_rk0]) <;> rfl) (hv : v.rk σ N = v' := by (try simp only [givesF, setF, updF, Fam.zeroth, Fam.rk, Ck.rk, C.rk, E.rk, T.rk, key, List.map_cons, List.map_nil, List.cons_append, List.nil_append, List.length_cons, List.length_nil, Option.map_some, Option.bind_some, Nat.reduceAdd, Nat.zero_add, Nat.add_zero, Nat.add_sub_cancel_left, Int.toNat_natCast, reps, List.all_cons, List.all_nil, C.flat, List.append_eq, Bool.not_true, Bool.and_true, Bool.or_false, Bool.or_self, Bool.not_false, List.append_nil, Bool.and_self, ↓tpG_rk, ↓cnG_rk, ↓trG_rk, encEr_rk0]) <;> rfl) : RetG σ H h' v K := ret_mk3 hN h hv hk
theorem rH41zgN1 {σ : List Sg} {H h' : List Fam} {v : T} {K : T → List Fam → Prop} {H' : List Fam} {v' : T} {N : Nat} (hk : K v' H') (hN : H.length = N := by (try simp only [↓List.length_cons, ↓List.length_nil, Nat.reduceAdd]) <;> rfl) (h : givesF σ N H σ h' = some H' := by (try simp (maxSteps := 1000000) only [givesF, setF, updF, Fam.zeroth, Fam.rk, Ck.rk, C.rk, E.rk, T.rk, key, List.map_cons, List.map_nil, List.cons_append, List.nil_append, List.length_cons, List.length_nil, Option.map_some, Option.bind_some, Nat.reduceAdd, Nat.zero_add, Nat.add_zero, Nat.add_sub_cancel_left, Int.toNat_natCast, reps, List.all_cons, List.all_nil, C.flat, List.append_eq, Bool.not_true, Bool.and_true, Bool.or_false, Bool.or_self, Bool.not_false, List.append_nil, Bool.and_self, ↓tpG_rk, ↓cnG_rk, ↓trG_rk]) <;> rfl) (hv : v.rk σ N = v' := by (try simp only [givesF, setF, updF, Fam.zeroth, Fam.rk, Ck.rk, C.rk, E.rk, T.rk, key, List.map_cons, List.map_nil, List.cons_append, List.nil_append, List.length_cons, List.length_nil, Option.map_some, Option.bind_some, Nat.reduceAdd, Nat.zero_add, Nat.add_zero, Nat.add_sub_cancel_left, Int.toNat_natCast, reps, List.all_cons, List.all_nil, C.flat, List.append_eq, Bool.not_true, Bool.and_true, Bool.or_false, Bool.or_self, Bool.not_false, List.append_nil, Bool.and_self, ↓tpG_rk, ↓cnG_rk, ↓trG_rk]) <;> rfl) : RetG σ H h' v K := ret_mk3 hN h hv hk
theorem cH41zgN2 {P : Program} {F : Nat} {args : List T} {H : List Fam} {K : T → List Fam → Prop} {σ : List Sg} {nl : List Fam} {args0 : List T} {h0 : List Fam} {Q : T → List Fam → Prop} {H2 H1 : List Fam} {N n : Nat} (hc : Ctr P F args0 h0 Q) (hk : ∀ v h', Q v h' → capsP h' → RetG σ H2 h' v K) (hap : apart σ = true := by rfl) (hnl : nl.all nilB = true := by rfl) (h1 : H ++ nl = H1 := by first | exact List.append_nil _ | ((try simp only [List.cons_append, List.nil_append]) <;> rfl)) (hN : H1.length = N := by (try simp only [↓List.length_cons, ↓List.length_nil, Nat.reduceAdd]) <;> rfl) (hn : H.length = n := by (try simp only [↓List.length_cons, ↓List.length_nil, Nat.reduceAdd]) <;> rfl) (hH : givesF σ N H1 σ h0 = some H2 := by (try simp (maxSteps := 1000000) only [givesF, setF, updF, Fam.zeroth, Fam.rk, Ck.rk, C.rk, E.rk, T.rk, key, List.map_cons, List.map_nil, List.cons_append, List.nil_append, List.length_cons, List.length_nil, Option.map_some, Option.bind_some, Nat.reduceAdd, Nat.zero_add, Nat.add_zero, Nat.add_sub_cancel_left, Int.toNat_natCast, reps, List.all_cons, List.all_nil, C.flat, List.append_eq, Bool.not_true, Bool.and_true, Bool.or_false, Bool.or_self, Bool.not_false, List.append_nil, Bool.and_self, ↓tpG_rk, ↓cnG_rk, ↓trG_rk]) <;> rfl) (hle : leS n H1 σ N σ h0 (belsK N (h0.map (Fam.rk σ N)) (argsK n args (args0.map (T.rk σ N)) True)) := by repeat' first | refine And.intro ?_ ?_ | exact xeC | fail) : CallK P F args H K := CallK.mk3 hc hap hnl h1 hN hn hH hle hk
set_option maxRecDepth 10000 in
theorem cReadS (l : List UInt8) (R : List Rc) (hl : l.length ≤ 100000) (hE : bgE l = 0) (hB : BOk (bgO l)) (hR : readB (bgO l) [] 0 1099511627777 = (R, 0)) :
    Ctr Tryz.prog 12 [.c (.s (mkS l))] []
      fun v h => ∃ c, v = .t [.c (.sl 0 0 3 0 R.length c), .c (.i .i64 0)] ∧ h = [.one (rcR true R c)] := by
  have hs : (bgO l).s = l := by simp only [bgO]
  refine Ctr.mk' tbv mixed Tryz.func12 rfl rfl rfl (fun _ _ => by kernel_rfl) (by kernel_rfl) (by rfl) (by rfl) (by (repeat' first | refine And.intro ?_ ?_ | exact xeC | fail) <;> exact xmT) ?_
  repeat' (first | (fail_if_success (with_reducible refine xstp ?_)); first | (with_reducible intro hc; (try simp only [capsP, and_true] at hc); (try exact xfC)) | ((fail_if_success (with_reducible first | refine xgon ?_ | intro _)); (conv => whnf); (fail_if_success (fail_if_success (with_reducible first | refine xstp ?_ | refine xgon ?_ | intro _)))))
  refine cH41zgN2 (σ := []) (nl := []) (cOpenRef l (by omega)) ?_ (hle := by (repeat' first | refine And.intro ?_ ?_ | exact xeC | fail) <;> exact xmT)
  rintro v h' hq hcaps
  rcases hq with ⟨hq, _⟩ | ⟨_, Y, d, hY, rfl, rfl⟩
  · exact absurd hE hq
  generalize bgO l = b at *
  refine rH41zgN0 ?_
  repeat' (first | (fail_if_success (with_reducible refine xstp ?_)); first | ((with_reducible refine And.intro (fun (hb : _ = true) => ?_) (fun (hb : _ = false) => ?_)) <;> replace hb := xnC hb <;> (try first | exact xfC | exact bff hb (by assumption) | exact bff (by assumption) hb)) | ((fail_if_success (with_reducible first | refine xgon ?_ | intro _)); (conv => whnf); (fail_if_success (fail_if_success (with_reducible first | refine xstp ?_ | refine xgon ?_ | intro _)))))
  refine cH41zgN2 (σ := [.whole 0, .whole 1, .whole 2]) (nl := []) (cAllR b Y d hB (by rw [hs]; exact hl) hY) ?_ (hle := by (repeat' first | refine And.intro ?_ ?_ | exact xeC | fail) <;> exact xmT)
  rw [hR]
  rintro v h' ⟨c3, rfl, rfl⟩ hcaps
  refine rH41zgN1 ?_
  repeat' (first | (fail_if_success (with_reducible refine xstp ?_)); first | ((fail_if_success (with_reducible first | refine xgon ?_ | intro _)); (conv => whnf); (fail_if_success (fail_if_success (with_reducible first | refine xstp ?_ | refine xgon ?_ | intro _)))))
  refine FinK.mk ⟨[3], _, _, ⟨c3, rfl, rfl⟩, ?_⟩
  (repeat' first | refine And.intro ?_ ?_ | exact xeC | fail)
end Go.Proofs.YtkjkbpnhocjenaaGreat

