/- Part 1 of the texts that a walk of this program rests on: an abstract machine, its soundness, contracts of functions. No statement of the seat is proved in this file. -/
import Derived.Test.YtnjakmpddghhjaaZ5
namespace Go.Proofs.Ytnjakmpddghhjaa
open Go.X
set_option linter.unusedSimpArgs false
set_option linter.unusedVariables false
abbrev timR (l : List Int) (c : Nat) : Ck := .row false false 3 1 l.length c (rowOf Go.X.encI l)
theorem rcv_two {u v : Int} (h : u ≤ v) : ∀ {P : List Arv}, srtA P → rcvP u P ++ rcvP v (rcvQ u P) = rcvP v P ∧ rcvQ v (rcvQ u P) = rcvQ v P
  | [], _ => ⟨rfl, rfl⟩
  | a :: P, hs => by
    have hs' := List.pairwise_cons.1 hs
    obtain ⟨i1, i2⟩ := rcv_two h (P := P) hs'.2
    unfold rcvP rcvQ at *
    by_cases hu : a.at_ ≤ u
    · have hv : a.at_ ≤ v := by omega
      rw [List.filter_cons_of_pos (by simpa using hu), List.filter_cons_of_neg (p := fun a : Arv => !decide (a.at_ ≤ u)) (by simpa using hu), List.filter_cons_of_pos (by simpa using hv), List.filter_cons_of_neg (p := fun a : Arv => !decide (a.at_ ≤ v)) (by simpa using hv)]
      exact ⟨by rw [List.cons_append, i1], i2⟩
    · have hall : P.filter (fun a => decide (a.at_ ≤ u)) = [] := by
        rw [List.filter_eq_nil_iff]
        intro p hp hq
        have := hs'.1 p hp
        have : p.at_ ≤ u := by simpa using hq
        omega
      have hself : P.filter (fun a => !decide (a.at_ ≤ u)) = P := by
        rw [List.filter_eq_self]
        intro p hp
        have := hs'.1 p hp
        have : ¬ p.at_ ≤ u := by omega
        simpa using this
      rw [List.filter_cons_of_neg (by simpa using hu), List.filter_cons_of_pos (p := fun a : Arv => !decide (a.at_ ≤ u)) (by simpa using hu), hall, hself]
      exact ⟨rfl, rfl⟩
theorem rH14aP0 {σ : List Sg} {H h' : List Fam} {v : T} {K : T → List Fam → Prop} {H' : List Fam} {v' : T} {N : Nat} (hk : K v' H') (hN : H.length = N := by (try simp only [↓List.length_cons, ↓List.length_nil, Nat.reduceAdd]) <;> rfl) (h : givesF σ N H σ h' = some H' := by (try simp (maxSteps := 1000000) only [givesF, setF, updF, Fam.zeroth, Fam.rk, Ck.rk, C.rk, E.rk, T.rk, key, List.map_cons, List.map_nil, List.cons_append, List.nil_append, List.length_cons, List.length_nil, Option.map_some, Option.bind_some, Nat.reduceAdd, Nat.zero_add, Nat.add_zero, Nat.add_sub_cancel_left, Int.toNat_natCast, reps, List.all_cons, List.all_nil, C.flat, List.append_eq, Bool.not_true, Bool.and_true, Bool.or_false, Bool.or_self, Bool.not_false, List.append_nil, Bool.and_self, ↓lsG_rk, encF]) <;> rfl) (hv : v.rk σ N = v' := by (try simp only [givesF, setF, updF, Fam.zeroth, Fam.rk, Ck.rk, C.rk, E.rk, T.rk, key, List.map_cons, List.map_nil, List.cons_append, List.nil_append, List.length_cons, List.length_nil, Option.map_some, Option.bind_some, Nat.reduceAdd, Nat.zero_add, Nat.add_zero, Nat.add_sub_cancel_left, Int.toNat_natCast, reps, List.all_cons, List.all_nil, C.flat, List.append_eq, Bool.not_true, Bool.and_true, Bool.or_false, Bool.or_self, Bool.not_false, List.append_nil, Bool.and_self, ↓lsG_rk, encF]) <;> rfl) : RetG σ H h' v K := ret_mk3 hN h hv hk
theorem rH14aP1 {σ : List Sg} {H h' : List Fam} {v : T} {K : T → List Fam → Prop} {H' : List Fam} {v' : T} {N : Nat} (hk : K v' H') (hN : H.length = N := by (try simp only [↓List.length_cons, ↓List.length_nil, Nat.reduceAdd]) <;> rfl) (h : givesF σ N H σ h' = some H' := by (try simp (maxSteps := 1000000) only [givesF, setF, updF, Fam.zeroth, Fam.rk, Ck.rk, C.rk, E.rk, T.rk, key, List.map_cons, List.map_nil, List.cons_append, List.nil_append, List.length_cons, List.length_nil, Option.map_some, Option.bind_some, Nat.reduceAdd, Nat.zero_add, Nat.add_zero, Nat.add_sub_cancel_left, Int.toNat_natCast, reps, List.all_cons, List.all_nil, C.flat, List.append_eq, Bool.not_true, Bool.and_true, Bool.or_false, Bool.or_self, Bool.not_false, List.append_nil, Bool.and_self, ↓lsG_rk]) <;> rfl) (hv : v.rk σ N = v' := by (try simp only [givesF, setF, updF, Fam.zeroth, Fam.rk, Ck.rk, C.rk, E.rk, T.rk, key, List.map_cons, List.map_nil, List.cons_append, List.nil_append, List.length_cons, List.length_nil, Option.map_some, Option.bind_some, Nat.reduceAdd, Nat.zero_add, Nat.add_zero, Nat.add_sub_cancel_left, Int.toNat_natCast, reps, List.all_cons, List.all_nil, C.flat, List.append_eq, Bool.not_true, Bool.and_true, Bool.or_false, Bool.or_self, Bool.not_false, List.append_nil, Bool.and_self, ↓lsG_rk]) <;> rfl) : RetG σ H h' v K := ret_mk3 hN h hv hk
theorem cH14aP2 {P : Program} {F : Nat} {args : List T} {H : List Fam} {K : T → List Fam → Prop} {σ : List Sg} {nl : List Fam} {args0 : List T} {h0 : List Fam} {Q : T → List Fam → Prop} {H2 H1 : List Fam} {N n : Nat} (hc : Ctr P F args0 h0 Q) (hk : ∀ v h', Q v h' → capsP h' → RetG σ H2 h' v K) (hap : apart σ = true := by rfl) (hnl : nl.all nilB = true := by rfl) (h1 : H ++ nl = H1 := by first | exact List.append_nil _ | ((try simp only [List.cons_append, List.nil_append]) <;> rfl)) (hN : H1.length = N := by (try simp only [↓List.length_cons, ↓List.length_nil, Nat.reduceAdd]) <;> rfl) (hn : H.length = n := by (try simp only [↓List.length_cons, ↓List.length_nil, Nat.reduceAdd]) <;> rfl) (hH : givesF σ N H1 σ h0 = some H2 := by (try simp (maxSteps := 1000000) only [givesF, setF, updF, Fam.zeroth, Fam.rk, Ck.rk, C.rk, E.rk, T.rk, key, List.map_cons, List.map_nil, List.cons_append, List.nil_append, List.length_cons, List.length_nil, Option.map_some, Option.bind_some, Nat.reduceAdd, Nat.zero_add, Nat.add_zero, Nat.add_sub_cancel_left, Int.toNat_natCast, reps, List.all_cons, List.all_nil, C.flat, List.append_eq, Bool.not_true, Bool.and_true, Bool.or_false, Bool.or_self, Bool.not_false, List.append_nil, Bool.and_self, ↓lsG_rk]) <;> rfl) (hle : leS n H1 σ N σ h0 (belsK N (h0.map (Fam.rk σ N)) (argsK n args (args0.map (T.rk σ N)) True)) := by repeat' first | refine And.intro ?_ ?_ | exact xeC | fail) : CallK P F args H K := CallK.mk3 hc hap hnl h1 hN hn hH hle hk
set_option maxRecDepth 20000 in
set_option maxHeartbeats 4000000 in
theorem cstages (m lat : Int) (F : List Flt) (O : List Opn) (Ti : List Int) (cF cO cT : Nat) (hF : F.length ≤ 9223372036854775807) (hO : O.length ≤ 9223372036854775807) (hT : Ti.length ≤ 9223372036854775807) :
    Ctr Try.prog 6 [.a (encSu m lat F.length cF O.length cO), .c (.sl 2 0 1 0 Ti.length cT)] [.one (fltR false F cF), .one (opsR O cO), .one (timR Ti cT)] fun v _ => v = .c .tt := by
  refine Ctr.mk' tbv mixed Try.func6 rfl rfl rfl (fun _ _ => by kernel_rfl) (by kernel_rfl) (by rfl) (by rfl) (by (repeat' first | refine And.intro ?_ ?_ | exact xeC | fail)) ?_
  repeat' (first | (fail_if_success (with_reducible refine xstp ?_)); first | ((with_reducible refine And.intro (fun (hb : _ = true) => ?_) (fun (hb : _ = false) => ?_)) <;> replace hb := xnC hb <;> (try first | exact xfC | exact bff hb (by assumption) | exact bff (by assumption) hb)) | (with_reducible refine Both.mk ?_ ?_) | ((with_reducible refine And.intro ?_ ?_); focus exact xoC) | ((with_reducible refine Or.inl ⟨?_, ?_, ?_⟩); (focus rfl); focus exact xaC) | ((with_reducible refine xwB ?_ ?_); focus exact xaC) | ((with_reducible refine xwC ?_ ?_); focus exact xaC) | ((with_reducible refine xwD ?_ ?_); focus exact xaC) | ((with_reducible refine xwE ?_ ?_); focus exact xaC) | (with_reducible intro hc; (try simp only [capsP, and_true] at hc); (try exact xfC)) | ((fail_if_success (with_reducible first | refine xgon ?_ | intro _)); (conv => whnf); (fail_if_success (fail_if_success (with_reducible first | refine xstp ?_ | refine Both.mk ?_ ?_ | refine xgon ?_ | intro _)))))
  refine cH14aP2 (σ := [.whole 0]) (nl := []) (cNew m lat F cF false hF) ?_
  rintro v h' (⟨h1, rfl, rfl⟩ | ⟨h1, c1, rfl, rfl⟩) hcaps
  · refine rH14aP0 ?_
    repeat' (first | (fail_if_success (with_reducible refine xstp ?_)); first | ((with_reducible refine And.intro (fun (hb : _ = true) => ?_) (fun (hb : _ = false) => ?_)) <;> replace hb := xnC hb <;> (try first | exact xfC | exact bff hb (by assumption) | exact bff (by assumption) hb)) | (with_reducible refine Both.mk ?_ ?_) | ((with_reducible refine And.intro ?_ ?_); focus exact xoC) | ((with_reducible refine Or.inl ⟨?_, ?_, ?_⟩); (focus rfl); focus exact xaC) | ((with_reducible refine xwB ?_ ?_); focus exact xaC) | ((with_reducible refine xwC ?_ ?_); focus exact xaC) | ((with_reducible refine xwD ?_ ?_); focus exact xaC) | ((with_reducible refine xwE ?_ ?_); focus exact xaC) | (with_reducible intro hc; (try simp only [capsP, and_true] at hc); (try exact xfC)) | ((fail_if_success (with_reducible first | refine xgon ?_ | intro _)); (conv => whnf); (fail_if_success (fail_if_success (with_reducible first | refine xstp ?_ | refine Both.mk ?_ ?_ | refine xgon ?_ | intro _)))))
    refine cH14aP2 (σ := [.whole 0]) (nl := []) (cNew m lat F cF false hF) ?_
    rintro v h' (⟨h2, rfl, rfl⟩ | ⟨h2, c2, rfl, rfl⟩) hcaps
    · refine rH14aP0 ?_
      repeat' (first | (fail_if_success (with_reducible refine xstp ?_)); first | ((with_reducible refine And.intro (fun (hb : _ = true) => ?_) (fun (hb : _ = false) => ?_)) <;> replace hb := xnC hb <;> (try first | exact xfC | exact bff hb (by assumption) | exact bff (by assumption) hb)) | (with_reducible refine Both.mk ?_ ?_) | ((with_reducible refine And.intro ?_ ?_); focus exact xoC) | ((with_reducible refine Or.inl ⟨?_, ?_, ?_⟩); (focus rfl); focus exact xaC) | ((with_reducible refine xwB ?_ ?_); focus exact xaC) | ((with_reducible refine xwC ?_ ?_); focus exact xaC) | ((with_reducible refine xwD ?_ ?_); focus exact xaC) | ((with_reducible refine xwE ?_ ?_); focus exact xaC) | (with_reducible intro hc; (try simp only [capsP, and_true] at hc); (try exact xfC)) | ((fail_if_success (with_reducible first | refine xgon ?_ | intro _)); (conv => whnf); (fail_if_success (fail_if_success (with_reducible first | refine xstp ?_ | refine Both.mk ?_ ?_ | refine xgon ?_ | intro _)))))
      refine cH14aP2 (σ := []) (nl := []) (cawake) ?_
      rintro v h' ⟨rfl, rfl⟩ hcaps
      refine rH14aP1 ?_
      repeat' (first | (fail_if_success (with_reducible refine xstp ?_)); first | ((with_reducible refine And.intro (fun (hb : _ = true) => ?_) (fun (hb : _ = false) => ?_)) <;> replace hb := xnC hb <;> (try first | exact xfC | exact bff hb (by assumption) | exact bff (by assumption) hb)) | (with_reducible refine Both.mk ?_ ?_) | ((with_reducible refine And.intro ?_ ?_); focus exact xoC) | ((with_reducible refine Or.inl ⟨?_, ?_, ?_⟩); (focus rfl); focus exact xaC) | ((with_reducible refine xwB ?_ ?_); focus exact xaC) | ((with_reducible refine xwC ?_ ?_); focus exact xaC) | ((with_reducible refine xwD ?_ ?_); focus exact xaC) | ((with_reducible refine xwE ?_ ?_); focus exact xaC) | (with_reducible intro hc; (try simp only [capsP, and_true] at hc); (try exact xfC)) | ((fail_if_success (with_reducible first | refine xgon ?_ | intro _)); (conv => whnf); (fail_if_success (fail_if_success (with_reducible first | refine xstp ?_ | refine Both.mk ?_ ?_ | refine xgon ?_ | intro _)))))
      refine FinK.mk ⟨[0, 1, 2], _, [.one .no, .one .no, .one .no], rfl, ?_⟩
      (repeat' first | refine And.intro ?_ ?_ | exact xeC | fail)
    · exact absurd h2 h1
  · refine rH14aP0 ?_
    repeat' (first | (fail_if_success (with_reducible refine xstp ?_)); first | ((with_reducible refine And.intro (fun (hb : _ = true) => ?_) (fun (hb : _ = false) => ?_)) <;> replace hb := xnC hb <;> (try first | exact xfC | exact bff hb (by assumption) | exact bff (by assumption) hb)) | (with_reducible refine Both.mk ?_ ?_) | ((with_reducible refine And.intro ?_ ?_); focus exact xoC) | ((with_reducible refine Or.inl ⟨?_, ?_, ?_⟩); (focus rfl); focus exact xaC) | ((with_reducible refine xwB ?_ ?_); focus exact xaC) | ((with_reducible refine xwC ?_ ?_); focus exact xaC) | ((with_reducible refine xwD ?_ ?_); focus exact xaC) | ((with_reducible refine xwE ?_ ?_); focus exact xaC) | (with_reducible intro hc; (try simp only [capsP, and_true] at hc); (try exact xfC)) | ((fail_if_success (with_reducible first | refine xgon ?_ | intro _)); (conv => whnf); (fail_if_success (fail_if_success (with_reducible first | refine xstp ?_ | refine Both.mk ?_ ?_ | refine xgon ?_ | intro _)))))
    refine cH14aP2 (σ := [.whole 0]) (nl := []) (cNew m lat F cF false hF) ?_
    rintro v h' (⟨h2, rfl, rfl⟩ | ⟨h2, c2, rfl, rfl⟩) hcaps
    · exact absurd h1 h2
    · refine rH14aP0 ?_
      repeat' (first | (fail_if_success (with_reducible refine xstp ?_)); first | ((with_reducible refine And.intro (fun (hb : _ = true) => ?_) (fun (hb : _ = false) => ?_)) <;> replace hb := xnC hb <;> (try first | exact xfC | exact bff hb (by assumption) | exact bff (by assumption) hb)) | (with_reducible refine Both.mk ?_ ?_) | ((with_reducible refine And.intro ?_ ?_); focus exact xoC) | ((with_reducible refine Or.inl ⟨?_, ?_, ?_⟩); (focus rfl); focus exact xaC) | ((with_reducible refine xwB ?_ ?_); focus exact xaC) | ((with_reducible refine xwC ?_ ?_); focus exact xaC) | ((with_reducible refine xwD ?_ ?_); focus exact xaC) | ((with_reducible refine xwE ?_ ?_); focus exact xaC) | (with_reducible intro hc; (try simp only [capsP, and_true] at hc); (try exact xfC)) | ((fail_if_success (with_reducible first | refine xgon ?_ | intro _)); (conv => whnf); (fail_if_success (fail_if_success (with_reducible first | refine xstp ?_ | refine Both.mk ?_ ?_ | refine xgon ?_ | intro _)))))
      refine cH14aP2 (σ := [.whole 4, .whole 5, .whole 6, .whole 7, .whole 1]) (nl := []) (csent (rl0 m lat F) (xb0 h1) rfl O c1 cO (fun _ => 0) hO) ?_ (hle := by (repeat' first | refine And.intro ?_ ?_ | exact xeC | fail) <;> (first | exact fun x => lsG_le | exact fun x => lsG_bel | exact fun x => lsG_belR))
      rintro v h' ⟨N, X, L, cs, c3, hs, hr, hx, hcn, hL2, rfl, rfl⟩ hcaps
      refine rH14aP1 ?_
      repeat' (first | (fail_if_success (with_reducible refine xstp ?_)); first | ((with_reducible refine And.intro (fun (hb : _ = true) => ?_) (fun (hb : _ = false) => ?_)) <;> replace hb := xnC hb <;> (try first | exact xfC | exact bff hb (by assumption) | exact bff (by assumption) hb)) | (with_reducible refine Both.mk ?_ ?_) | ((with_reducible refine And.intro ?_ ?_); focus exact xoC) | ((with_reducible refine Or.inl ⟨?_, ?_, ?_⟩); (focus rfl); focus exact xaC) | ((with_reducible refine xwB ?_ ?_); focus exact xaC) | ((with_reducible refine xwC ?_ ?_); focus exact xaC) | ((with_reducible refine xwD ?_ ?_); focus exact xaC) | ((with_reducible refine xwE ?_ ?_); focus exact xaC) | (with_reducible intro hc; (try simp only [capsP, and_true] at hc); (try exact xfC)) | ((fail_if_success (with_reducible first | refine xgon ?_ | intro _)); (conv => whnf); (fail_if_success (fail_if_success (with_reducible first | refine xstp ?_ | refine Both.mk ?_ ?_ | refine xgon ?_ | intro _)))))
      refine cH14aP2 (σ := [.whole 8, .whole 9, .whole 10, .whole 11, .whole 1]) (nl := []) (csent (rl0 m lat F) (xb0 h1) rfl O c2 cO (fun _ => 0) hO) ?_ (hle := by (repeat' first | refine And.intro ?_ ?_ | exact xeC | fail) <;> (first | exact fun x => lsG_le | exact fun x => lsG_bel | exact fun x => lsG_belR))
      rintro v h' ⟨N2, X2, L2, cs2, c4, hs2, hr2, hx2, hcn2, hL22, rfl, rfl⟩ hcaps
      obtain ⟨rfl, rfl⟩ : X = X2 ∧ L = L2 := by
        rw [hs] at hs2
        exact Prod.mk.inj hs2
      refine rH14aP1 ?_
      repeat' (first | (fail_if_success (with_reducible refine xstp ?_)); first | ((with_reducible refine And.intro (fun (hb : _ = true) => ?_) (fun (hb : _ = false) => ?_)) <;> replace hb := xnC hb <;> (try first | exact xfC | exact bff hb (by assumption) | exact bff (by assumption) hb)) | (with_reducible refine Both.mk ?_ ?_) | ((with_reducible refine And.intro ?_ ?_); focus exact xoC) | ((with_reducible refine Or.inl ⟨?_, ?_, ?_⟩); (focus rfl); focus exact xaC) | ((with_reducible refine xwB ?_ ?_); focus exact xaC) | ((with_reducible refine xwC ?_ ?_); focus exact xaC) | ((with_reducible refine xwD ?_ ?_); focus exact xaC) | ((with_reducible refine xwE ?_ ?_); focus exact xaC) | (with_reducible intro hc; (try simp only [capsP, and_true] at hc); (try exact xfC)) | ((fail_if_success (with_reducible first | refine xgon ?_ | intro _)); (conv => whnf); (fail_if_success (fail_if_success (with_reducible first | refine xstp ?_ | refine Both.mk ?_ ?_ | refine xgon ?_ | intro _)))))
      have hnil : rcvP (-4611686018427387904) X.P = [] := by
        unfold rcvP
        rw [List.filter_eq_nil_iff]
        intro a ha h
        have := hr.c.nn a ha
        have : a.at_ ≤ -4611686018427387904 := by simpa using h
        omega
      have hself : rcvQ (-4611686018427387904) X.P = X.P := by
        unfold rcvQ
        rw [List.filter_eq_self]
        intro a ha
        have := hr.c.nn a ha
        have : ¬ a.at_ ≤ -4611686018427387904 := by omega
        simpa using this
      have hlen : ∀ u, (rcvP u X.P).length ≤ 65601 := fun u => Nat.le_trans (List.length_filter_le ..) hx.P
      refine LoopK.mk' {p : Nat × Int × Pg × Nt × Nat // p.1 ≤ Ti.length ∧ Rl p.2.2.1 p.2.2.2.1 ∧ XB p.2.2.2.1 ∧ p.2.2.2.1.P = rcvQ p.2.1 X.P}
        (fun ⟨(i, u, N', Y, c5), _⟩ => ⟨[(1, .c (.sl 2 0 1 0 Ti.length cT)), (5, .c (.p 3 0 0)), (7, .c (.p 7 0 0)), (10, .c .tt), (12, .c .tt), (13, .c (.sl 11 0 5 0 (rcvP u X.P).length c5)), (14, .c (.i .i64 u)), (15, .c (.i .i64 (i : Nat)))],
          [.one .no, .one .no, .one (timR Ti cT), .one (pgC2 N' c1 5 4), .one .no, .one (mapN 6 N'.M N'.D cs N'.ck), arrs N'.D cs, .one (pgC2 N2 c2 9 8), .one .no, .one (mapN 10 N2.M N2.D cs2 N2.ck), arrs N2.D cs2, .one (arvP (rcvP u X.P) c5)]⟩) (fun k => Ti.length - k.1.1)
        ⟨⟨(0, -4611686018427387904, N, X, 0), Nat.zero_le _, hr, hx, hself.symm⟩, [0, 1, 2, 4, 5, 12, 13, 8, 9, 15, 16, 99], ?_⟩ ?_
      · (repeat' first | refine And.intro ?_ ?_ | exact xeC | fail)
        all_goals first | (first | exact fun x => lsG_le | exact fun x => lsG_bel | exact fun x => lsG_belR) | (rw [hnil]; done) | (rw [hnil]; rfl) | (intro i hi; rw [hnil] at hi; exact absurd hi (Nat.not_lt_zero i)) | skip
      rintro ⟨⟨i, u, N', Y, c5⟩, hi, hrY, hxY, hY⟩
      simp only at hi hrY hxY hY
      have hlu := hlen u
      repeat' (first | (fail_if_success (with_reducible refine xstp ?_)); first | ((with_reducible refine And.intro (fun (hb : _ = true) => ?_) (fun (hb : _ = false) => ?_)) <;> replace hb := xnC hb <;> (try first | exact xfC | exact bff hb (by assumption) | exact bff (by assumption) hb)) | (with_reducible refine Both.mk ?_ ?_) | ((with_reducible refine And.intro ?_ ?_); focus exact xoC) | ((with_reducible refine Or.inl ⟨?_, ?_, ?_⟩); (focus rfl); focus exact xaC) | ((with_reducible refine xwB ?_ ?_); focus exact xaC) | ((with_reducible refine xwC ?_ ?_); focus exact xaC) | ((with_reducible refine xwD ?_ ?_); focus exact xaC) | ((with_reducible refine xwE ?_ ?_); focus exact xaC) | (with_reducible intro hc; (try simp only [capsP, and_true] at hc); (try exact xfC)) | ((fail_if_success (with_reducible first | refine xgon ?_ | intro _)); (conv => whnf); (fail_if_success (fail_if_success (with_reducible first | refine xstp ?_ | refine Both.mk ?_ ?_ | refine xgon ?_ | intro _)))))
      · have hlt : i < Ti.length := by omega
        have e1 : 0 + ((i : Nat) : Int).toNat = i := by omega
        rw [e1]
        obtain ⟨w, hw⟩ : ∃ w, w = max u (Ti.getD i default) := ⟨_, rfl⟩
        have huw : u ≤ w := by omega
        obtain ⟨t1, t2⟩ := rcv_two huw hr.c.srt
        have hlw := hlen w
        have htl : (rcvP u X.P).length + (rcvP w (rcvQ u X.P)).length = (rcvP w X.P).length := by rw [← t1, List.length_append]
        rw [← hw]
        refine cH14aP2 (σ := [.whole 3, .name 4, .whole 5, .whole 6]) (nl := []) (cRecv3 hrY hxY c1 cs w) ?_ (hle := by (repeat' first | refine And.intro ?_ ?_ | exact xeC | fail) <;> (first | exact fun x => lsG_le | exact fun x => lsG_bel | exact fun x => lsG_belR))
        have hYw : rcvP w Y.P = rcvP w (rcvQ u X.P) := by rw [hY]
        rw [hYw]
        rintro v h' ⟨N3, c6, hr3, hF3, rfl, rfl⟩ hcaps
        refine rH14aP1 ?_
        repeat' (first | (fail_if_success (with_reducible refine xstp ?_)); first | ((with_reducible refine And.intro (fun (hb : _ = true) => ?_) (fun (hb : _ = false) => ?_)) <;> replace hb := xnC hb <;> (try first | exact xfC | exact bff hb (by assumption) | exact bff (by assumption) hb)) | (with_reducible refine Both.mk ?_ ?_) | ((with_reducible refine And.intro ?_ ?_); focus exact xoC) | ((with_reducible refine Or.inl ⟨?_, ?_, ?_⟩); (focus rfl); focus exact xaC) | ((with_reducible refine xwB ?_ ?_); focus exact xaC) | ((with_reducible refine xwC ?_ ?_); focus exact xaC) | ((with_reducible refine xwD ?_ ?_); focus exact xaC) | ((with_reducible refine xwE ?_ ?_); focus exact xaC) | (with_reducible intro hc; (try simp only [capsP, and_true] at hc); (try exact xfC)) | ((fail_if_success (with_reducible first | refine xgon ?_ | intro _)); (conv => whnf); (fail_if_success (fail_if_success (with_reducible first | refine xstp ?_ | refine Both.mk ?_ ?_ | refine xgon ?_ | intro _)))))
        rename_i c7
        refine ⟨⟨(i + 1, w, N3, rcv Y w, c7), by simp only; omega, hr3, hxY.rcv w, by show rcvQ w Y.P = _; rw [hY, t2]⟩, [0, 1, 2, 3, 4, 5, 6, 7, 8, 9, 10, 13], by simp only; omega, ?_⟩
        simp only [← t1]
        (repeat' first | refine And.intro ?_ ?_ | exact xeC | fail)
        all_goals first
          | (first | exact fun x => lsG_le | exact fun x => lsG_bel | exact fun x => lsG_belR)
          | omega
          | exact Nat.le_of_eq (by simp)
          | (simp; done)
          | (intro q hq; exact app_rowL encA _ _ _ _ (fun q hq => by rw [Nat.zero_add]; rfl) q hq)
          | skip
      all_goals (
        refine cH14aP2 (σ := [.whole 7, .name 8, .whole 9, .whole 10]) (nl := []) (cRecv3 hr2 hx2 c2 cs2 u) ?_ (hle := by (repeat' first | refine And.intro ?_ ?_ | exact xeC | fail) <;> (first | exact fun x => lsG_le | exact fun x => lsG_bel | exact fun x => lsG_belR))
        rintro v h' ⟨N3, c6, hr3, hF3, rfl, rfl⟩ hcaps
        refine rH14aP1 ?_
        repeat' (first | (fail_if_success (with_reducible refine xstp ?_)); first | ((with_reducible refine And.intro (fun (hb : _ = true) => ?_) (fun (hb : _ = false) => ?_)) <;> replace hb := xnC hb <;> (try first | exact xfC | exact bff hb (by assumption) | exact bff (by assumption) hb)) | (with_reducible refine Both.mk ?_ ?_) | ((with_reducible refine And.intro ?_ ?_); focus exact xoC) | ((with_reducible refine Or.inl ⟨?_, ?_, ?_⟩); (focus rfl); focus exact xaC) | ((with_reducible refine xwB ?_ ?_); focus exact xaC) | ((with_reducible refine xwC ?_ ?_); focus exact xaC) | ((with_reducible refine xwD ?_ ?_); focus exact xaC) | ((with_reducible refine xwE ?_ ?_); focus exact xaC) | (with_reducible intro hc; (try simp only [capsP, and_true] at hc); (try exact xfC)) | ((fail_if_success (with_reducible first | refine xgon ?_ | intro _)); (conv => whnf); (fail_if_success (fail_if_success (with_reducible first | refine xstp ?_ | refine Both.mk ?_ ?_ | refine xgon ?_ | intro _)))))
        refine LoopK.mk' {j : Nat // j ≤ (rcvP u X.P).length}
          (fun ⟨j, _⟩ => ⟨[(13, .c (.sl 3 0 5 0 (rcvP u X.P).length c5)), (16, .c (.sl 4 0 5 0 (rcvP u X.P).length c6)), (17, .c (.i .i64 (j : Nat)))],
            [.one .no, .one .no, .one .no, .one (arvP (rcvP u X.P) c5), .one (arvP (rcvP u X.P) c6)]⟩) (fun k => (rcvP u X.P).length - k.1)
          ⟨⟨0, Nat.zero_le _⟩, [0, 1, 2, 11, 12], ?_⟩ ?_
        · (repeat' first | refine And.intro ?_ ?_ | exact xeC | fail)
        rintro ⟨j, hj⟩
        repeat' (first | (fail_if_success (with_reducible refine xstp ?_)); first | ((with_reducible refine And.intro (fun (hb : _ = true) => ?_) (fun (hb : _ = false) => ?_)) <;> replace hb := xnC hb <;> (try first | exact xfC | exact bff hb (by assumption) | exact bff (by assumption) hb)) | (with_reducible refine Both.mk ?_ ?_) | ((with_reducible refine And.intro ?_ ?_); focus exact xoC) | ((with_reducible refine Or.inl ⟨?_, ?_, ?_⟩); (focus rfl); focus exact xaC) | ((with_reducible refine xwB ?_ ?_); focus exact xaC) | ((with_reducible refine xwC ?_ ?_); focus exact xaC) | ((with_reducible refine xwD ?_ ?_); focus exact xaC) | ((with_reducible refine xwE ?_ ?_); focus exact xaC) | (with_reducible intro hc; (try simp only [capsP, and_true] at hc); (try exact xfC)) | ((fail_if_success (with_reducible first | refine xgon ?_ | intro _)); (conv => whnf); (fail_if_success (fail_if_success (with_reducible first | refine xstp ?_ | refine Both.mk ?_ ?_ | refine xgon ?_ | intro _)))))
        · refine ⟨⟨j + 1, by omega⟩, [0, 1, 2, 3, 4], by simp only; omega, ?_⟩
          (repeat' first | refine And.intro ?_ ?_ | exact xeC | fail)
        · skip
          refine cH14aP2 (σ := []) (nl := []) (cawake) ?_
          rintro v h' ⟨rfl, rfl⟩ hcaps
          refine rH14aP1 ?_
          repeat' (first | (fail_if_success (with_reducible refine xstp ?_)); first | ((with_reducible refine And.intro (fun (hb : _ = true) => ?_) (fun (hb : _ = false) => ?_)) <;> replace hb := xnC hb <;> (try first | exact xfC | exact bff hb (by assumption) | exact bff (by assumption) hb)) | (with_reducible refine Both.mk ?_ ?_) | ((with_reducible refine And.intro ?_ ?_); focus exact xoC) | ((with_reducible refine Or.inl ⟨?_, ?_, ?_⟩); (focus rfl); focus exact xaC) | ((with_reducible refine xwB ?_ ?_); focus exact xaC) | ((with_reducible refine xwC ?_ ?_); focus exact xaC) | ((with_reducible refine xwD ?_ ?_); focus exact xaC) | ((with_reducible refine xwE ?_ ?_); focus exact xaC) | (with_reducible intro hc; (try simp only [capsP, and_true] at hc); (try exact xfC)) | ((fail_if_success (with_reducible first | refine xgon ?_ | intro _)); (conv => whnf); (fail_if_success (fail_if_success (with_reducible first | refine xstp ?_ | refine Both.mk ?_ ?_ | refine xgon ?_ | intro _)))))
          refine FinK.mk ⟨[0, 1, 2], _, [.one .no, .one .no, .one .no], rfl, ?_⟩
          (repeat' first | refine And.intro ?_ ?_ | exact xeC | fail)
        skip)
end Go.Proofs.Ytnjakmpddghhjaa

namespace Go.Proofs.Ytnjakmpddghhjaa
open Go.X
set_option linter.unusedSimpArgs false
set_option linter.unusedVariables false
theorem insA_perm (P : List Arv) (a : Arv) : (insA P a).Perm (a :: P) := by
  unfold insA insI
  have h := List.perm_middle (a := a) (l₁ := P.take (posA P a)) (l₂ := P.drop (posA P a))
  rw [List.take_append_drop] at h
  exact h
def nw (time no fr to : Int) (d : ByteArray) (p : Arv) : Prop := p.no = no ∧ p.fr = fr ∧ p.to = to ∧ p.d = d ∧ time ≤ p.at_
theorem adds_perm {t fr to time : Int} : ∀ (F : List Flt) (P : List Arv) (a : Arv), (∀ f ∈ F, 0 ≤ f.ex) → ∃ E : List Arv, (adds t fr to time F P a).Perm (E ++ P) ∧ E.length = (frc F 3 t fr to).length ∧ ∀ p ∈ E, nw time a.no a.fr a.to a.d p
  | [], P, a, _ => ⟨[], List.Perm.refl _, rfl, fun p hp => absurd hp List.not_mem_nil⟩
  | f :: F, P, a, hx => by
    have hx' : ∀ g ∈ F, 0 ≤ g.ex := fun g hg => hx g (List.mem_cons_of_mem _ hg)
    have h0 := hx f (List.mem_cons_self ..)
    rw [adds, frc_cons]
    split
    · obtain ⟨E, e1, e2, e3⟩ := adds_perm (t := t) (fr := fr) (to := to) (time := time) F (insA P { a with cp := a.cp + 1, at_ := time + f.ex }) { a with cp := a.cp + 1, at_ := time + f.ex } hx'
      refine ⟨{ a with cp := a.cp + 1, at_ := time + f.ex } :: E, ?_, by simp [e2], fun p hp => ?_⟩
      · refine e1.trans (((insA_perm P _).append_left E).trans ?_)
        exact List.perm_middle
      · rcases List.mem_cons.1 hp with rfl | hp
        · exact ⟨rfl, rfl, rfl, rfl, by show time ≤ time + f.ex; omega⟩
        · exact e3 p hp
    · exact adds_perm F P a hx'
def cpF (F : List Flt) : Nat := 1 + (F.filter fun f => decide (f.kd = 3)).length
theorem frc_cp (F : List Flt) (t fr to : Int) : 1 + (frc F 3 t fr to).length ≤ cpF F := by
  have h : (frc F 3 t fr to).length ≤ (F.filter fun f => decide (f.kd = 3)).length := by
    unfold frc
    induction F with
    | nil => exact Nat.le_refl _
    | cons f F ih =>
      rw [List.filter_cons, List.filter_cons]
      by_cases h3 : f.kd = 3
      · rw [if_pos (show decide (f.kd = 3) = true from decide_eq_true h3)]
        split
        · simp only [List.length_cons]; omega
        · simp only [List.length_cons]; omega
      · rw [if_neg (show ¬ decide (f.kd = 3) = true by simpa using h3), if_neg (show ¬ decide (f.kd = 3 ∧ apl f t fr to) = true by simp [h3])]
        exact ih
  unfold cpF
  omega
theorem sndP_perm {X : Nt} (hx : XB X) {t fr to : Int} (d : ByteArray) : ∃ E : List Arv, (sndP X t fr to d).Perm (E ++ X.P) ∧ E.length ≤ cpF X.F ∧ ∀ p ∈ E, nw (t + X.lat) (X.cnt + 1) fr to d p := by
  unfold sndP
  rw [scn_eq]
  split
  · exact ⟨[], List.Perm.refl _, Nat.zero_le _, fun p hp => absurd hp List.not_mem_nil⟩
  · rename_i q hq
    split at hq
    · cases hq
    · obtain rfl := Option.some.inj hq
      have hex : ∀ f ∈ X.F, 0 ≤ f.ex := fun f hf => (hx.ex f hf).1
      have hs := sumX_ge (frc X.F 2 t fr to) (t + X.lat) (fun f hf => hex f (frc_mem hf))
      obtain ⟨E, e1, e2, e3⟩ := adds_perm (t := t) (fr := fr) (to := to) (time := sumX (frc X.F 2 t fr to) (t + X.lat)) X.F (insA X.P ⟨sumX (frc X.F 2 t fr to) (t + X.lat), fr, to, X.cnt + 1, 0, d⟩) ⟨sumX (frc X.F 2 t fr to) (t + X.lat), fr, to, X.cnt + 1, 0, d⟩ hex
      refine ⟨⟨sumX (frc X.F 2 t fr to) (t + X.lat), fr, to, X.cnt + 1, 0, d⟩ :: E, e1.trans (((insA_perm X.P _).append_left E).trans List.perm_middle), ?_, fun p hp => ?_⟩
      · have := frc_cp X.F t fr to
        simp only [List.length_cons]
        omega
      · rcases List.mem_cons.1 hp with rfl | hp
        · exact ⟨rfl, rfl, rfl, rfl, hs⟩
        · obtain ⟨q1, q2, q3, q4, q5⟩ := e3 p hp
          exact ⟨q1, q2, q3, q4, by omega⟩
/-- What a script's arrivals are. -/
structure CI (X : Nt) (L : List Arv) : Prop where
  cnt : X.cnt = L.length
  mem : ∀ a ∈ X.P, 1 ≤ a.no ∧ a.no ≤ L.length ∧ nw ((L.getD (a.no - 1).toNat default).at_ + X.lat) a.no (L.getD (a.no - 1).toNat default).fr (L.getD (a.no - 1).toNat default).to (L.getD (a.no - 1).toNat default).d a
  each : ∀ k : Int, (X.P.filter fun a => decide (a.no = k)).length ≤ cpF X.F
  all : X.P.length ≤ cpF X.F * L.length
  lat : ∀ a ∈ L, 0 ≤ a.at_ ∧ a.at_ ≤ 1099511627776
theorem CI.snd {X : Nt} {L : List Arv} (hx : XB X) (h : CI X L) {t fr to : Int} {d : ByteArray} (h0 : sndE X t fr to d = 0) : CI (Go.Proofs.Ytnjakmpddghhjaa.snd X t fr to d) (L ++ [⟨t, fr, to, X.cnt + 1, 0, d⟩]) := by
  have hS : Go.Proofs.Ytnjakmpddghhjaa.snd X t fr to d = { X with P := sndP X t fr to d, cnt := X.cnt + 1, last := t } := if_pos h0
  rw [hS]
  have hok : okS X t fr to := by
    by_cases hk : okS X t fr to
    · exact hk
    · unfold sndE at h0
      rw [if_pos hk] at h0
      cases h0
  obtain ⟨E, e1, e2, e3⟩ := sndP_perm hx (t := t) (fr := fr) (to := to) d
  have hc := h.cnt
  refine ⟨by show X.cnt + 1 = _; rw [List.length_append, List.length_singleton, hc]; push_cast; rfl, fun a ha => ?_, fun k => ?_, ?_, fun a ha => ?_⟩
  · show 1 ≤ a.no ∧ a.no ≤ _ ∧ nw (_ + X.lat) _ _ _ _ a
    rw [List.length_append, List.length_singleton]
    rcases List.mem_append.1 (e1.mem_iff.1 ha) with ha | ha
    · obtain ⟨q1, q2, q3, q4, q5⟩ := e3 a ha
      have hg : (L ++ [(⟨t, fr, to, X.cnt + 1, 0, d⟩ : Arv)]).getD (a.no - 1).toNat default = ⟨t, fr, to, X.cnt + 1, 0, d⟩ := by
        rw [getD_snoc (by simp; omega), if_pos (by omega)]
      rw [hg]
      exact ⟨by omega, by omega, rfl, q2, q3, q4, q5⟩
    · obtain ⟨m1, m2, m3⟩ := h.mem a ha
      rw [getD_snoc (by simp; omega), if_neg (by omega)]
      exact ⟨m1, by omega, m3⟩
  · show ((sndP X t fr to d).filter _).length ≤ cpF X.F
    rw [(e1.filter _).length_eq, List.filter_append, List.length_append]
    by_cases hk : k = X.cnt + 1
    · have h1 : X.P.filter (fun a => decide (a.no = k)) = [] := by
        rw [List.filter_eq_nil_iff]
        intro a ha h2
        have := (h.mem a ha).2.1
        have : a.no = k := by simpa using h2
        omega
      rw [h1, List.length_nil]
      have := List.length_filter_le (fun a : Arv => decide (a.no = k)) E
      omega
    · have h1 : E.filter (fun a => decide (a.no = k)) = [] := by
        rw [List.filter_eq_nil_iff]
        intro a ha h2
        have := (e3 a ha).1
        have : a.no = k := by simpa using h2
        omega
      rw [h1, List.length_nil, Nat.zero_add]
      exact h.each k
  · show (sndP X t fr to d).length ≤ cpF X.F * _
    rw [e1.length_eq, List.length_append, List.length_append, List.length_singleton, Nat.mul_add, Nat.mul_one]
    have := h.all
    omega
  · rcases List.mem_append.1 ha with ha | ha
    · exact h.lat a ha
    · rw [List.mem_singleton.1 ha]
      exact hok.2
theorem CI.sent : ∀ (O : List Opn) {X X' : Nt} {L L' : List Arv}, sentF O X L = (X', L') → XB X → CI X L → CI X' L' ∧ X'.F = X.F ∧ X'.lat = X.lat
  | [], X, X', L, L', h, _, hc => by
    rw [sentF] at h
    obtain ⟨rfl, rfl⟩ := Prod.mk.inj h
    exact ⟨hc, rfl, rfl⟩
  | o :: O, X, X', L, L', h, hx, hc => by
    rw [sentF] at h
    by_cases h0 : sndE X o.at_ o.fr o.to o.d = 0
    · rw [if_pos h0] at h
      have := CI.sent O h (hx.snd _ _ _ _) (hc.snd hx h0)
      obtain ⟨f1, f2, _⟩ := snd_F X o.at_ o.fr o.to o.d
      rw [f1, f2] at this
      exact this
    · rw [if_neg h0] at h
      exact CI.sent O h hx hc
def cntL (G : List Arv) (n i : Nat) : List Int := (List.range n).map fun (k : Nat) => (((G.take i).filter fun a => decide (a.no = (k : Int) + 1)).length : Int)
theorem cntL_len (G : List Arv) (n i : Nat) : (cntL G n i).length = n := by simp [cntL]
theorem cntL_at {G : List Arv} {n i k : Nat} (h : k < n) : (cntL G n i).getD k default = (((G.take i).filter fun a => decide (a.no = (k : Int) + 1)).length : Int) := by
  rw [getD_at (by rw [cntL_len]; exact h)]
  simp [cntL]
theorem rH14aQ0 {σ : List Sg} {H h' : List Fam} {v : T} {K : T → List Fam → Prop} {H' : List Fam} {v' : T} {N : Nat} (hk : K v' H') (hN : H.length = N := by (try simp only [↓List.length_cons, ↓List.length_nil, Nat.reduceAdd]) <;> rfl) (h : givesF σ N H σ h' = some H' := by (try simp (maxSteps := 1000000) only [givesF, setF, updF, Fam.zeroth, Fam.rk, Ck.rk, C.rk, E.rk, T.rk, key, List.map_cons, List.map_nil, List.cons_append, List.nil_append, List.length_cons, List.length_nil, Option.map_some, Option.bind_some, Nat.reduceAdd, Nat.zero_add, Nat.add_zero, Nat.add_sub_cancel_left, Int.toNat_natCast, reps, List.all_cons, List.all_nil, C.flat, List.append_eq, Bool.not_true, Bool.and_true, Bool.or_false, Bool.or_self, Bool.not_false, List.append_nil, Bool.and_self, ↓lsG_rk, encF]) <;> rfl) (hv : v.rk σ N = v' := by (try simp only [givesF, setF, updF, Fam.zeroth, Fam.rk, Ck.rk, C.rk, E.rk, T.rk, key, List.map_cons, List.map_nil, List.cons_append, List.nil_append, List.length_cons, List.length_nil, Option.map_some, Option.bind_some, Nat.reduceAdd, Nat.zero_add, Nat.add_zero, Nat.add_sub_cancel_left, Int.toNat_natCast, reps, List.all_cons, List.all_nil, C.flat, List.append_eq, Bool.not_true, Bool.and_true, Bool.or_false, Bool.or_self, Bool.not_false, List.append_nil, Bool.and_self, ↓lsG_rk, encF]) <;> rfl) : RetG σ H h' v K := ret_mk3 hN h hv hk
theorem rH14aQ1 {σ : List Sg} {H h' : List Fam} {v : T} {K : T → List Fam → Prop} {H' : List Fam} {v' : T} {N : Nat} (hk : K v' H') (hN : H.length = N := by (try simp only [↓List.length_cons, ↓List.length_nil, Nat.reduceAdd]) <;> rfl) (h : givesF σ N H σ h' = some H' := by (try simp (maxSteps := 1000000) only [givesF, setF, updF, Fam.zeroth, Fam.rk, Ck.rk, C.rk, E.rk, T.rk, key, List.map_cons, List.map_nil, List.cons_append, List.nil_append, List.length_cons, List.length_nil, Option.map_some, Option.bind_some, Nat.reduceAdd, Nat.zero_add, Nat.add_zero, Nat.add_sub_cancel_left, Int.toNat_natCast, reps, List.all_cons, List.all_nil, C.flat, List.append_eq, Bool.not_true, Bool.and_true, Bool.or_false, Bool.or_self, Bool.not_false, List.append_nil, Bool.and_self, ↓lsG_rk]) <;> rfl) (hv : v.rk σ N = v' := by (try simp only [givesF, setF, updF, Fam.zeroth, Fam.rk, Ck.rk, C.rk, E.rk, T.rk, key, List.map_cons, List.map_nil, List.cons_append, List.nil_append, List.length_cons, List.length_nil, Option.map_some, Option.bind_some, Nat.reduceAdd, Nat.zero_add, Nat.add_zero, Nat.add_sub_cancel_left, Int.toNat_natCast, reps, List.all_cons, List.all_nil, C.flat, List.append_eq, Bool.not_true, Bool.and_true, Bool.or_false, Bool.or_self, Bool.not_false, List.append_nil, Bool.and_self, ↓lsG_rk]) <;> rfl) : RetG σ H h' v K := ret_mk3 hN h hv hk
theorem cH14aQ2 {P : Program} {F : Nat} {args : List T} {H : List Fam} {K : T → List Fam → Prop} {σ : List Sg} {nl : List Fam} {args0 : List T} {h0 : List Fam} {Q : T → List Fam → Prop} {H2 H1 : List Fam} {N n : Nat} (hc : Ctr P F args0 h0 Q) (hk : ∀ v h', Q v h' → capsP h' → RetG σ H2 h' v K) (hap : apart σ = true := by rfl) (hnl : nl.all nilB = true := by rfl) (h1 : H ++ nl = H1 := by first | exact List.append_nil _ | ((try simp only [List.cons_append, List.nil_append]) <;> rfl)) (hN : H1.length = N := by (try simp only [↓List.length_cons, ↓List.length_nil, Nat.reduceAdd]) <;> rfl) (hn : H.length = n := by (try simp only [↓List.length_cons, ↓List.length_nil, Nat.reduceAdd]) <;> rfl) (hH : givesF σ N H1 σ h0 = some H2 := by (try simp (maxSteps := 1000000) only [givesF, setF, updF, Fam.zeroth, Fam.rk, Ck.rk, C.rk, E.rk, T.rk, key, List.map_cons, List.map_nil, List.cons_append, List.nil_append, List.length_cons, List.length_nil, Option.map_some, Option.bind_some, Nat.reduceAdd, Nat.zero_add, Nat.add_zero, Nat.add_sub_cancel_left, Int.toNat_natCast, reps, List.all_cons, List.all_nil, C.flat, List.append_eq, Bool.not_true, Bool.and_true, Bool.or_false, Bool.or_self, Bool.not_false, List.append_nil, Bool.and_self, ↓lsG_rk]) <;> rfl) (hle : leS n H1 σ N σ h0 (belsK N (h0.map (Fam.rk σ N)) (argsK n args (args0.map (T.rk σ N)) True)) := by repeat' first | refine And.intro ?_ ?_ | exact xeC | fail) : CallK P F args H K := CallK.mk3 hc hap hnl h1 hN hn hH hle hk
set_option maxRecDepth 20000 in
set_option maxHeartbeats 4000000 in
theorem cconserves (m lat : Int) (F : List Flt) (O : List Opn) (cF cO : Nat) (hF : F.length ≤ 9223372036854775807) (hO : O.length ≤ 9223372036854775807) :
    Ctr Try.prog 5 [.a (encSu m lat F.length cF O.length cO)] [.one (fltR false F cF), .one (opsR O cO)] fun v _ => v = .c .tt := by
  refine Ctr.mk' tbv mixed Try.func5 rfl rfl rfl (fun _ _ => by kernel_rfl) (by kernel_rfl) (by rfl) (by rfl) (by (repeat' first | refine And.intro ?_ ?_ | exact xeC | fail)) ?_
  repeat' (first | (fail_if_success (with_reducible refine xstp ?_)); first | ((with_reducible refine And.intro (fun (hb : _ = true) => ?_) (fun (hb : _ = false) => ?_)) <;> replace hb := xnC hb <;> (try first | exact xfC | exact bff hb (by assumption) | exact bff (by assumption) hb)) | (with_reducible refine Both.mk ?_ ?_) | ((with_reducible refine And.intro ?_ ?_); focus exact xoC) | ((with_reducible refine Or.inl ⟨?_, ?_, ?_⟩); (focus rfl); focus exact xaC) | ((with_reducible refine xwB ?_ ?_); focus exact xaC) | ((with_reducible refine xwC ?_ ?_); focus exact xaC) | ((with_reducible refine xwD ?_ ?_); focus exact xaC) | ((with_reducible refine xwE ?_ ?_); focus exact xaC) | (with_reducible intro hc; (try simp only [capsP, and_true] at hc); (try exact xfC)) | ((fail_if_success (with_reducible first | refine xgon ?_ | intro _)); (conv => whnf); (fail_if_success (fail_if_success (with_reducible first | refine xstp ?_ | refine Both.mk ?_ ?_ | refine xgon ?_ | intro _)))))
  refine cH14aQ2 (σ := [.whole 0]) (nl := []) (cNew m lat F cF false hF) ?_
  rintro v h' (⟨h1, rfl, rfl⟩ | ⟨h1, c1, rfl, rfl⟩) hcaps
  · refine rH14aQ0 ?_
    repeat' (first | (fail_if_success (with_reducible refine xstp ?_)); first | ((with_reducible refine And.intro (fun (hb : _ = true) => ?_) (fun (hb : _ = false) => ?_)) <;> replace hb := xnC hb <;> (try first | exact xfC | exact bff hb (by assumption) | exact bff (by assumption) hb)) | (with_reducible refine Both.mk ?_ ?_) | ((with_reducible refine And.intro ?_ ?_); focus exact xoC) | ((with_reducible refine Or.inl ⟨?_, ?_, ?_⟩); (focus rfl); focus exact xaC) | ((with_reducible refine xwB ?_ ?_); focus exact xaC) | ((with_reducible refine xwC ?_ ?_); focus exact xaC) | ((with_reducible refine xwD ?_ ?_); focus exact xaC) | ((with_reducible refine xwE ?_ ?_); focus exact xaC) | (with_reducible intro hc; (try simp only [capsP, and_true] at hc); (try exact xfC)) | ((fail_if_success (with_reducible first | refine xgon ?_ | intro _)); (conv => whnf); (fail_if_success (fail_if_success (with_reducible first | refine xstp ?_ | refine Both.mk ?_ ?_ | refine xgon ?_ | intro _)))))
    refine cH14aQ2 (σ := []) (nl := []) (cawake) ?_
    rintro v h' ⟨rfl, rfl⟩ hcaps
    refine rH14aQ1 ?_
    repeat' (first | (fail_if_success (with_reducible refine xstp ?_)); first | ((with_reducible refine And.intro (fun (hb : _ = true) => ?_) (fun (hb : _ = false) => ?_)) <;> replace hb := xnC hb <;> (try first | exact xfC | exact bff hb (by assumption) | exact bff (by assumption) hb)) | (with_reducible refine Both.mk ?_ ?_) | ((with_reducible refine And.intro ?_ ?_); focus exact xoC) | ((with_reducible refine Or.inl ⟨?_, ?_, ?_⟩); (focus rfl); focus exact xaC) | ((with_reducible refine xwB ?_ ?_); focus exact xaC) | ((with_reducible refine xwC ?_ ?_); focus exact xaC) | ((with_reducible refine xwD ?_ ?_); focus exact xaC) | ((with_reducible refine xwE ?_ ?_); focus exact xaC) | (with_reducible intro hc; (try simp only [capsP, and_true] at hc); (try exact xfC)) | ((fail_if_success (with_reducible first | refine xgon ?_ | intro _)); (conv => whnf); (fail_if_success (fail_if_success (with_reducible first | refine xstp ?_ | refine Both.mk ?_ ?_ | refine xgon ?_ | intro _)))))
    refine FinK.mk ⟨[0, 1], _, [.one .no, .one .no], rfl, ?_⟩
    (repeat' first | refine And.intro ?_ ?_ | exact xeC | fail)
  · refine rH14aQ0 ?_
    repeat' (first | (fail_if_success (with_reducible refine xstp ?_)); first | ((with_reducible refine And.intro (fun (hb : _ = true) => ?_) (fun (hb : _ = false) => ?_)) <;> replace hb := xnC hb <;> (try first | exact xfC | exact bff hb (by assumption) | exact bff (by assumption) hb)) | (with_reducible refine Both.mk ?_ ?_) | ((with_reducible refine And.intro ?_ ?_); focus exact xoC) | ((with_reducible refine Or.inl ⟨?_, ?_, ?_⟩); (focus rfl); focus exact xaC) | ((with_reducible refine xwB ?_ ?_); focus exact xaC) | ((with_reducible refine xwC ?_ ?_); focus exact xaC) | ((with_reducible refine xwD ?_ ?_); focus exact xaC) | ((with_reducible refine xwE ?_ ?_); focus exact xaC) | (with_reducible intro hc; (try simp only [capsP, and_true] at hc); (try exact xfC)) | ((fail_if_success (with_reducible first | refine xgon ?_ | intro _)); (conv => whnf); (fail_if_success (fail_if_success (with_reducible first | refine xstp ?_ | refine Both.mk ?_ ?_ | refine xgon ?_ | intro _)))))
    have hF64 := (newE_zero h1).2.1
    have hml := (newE_zero h1).1
    refine LoopK.mk' {i : Nat // i ≤ F.length}
      (fun ⟨i, _⟩ => ⟨[(1, .c (.p 2 0 0)), (3, .c (.p 3 0 0)), (5, .c (.i .i64 (cpF (F.take i) : Nat))), (6, .c (.i .i64 (i : Nat)))],
        [.one (fltR false F cF), .one (opsR O cO), .one (.cells true (encSu m lat F.length cF O.length cO)), .one (pgC2 (N0 m lat F) c1 5 4), .one (fltR true F c1), .one (mapN 6 (N0 m lat F).M (N0 m lat F).D (fun _ => 0) 0), arrs (N0 m lat F).D (fun _ => 0)]⟩) (fun k => F.length - k.1)
      ⟨⟨0, Nat.zero_le _⟩, [0, 1, 2, 3, 4, 5, 6], ?_⟩ ?_
    · (repeat' first | refine And.intro ?_ ?_ | exact xeC | fail)
      all_goals first | (first | exact fun x => lsG_le | exact fun x => lsG_bel | exact fun x => lsG_belR) | (intro i hi; exact absurd hi (Nat.not_lt_zero i)) | skip
    rintro ⟨i, hi⟩
    have hcp : (cpF (F.take i) : Nat) ≤ 65 := by
      have := List.length_filter_le (fun f : Flt => decide (f.kd = 3)) (F.take i)
      rw [List.length_take] at this
      unfold cpF
      omega
    repeat' (first | (fail_if_success (with_reducible refine xstp ?_)); first | ((with_reducible refine And.intro (fun (hb : _ = true) => ?_) (fun (hb : _ = false) => ?_)) <;> replace hb := xnC hb <;> (try first | exact xfC | exact bff hb (by assumption) | exact bff (by assumption) hb)) | (with_reducible refine Both.mk ?_ ?_) | ((with_reducible refine And.intro ?_ ?_); focus exact xoC) | ((with_reducible refine Or.inl ⟨?_, ?_, ?_⟩); (focus rfl); focus exact xaC) | ((with_reducible refine xwB ?_ ?_); focus exact xaC) | ((with_reducible refine xwC ?_ ?_); focus exact xaC) | ((with_reducible refine xwD ?_ ?_); focus exact xaC) | ((with_reducible refine xwE ?_ ?_); focus exact xaC) | (with_reducible intro hc; (try simp only [capsP, and_true] at hc); (try exact xfC)) | ((fail_if_success (with_reducible first | refine xgon ?_ | intro _)); (conv => whnf); (fail_if_success (fail_if_success (with_reducible first | refine xstp ?_ | refine Both.mk ?_ ?_ | refine xgon ?_ | intro _)))))
    · have hts := take_snocG F (show i < F.length by omega)
      refine ⟨⟨i + 1, by omega⟩, [0, 1, 2, 3, 4, 5, 6], by simp only; omega, ?_⟩
      have hq : cpF (F.take (i + 1)) = cpF (F.take i) + 1 := by
        unfold cpF
        rw [hts, filt_y (p := fun f : Flt => decide (f.kd = 3)) (decide_eq_true (by assumption)), List.length_append, List.length_singleton]
        omega
      (repeat' first | refine And.intro ?_ ?_ | exact xeC | fail)
      all_goals first | (first | exact fun x => lsG_le | exact fun x => lsG_bel | exact fun x => lsG_belR) | (rw [hq]; push_cast; omega) | skip
    · have hts := take_snocG F (show i < F.length by omega)
      refine ⟨⟨i + 1, by omega⟩, [0, 1, 2, 3, 4, 5, 6], by simp only; omega, ?_⟩
      have hq : cpF (F.take (i + 1)) = cpF (F.take i) := by
        unfold cpF
        rw [hts, filt_n (p := fun f : Flt => decide (f.kd = 3)) (decide_eq_false (by assumption))]
      (repeat' first | refine And.intro ?_ ?_ | exact xeC | fail)
      all_goals first | (first | exact fun x => lsG_le | exact fun x => lsG_bel | exact fun x => lsG_belR) | (rw [hq]; done) | skip
    obtain rfl : i = F.length := by omega
    rw [List.take_length] at hcp ⊢
    refine cH14aQ2 (σ := [.whole 3, .whole 4, .whole 5, .whole 6, .whole 1]) (nl := []) (csent (rl0 m lat F) (xb0 h1) rfl O c1 cO (fun _ => 0) hO) ?_ (hle := by (repeat' first | refine And.intro ?_ ?_ | exact xeC | fail) <;> (first | exact fun x => lsG_le | exact fun x => lsG_bel | exact fun x => lsG_belR))
    rintro v h' ⟨N, X, L, cs, c2, hs, hr, hx, hcn, hL2, rfl, rfl⟩ hcaps
    refine rH14aQ1 ?_
    repeat' (first | (fail_if_success (with_reducible refine xstp ?_)); first | ((with_reducible refine And.intro (fun (hb : _ = true) => ?_) (fun (hb : _ = false) => ?_)) <;> replace hb := xnC hb <;> (try first | exact xfC | exact bff hb (by assumption) | exact bff (by assumption) hb)) | (with_reducible refine Both.mk ?_ ?_) | ((with_reducible refine And.intro ?_ ?_); focus exact xoC) | ((with_reducible refine Or.inl ⟨?_, ?_, ?_⟩); (focus rfl); focus exact xaC) | ((with_reducible refine xwB ?_ ?_); focus exact xaC) | ((with_reducible refine xwC ?_ ?_); focus exact xaC) | ((with_reducible refine xwD ?_ ?_); focus exact xaC) | ((with_reducible refine xwE ?_ ?_); focus exact xaC) | (with_reducible intro hc; (try simp only [capsP, and_true] at hc); (try exact xfC)) | ((fail_if_success (with_reducible first | refine xgon ?_ | intro _)); (conv => whnf); (fail_if_success (fail_if_success (with_reducible first | refine xstp ?_ | refine Both.mk ?_ ?_ | refine xgon ?_ | intro _)))))
    obtain ⟨hC, hXF, hXl⟩ := CI.sent (O.take 200) hs (xb0 h1) ⟨rfl, fun a ha => absurd ha List.not_mem_nil, fun k => Nat.zero_le _, Nat.zero_le _, fun a ha => absurd ha List.not_mem_nil⟩
    have hXF' : X.F = F := hXF
    have hXl' : X.lat = lat := hXl
    obtain ⟨G, hG⟩ : ∃ G, G = rcvP 1152921504606846976 X.P := ⟨_, rfl⟩
    have hGm : ∀ a ∈ G, a ∈ X.P := fun a ha => by rw [hG] at ha; exact (List.mem_filter.1 ha).1
    have hGl : G.length ≤ X.P.length := by rw [hG]; exact List.length_filter_le ..
    have hGs : srtA G := by rw [hG]; exact srtA_filter hr.c.srt _
    have hall := hC.all
    rw [hXF'] at hall
    have hmul : cpF F * L.length ≤ 13000 := Nat.le_trans (Nat.mul_le_mul hcp hL2) (by decide)
    have hmul2 : ((cpF F : Nat) : Int) * (L.length : Nat) = ((cpF F * L.length : Nat) : Int) := by push_cast; rfl
    refine cH14aQ2 (σ := [.whole 3, .name 4, .whole 7, .whole 8]) (nl := []) (cRecv3 hr hx c1 cs 1152921504606846976) ?_ (hle := by (repeat' first | refine And.intro ?_ ?_ | exact xeC | fail) <;> (first | exact fun x => lsG_le | exact fun x => lsG_bel | exact fun x => lsG_belR))
    rw [← hG]
    rintro v h' ⟨N', c3, hr', hF', rfl, rfl⟩ hcaps
    refine rH14aQ1 ?_
    repeat' (first | (fail_if_success (with_reducible refine xstp ?_)); first | ((with_reducible refine And.intro (fun (hb : _ = true) => ?_) (fun (hb : _ = false) => ?_)) <;> replace hb := xnC hb <;> (try first | exact xfC | exact bff hb (by assumption) | exact bff (by assumption) hb)) | (with_reducible refine Both.mk ?_ ?_) | ((with_reducible refine And.intro ?_ ?_); focus exact xoC) | ((with_reducible refine Or.inl ⟨?_, ?_, ?_⟩); (focus rfl); focus exact xaC) | ((with_reducible refine xwB ?_ ?_); focus exact xaC) | ((with_reducible refine xwC ?_ ?_); focus exact xaC) | ((with_reducible refine xwD ?_ ?_); focus exact xaC) | ((with_reducible refine xwE ?_ ?_); focus exact xaC) | (with_reducible intro hc; (try simp only [capsP, and_true] at hc); (try exact xfC)) | ((fail_if_success (with_reducible first | refine xgon ?_ | intro _)); (conv => whnf); (fail_if_success (fail_if_success (with_reducible first | refine xstp ?_ | refine Both.mk ?_ ?_ | refine xgon ?_ | intro _)))))
    have hcl : ∀ i, (cntL G L.length i).length = L.length := fun i => cntL_len G L.length i
    refine LoopK.mk' {i : Nat // i ≤ G.length}
      (fun ⟨i, _⟩ => ⟨[(1, .c (.p 2 0 0)), (5, .c (.i .i64 (cpF F : Nat))), (7, .c (.sl 3 0 5 0 L.length c2)), (9, .c (.sl 4 0 5 0 G.length c3)), (10, .c (.sl 5 0 1 0 L.length L.length)), (11, .c (.i .i64 (i : Nat)))],
        [.one .no, .one .no, .one (.cells true (encSu m lat F.length cF O.length cO)), .one (arvP L c2), .one (arvP G c3), .one (.row true false 3 1 L.length L.length (rowOf Go.X.encI (cntL G L.length i)))]⟩) (fun k => G.length - k.1)
      ⟨⟨0, Nat.zero_le _⟩, [0, 1, 2, 9, 10, 11], ?_⟩ ?_
    · (repeat' first | refine And.intro ?_ ?_ | exact xeC | fail)
      all_goals first
        | (simp; done)
        | (intro q hq
           rw [rowOf, cntL_at hq]
           rfl)
        | skip
    rintro ⟨i, hi⟩
    have hg : i < G.length → (1 ≤ (G.getD i default).no ∧ (G.getD i default).no ≤ L.length) ∧ nw ((L.getD ((G.getD i default).no - 1).toNat default).at_ + lat) (G.getD i default).no (L.getD ((G.getD i default).no - 1).toNat default).fr (L.getD ((G.getD i default).no - 1).toNat default).to (L.getD ((G.getD i default).no - 1).toNat default).d (G.getD i default) := fun h => by
      have := hC.mem (G.getD i default) (hGm _ (by rw [getD_at h]; exact List.getElem_mem _))
      rw [hXl'] at this
      exact ⟨⟨this.1, this.2.1⟩, this.2.2⟩
    have hgs : i < G.length → 0 < i → (G.getD (((i : Nat) : Int) - 1).toNat default).at_ ≤ (G.getD i default).at_ := fun h h0 => by
      have := List.pairwise_iff_getElem.1 hGs (i - 1) i (by omega) h (by omega)
      rw [← getD_at, ← getD_at] at this
      rw [show (((i : Nat) : Int) - 1).toNat = i - 1 by omega]
      exact this
    by_cases hlt : i < G.length
    · obtain ⟨⟨g1, g2⟩, g3, g4, g5, g6, g7⟩ := hg hlt
      have hgs := hgs hlt
      obtain ⟨k, hk⟩ : ∃ k, k = ((G.getD i default).no - 1).toNat := ⟨_, rfl⟩
      have hkl : k < L.length := by omega
      have hct := cntL_at (G := G) (i := i) hkl
      have hLb := hC.lat (L.getD k default) (by rw [getD_at hkl]; exact List.getElem_mem _)
      have hLb' := hLb
      rw [hk] at hLb'
      have hki : (((k : Nat) : Int) + 1) = (G.getD i default).no := by omega
      have hts := take_snocG G hlt
      have hc1 : ((G.take (i + 1)).filter fun a => decide (a.no = (k : Int) + 1)).length = ((G.take i).filter fun a => decide (a.no = (k : Int) + 1)).length + 1 := by
        rw [hts, filt_y (p := fun a : Arv => decide (a.no = (k : Int) + 1)) (decide_eq_true hki.symm), List.length_append, List.length_singleton]
      have hc2 : ((G.take (i + 1)).filter fun a => decide (a.no = (k : Int) + 1)).length ≤ cpF F := by
        have q1 := ((List.take_sublist (i + 1) G).filter fun a => decide (a.no = (k : Int) + 1)).length_le
        have q2 : (G.filter fun a => decide (a.no = (k : Int) + 1)).length ≤ (X.P.filter fun a => decide (a.no = (k : Int) + 1)).length := by
          rw [hG]
          exact ((List.filter_sublist (l := X.P)).filter _).length_le
        have q3 := hC.each ((k : Int) + 1)
        rw [hXF'] at q3
        omega
      have hcv : (cntL G L.length i).getD k default + 1 ≤ (cpF F : Nat) := by rw [hct]; omega
      have hnx : ∀ q, q < L.length → (if q = k then [C.i .i64 ((cntL G L.length i).getD k default + 1)] else rowOf Go.X.encI (cntL G L.length i) q) = rowOf Go.X.encI (cntL G L.length (i + 1)) q := fun q hq => by
        unfold rowOf Go.X.encI
        by_cases hqk : q = k
        · rw [if_pos hqk, hqk, hct, cntL_at hkl, hc1]
          push_cast
          rfl
        · rw [if_neg hqk, cntL_at hq, cntL_at hq, hts, filt_n (p := fun a : Arv => decide (a.no = (q : Int) + 1)) (decide_eq_false (by omega))]
      have e1 : 0 + ((i : Nat) : Int).toNat = i := by omega
      repeat' (first | (fail_if_success (with_reducible refine xstp ?_)); first | ((with_reducible refine And.intro (fun (hb : _ = true) => ?_) (fun (hb : _ = false) => ?_)) <;> replace hb := xnC hb <;> (try first | exact xfC | exact bff hb (by assumption) | exact bff (by assumption) hb)) | (with_reducible refine Both.mk ?_ ?_) | ((with_reducible refine And.intro ?_ ?_); focus exact xoC) | ((with_reducible refine Or.inl ⟨?_, ?_, ?_⟩); (focus rfl); focus exact xaC) | ((with_reducible refine xwB ?_ ?_); focus exact xaC) | ((with_reducible refine xwC ?_ ?_); focus exact xaC) | ((with_reducible refine xwD ?_ ?_); focus exact xaC) | ((with_reducible refine xwE ?_ ?_); focus exact xaC) | (with_reducible intro hc; (try simp only [capsP, and_true] at hc); (try exact xfC)) | ((fail_if_success (with_reducible first | refine xgon ?_ | intro _)); (conv => whnf); (fail_if_success (fail_if_success (with_reducible first | refine xstp ?_ | refine Both.mk ?_ ?_ | refine xgon ?_ | intro _)))))
      all_goals (
        rw [e1, Nat.zero_add, ← hk]
        repeat' (first | (fail_if_success (with_reducible refine xstp ?_)); first | ((with_reducible refine And.intro (fun (hb : _ = true) => ?_) (fun (hb : _ = false) => ?_)) <;> replace hb := xnC hb <;> (try first | exact xfC | exact bff hb (by assumption) | exact bff (by assumption) hb)) | (with_reducible refine Both.mk ?_ ?_) | ((with_reducible refine And.intro ?_ ?_); focus exact xoC) | ((with_reducible refine Or.inl ⟨?_, ?_, ?_⟩); (focus rfl); focus exact xaC) | ((with_reducible refine xwB ?_ ?_); focus exact xaC) | ((with_reducible refine xwC ?_ ?_); focus exact xaC) | ((with_reducible refine xwD ?_ ?_); focus exact xaC) | ((with_reducible refine xwE ?_ ?_); focus exact xaC) | (with_reducible intro hc; (try simp only [capsP, and_true] at hc); (try exact xfC)) | ((fail_if_success (with_reducible first | refine xgon ?_ | intro _)); (conv => whnf); (fail_if_success (fail_if_success (with_reducible first | refine xstp ?_ | refine Both.mk ?_ ?_ | refine xgon ?_ | intro _)))))
        all_goals try (
          exfalso
          first
            | exact hb g4
            | exact hb g5
            | exact hb g6
            | omega
          done)
        all_goals (
          show nth (if _ then _ else _) _ _
          rw [if_pos rfl]
          repeat' (first | (fail_if_success (with_reducible refine xstp ?_)); first | ((with_reducible refine And.intro (fun (hb : _ = true) => ?_) (fun (hb : _ = false) => ?_)) <;> replace hb := xnC hb <;> (try first | exact xfC | exact bff hb (by assumption) | exact bff (by assumption) hb)) | (with_reducible refine Both.mk ?_ ?_) | ((with_reducible refine And.intro ?_ ?_); focus exact xoC) | ((with_reducible refine Or.inl ⟨?_, ?_, ?_⟩); (focus rfl); focus exact xaC) | ((with_reducible refine xwB ?_ ?_); focus exact xaC) | ((with_reducible refine xwC ?_ ?_); focus exact xaC) | ((with_reducible refine xwD ?_ ?_); focus exact xaC) | ((with_reducible refine xwE ?_ ?_); focus exact xaC) | (with_reducible intro hc; (try simp only [capsP, and_true] at hc); (try exact xfC)) | ((fail_if_success (with_reducible first | refine xgon ?_ | intro _)); (conv => whnf); (fail_if_success (fail_if_success (with_reducible first | refine xstp ?_ | refine Both.mk ?_ ?_ | refine xgon ?_ | intro _)))))
          refine ⟨⟨i + 1, by omega⟩, [0, 1, 2, 3, 4, 5], by simp only; omega, ?_⟩
          (repeat' first | refine And.intro ?_ ?_ | exact xeC | fail)
          all_goals first
            | exact hnx
            | (rw [Nat.zero_add, ← hk]; exact hnx)
            | (intro q hq; rw [Nat.zero_add, ← hk]; exact hnx q hq)
            | skip))
    · skip
      repeat' (first | (fail_if_success (with_reducible refine xstp ?_)); first | ((with_reducible refine And.intro (fun (hb : _ = true) => ?_) (fun (hb : _ = false) => ?_)) <;> replace hb := xnC hb <;> (try first | exact xfC | exact bff hb (by assumption) | exact bff (by assumption) hb)) | (with_reducible refine Both.mk ?_ ?_) | ((with_reducible refine And.intro ?_ ?_); focus exact xoC) | ((with_reducible refine Or.inl ⟨?_, ?_, ?_⟩); (focus rfl); focus exact xaC) | ((with_reducible refine xwB ?_ ?_); focus exact xaC) | ((with_reducible refine xwC ?_ ?_); focus exact xaC) | ((with_reducible refine xwD ?_ ?_); focus exact xaC) | ((with_reducible refine xwE ?_ ?_); focus exact xaC) | (with_reducible intro hc; (try simp only [capsP, and_true] at hc); (try exact xfC)) | ((fail_if_success (with_reducible first | refine xgon ?_ | intro _)); (conv => whnf); (fail_if_success (fail_if_success (with_reducible first | refine xstp ?_ | refine Both.mk ?_ ?_ | refine xgon ?_ | intro _)))))
      refine cH14aQ2 (σ := []) (nl := []) (cawake) ?_
      rintro v h' ⟨rfl, rfl⟩ hcaps
      refine rH14aQ1 ?_
      repeat' (first | (fail_if_success (with_reducible refine xstp ?_)); first | ((with_reducible refine And.intro (fun (hb : _ = true) => ?_) (fun (hb : _ = false) => ?_)) <;> replace hb := xnC hb <;> (try first | exact xfC | exact bff hb (by assumption) | exact bff (by assumption) hb)) | (with_reducible refine Both.mk ?_ ?_) | ((with_reducible refine And.intro ?_ ?_); focus exact xoC) | ((with_reducible refine Or.inl ⟨?_, ?_, ?_⟩); (focus rfl); focus exact xaC) | ((with_reducible refine xwB ?_ ?_); focus exact xaC) | ((with_reducible refine xwC ?_ ?_); focus exact xaC) | ((with_reducible refine xwD ?_ ?_); focus exact xaC) | ((with_reducible refine xwE ?_ ?_); focus exact xaC) | (with_reducible intro hc; (try simp only [capsP, and_true] at hc); (try exact xfC)) | ((fail_if_success (with_reducible first | refine xgon ?_ | intro _)); (conv => whnf); (fail_if_success (fail_if_success (with_reducible first | refine xstp ?_ | refine Both.mk ?_ ?_ | refine xgon ?_ | intro _)))))
      refine FinK.mk ⟨[0, 1], _, [.one .no, .one .no], rfl, ?_⟩
      (repeat' first | refine And.intro ?_ ?_ | exact xeC | fail)
end Go.Proofs.Ytnjakmpddghhjaa

namespace Go.Proofs.Ytnjakmpddghhjaa
open Go.X Go.RowKit
set_option linter.unusedVariables false
theorem three_read {β : Nm} {W : World} {ck ck' ck2 : Ck} (h : ck.holds β W (β 0 0)) (ho : ck.owned = false) (h' : ck'.holds β W (β 1 0)) (ho' : ck'.owned = false) (h2 : ck2.holds β W (β 2 0)) (ho2 : ck2.owned = false) : Fits β [.one ck, .one ck', .one ck2] W ∧ ∀ f x, (Go.X.get [.one ck, .one ck', .one ck2] f x).owned = false := by
  have hno := get_ones_own (h := [ck, ck', ck2]) (by
    intro q hq
    rcases List.mem_cons.1 hq with rfl | hq
    · exact ho
    · rcases List.mem_cons.1 hq with rfl | hq
      · exact ho'
      · rw [List.mem_singleton.1 hq]; exact ho2)
  exact ⟨fits_read (get_ones (h := [ck, ck', ck2]) (fun f q hf => by
    match f, hf with
    | 0, hf => cases hf; exact h
    | 1, hf => cases hf; exact h'
    | 2, hf => cases hf; exact h2
    | f + 3, hf => simp at hf)) hno, hno⟩
def nmT (B : Nat → Nat × Nat × Fl) (A : Nat × Nat × Fl) : Nm := fun f _ => if f = 0 then B 2 else if f = 1 then B 3 else if f = 2 then A else B (f - 100)
theorem nmT_at (B : Nat → Nat × Nat × Fl) (A : Nat × Nat × Fl) (y : Nat) : nmT B A (fS y) 0 = B y := by
  unfold nmT fS
  by_cases h : y = 2
  · rw [if_pos h, if_pos rfl, h]
  · by_cases h' : y = 3
    · rw [if_neg h, if_pos h', if_neg (by omega), if_pos rfl, h']
    · rw [if_neg h, if_neg h', if_neg (by omega), if_neg (by omega), if_neg (by omega), Nat.add_sub_cancel]
theorem setup_view3 {W : World} {vs : Array Value} (k : VKs W kSu (Value.agg vs).cells.toList) :
    ∃ (β : Nat × Nat × Fl → Nm) (m lat : Int) (F : List Flt) (O : List Opn) (cF cO : Nat), (∀ A, β A 2 0 = A) ∧ (∀ A, renL (β A) (encSu m lat F.length cF O.length cO) = vs) ∧ (∀ A, (fltR false F cF).holds (β A) W (β A 0 0)) ∧ (∀ A, (opsR O cO).holds (β A) W (β A 1 0)) ∧ F.length ≤ maxLen ∧ O.length ≤ maxLen := by
  obtain ⟨B, D, hD, hr, _⟩ := cells_view 0 (ks := kSu) (by rfl) k
  obtain ⟨m, _, rfl, _, h1⟩ := FD_i hD
  obtain ⟨lat, _, rfl, _, h2⟩ := FD_i h1
  obtain ⟨nF, cF, RF, _, rfl, _, hnF, hhF, hgF, h3⟩ := FD_n h2
  obtain ⟨nO, cO, RO, _, rfl, _, hnO, hhO, hgO, h4⟩ := FD_n h3
  obtain rfl := FD_nil h4
  obtain ⟨F, hlF, hgeF, _⟩ := list_of encF (Pr := fun _ => True) (fun i hi => ft_Fl (hgF i hi))
  obtain ⟨O, hlO, hgeO, hpO⟩ := list_of encO (Pr := fun x => 0 ≤ x.kd ∧ x.kd ≤ 255) (fun i hi => ft_Op (hgO i hi))
  subst hlF
  subst hlO
  refine ⟨nmT B, m, lat, F, O, cF, cO, fun A => rfl, fun A => ?_, fun A => holds_row_congr (hhF _ _) hgeF, fun A => holds_row_congr (hhO _ _) hgeO, hnF, hnO⟩
  have hr1 := hr (nmT B A) fS 0 (fun y _ _ => nmT_at B A y)
  unfold renL
  have h2 : (Value.agg vs).cells.toList = vs.toList := rfl
  rw [h2] at hr1
  exact (congrArg List.toArray hr1).trans (by simp)
theorem ft_In {l : List C} (h : FT [.i .i64] l) : ∃ x : Int, l = Go.X.encI x ∧ True := by
  obtain ⟨a, _, rfl, _, h1⟩ := FT_i h
  obtain rfl := FT_nil h1
  exact ⟨a, rfl, trivial⟩
theorem walk_NetworkConserves (W : World) (vs : Array Value) (k0 : VKs W kSu (Value.agg vs).cells.toList) :
    Calls Try.prog 5 #[.agg vs] W fun e W' => e = .returned (.bool true) ∧ Below W.heap.size W W' := by
  obtain ⟨β, m, lat, F, O, cF, cO, hv, hF, hO, hnF, hnO, hp⟩ := setup_view k0
  have hm : maxLen ≤ 9223372036854775807 := by unfold maxLen; omega
  obtain ⟨hf, hno⟩ := two_read (hF 0) rfl (hO 0) rfl
  have := glue (cconserves m lat F O cF cO (by omega) (by omega)) hf hno
  simp only [List.map_cons, List.map_nil, T.ren, hv] at this
  exact this
theorem walk_NetworkStages (W : World) (vs : Array Value) (k0 : VKs W kSu (Value.agg vs).cells.toList) (v1 : Value) (k1 : VK W (.sl [.i .i64]) v1) (e1 : ∀ a n c, v1 = .slice (some a) n c → a.spot = none) :
    Calls Try.prog 6 #[.agg vs, v1] W fun e W' => e = .returned (.bool true) ∧ Below W.heap.size W W' := by
  obtain ⟨β, m, lat, F, O, cF, cO, hβ, hv, hF, hO, hnF, hnO⟩ := setup_view3 k0
  obtain ⟨A, n, c, g, hv1, hh, hn, hc, hnc, hg⟩ := row_view (by rfl) k1 e1
  obtain ⟨l, hl, hge, _⟩ := list_of Go.X.encI (Pr := fun _ => True) (fun i hi => ft_In (hg i hi))
  subst hl
  have hm : maxLen ≤ 9223372036854775807 := by unfold maxLen; omega
  have h2 : (timR l c).holds (β A) W (β A 2 0) := by rw [hβ]; exact holds_row_congr (hh _ _) hge
  obtain ⟨hf, hno⟩ := three_read (hF A) rfl (hO A) rfl h2 rfl
  have hv' : C.ren (β A) (C.sl 2 0 1 0 l.length c) = v1 := hv1 (β A) 2 0 (hβ A)
  have := glue (cstages m lat F O l cF cO c (by omega) (by omega) (by omega)) hf hno
  simp only [List.map_cons, List.map_nil, T.ren, hv A, hv'] at this
  exact this
end Go.Proofs.Ytnjakmpddghhjaa
