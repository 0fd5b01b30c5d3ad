/- Part 6 of the texts that a walk of this program rests on: an abstract machine, its soundness, contracts of functions. No statement of the seat is proved in this file. -/
import Derived.Test.YtenompgpjlbelaaGreatDoorQ5
namespace Go.Proofs.YtenompgpjlbelaaGreatDoor
open Go.X
set_option linter.unusedSimpArgs false
set_option linter.unusedVariables false
open P4
open P5
theorem encCh_rkA (X : List Ch) (i : Nat) : List.map (C.rk [Sg.whole 2, Sg.whole 3, Sg.whole 4] 6) (encCh 4 X i) = encCh 7 X i := rfl
theorem encCh_rkB (X : List Ch) (i : Nat) : List.map (C.rk [Sg.whole 2, Sg.whole 3, Sg.whole 4] 7) (encCh 4 X i) = encCh 8 X i := rfl
theorem rH42zlS0 {σ : List Sg} {H h' : List Fam} {v : T} {K : T → List Fam → Prop} {H' : List Fam} {v' : T} {N : Nat} (hk : K v' H') (hN : H.length = N := by (try simp only [↓List.length_cons, ↓List.length_nil, Nat.reduceAdd]) <;> rfl) (h : givesF σ N H σ h' = some H' := by (try simp (maxSteps := 1000000) only [givesF, setF, updF, Fam.zeroth, Fam.rk, Ck.rk, C.rk, E.rk, T.rk, key, List.map_cons, List.map_nil, List.cons_append, List.nil_append, List.length_cons, List.length_nil, Option.map_some, Option.bind_some, Nat.reduceAdd, Nat.zero_add, Nat.add_zero, Nat.add_sub_cancel_left, Int.toNat_natCast, reps, List.all_cons, List.all_nil, C.flat, List.append_eq, Bool.not_true, Bool.and_true, Bool.or_false, Bool.or_self, Bool.not_false, List.append_nil, Bool.and_self, ↓chG_rk]) <;> rfl) (hv : v.rk σ N = v' := by (try simp only [givesF, setF, updF, Fam.zeroth, Fam.rk, Ck.rk, C.rk, E.rk, T.rk, key, List.map_cons, List.map_nil, List.cons_append, List.nil_append, List.length_cons, List.length_nil, Option.map_some, Option.bind_some, Nat.reduceAdd, Nat.zero_add, Nat.add_zero, Nat.add_sub_cancel_left, Int.toNat_natCast, reps, List.all_cons, List.all_nil, C.flat, List.append_eq, Bool.not_true, Bool.and_true, Bool.or_false, Bool.or_self, Bool.not_false, List.append_nil, Bool.and_self, ↓chG_rk]) <;> rfl) : RetG σ H h' v K := ret_mk3 hN h hv hk
theorem rH42zlS1 {σ : List Sg} {H h' : List Fam} {v : T} {K : T → List Fam → Prop} {H' : List Fam} {v' : T} {N : Nat} (hk : K v' H') (hN : H.length = N := by (try simp only [↓List.length_cons, ↓List.length_nil, Nat.reduceAdd]) <;> rfl) (h : givesF σ N H σ h' = some H' := by (try simp (maxSteps := 1000000) only [givesF, setF, updF, Fam.zeroth, Fam.rk, Ck.rk, C.rk, E.rk, T.rk, key, List.map_cons, List.map_nil, List.cons_append, List.nil_append, List.length_cons, List.length_nil, Option.map_some, Option.bind_some, Nat.reduceAdd, Nat.zero_add, Nat.add_zero, Nat.add_sub_cancel_left, Int.toNat_natCast, reps, List.all_cons, List.all_nil, C.flat, List.append_eq, Bool.not_true, Bool.and_true, Bool.or_false, Bool.or_self, Bool.not_false, List.append_nil, Bool.and_self, ↓chG_rk, encCh_rkA, encR]) <;> rfl) (hv : v.rk σ N = v' := by (try simp only [givesF, setF, updF, Fam.zeroth, Fam.rk, Ck.rk, C.rk, E.rk, T.rk, key, List.map_cons, List.map_nil, List.cons_append, List.nil_append, List.length_cons, List.length_nil, Option.map_some, Option.bind_some, Nat.reduceAdd, Nat.zero_add, Nat.add_zero, Nat.add_sub_cancel_left, Int.toNat_natCast, reps, List.all_cons, List.all_nil, C.flat, List.append_eq, Bool.not_true, Bool.and_true, Bool.or_false, Bool.or_self, Bool.not_false, List.append_nil, Bool.and_self, ↓chG_rk, encCh_rkA, encR]) <;> rfl) : RetG σ H h' v K := ret_mk3 hN h hv hk
theorem rH42zlS2 {σ : List Sg} {H h' : List Fam} {v : T} {K : T → List Fam → Prop} {H' : List Fam} {v' : T} {N : Nat} (hk : K v' H') (hN : H.length = N := by (try simp only [↓List.length_cons, ↓List.length_nil, Nat.reduceAdd]) <;> rfl) (h : givesF σ N H σ h' = some H' := by (try simp (maxSteps := 1000000) only [givesF, setF, updF, Fam.zeroth, Fam.rk, Ck.rk, C.rk, E.rk, T.rk, key, List.map_cons, List.map_nil, List.cons_append, List.nil_append, List.length_cons, List.length_nil, Option.map_some, Option.bind_some, Nat.reduceAdd, Nat.zero_add, Nat.add_zero, Nat.add_sub_cancel_left, Int.toNat_natCast, reps, List.all_cons, List.all_nil, C.flat, List.append_eq, Bool.not_true, Bool.and_true, Bool.or_false, Bool.or_self, Bool.not_false, List.append_nil, Bool.and_self, ↓chG_rk, encCh_rkB, encR]) <;> rfl) (hv : v.rk σ N = v' := by (try simp only [givesF, setF, updF, Fam.zeroth, Fam.rk, Ck.rk, C.rk, E.rk, T.rk, key, List.map_cons, List.map_nil, List.cons_append, List.nil_append, List.length_cons, List.length_nil, Option.map_some, Option.bind_some, Nat.reduceAdd, Nat.zero_add, Nat.add_zero, Nat.add_sub_cancel_left, Int.toNat_natCast, reps, List.all_cons, List.all_nil, C.flat, List.append_eq, Bool.not_true, Bool.and_true, Bool.or_false, Bool.or_self, Bool.not_false, List.append_nil, Bool.and_self, ↓chG_rk, encCh_rkB, encR]) <;> rfl) : RetG σ H h' v K := ret_mk3 hN h hv hk
theorem cH42zlS3 {P : Program} {F : Nat} {args : List T} {H : List Fam} {K : T → List Fam → Prop} {σ : List Sg} {nl : List Fam} {args0 : List T} {h0 : List Fam} {Q : T → List Fam → Prop} {H2 H1 : List Fam} {N n : Nat} (hc : Ctr P F args0 h0 Q) (hk : ∀ v h', Q v h' → capsP h' → RetG σ H2 h' v K) (hap : apart σ = true := by rfl) (hnl : nl.all nilB = true := by rfl) (h1 : H ++ nl = H1 := by first | exact List.append_nil _ | ((try simp only [List.cons_append, List.nil_append]) <;> rfl)) (hN : H1.length = N := by (try simp only [↓List.length_cons, ↓List.length_nil, Nat.reduceAdd]) <;> rfl) (hn : H.length = n := by (try simp only [↓List.length_cons, ↓List.length_nil, Nat.reduceAdd]) <;> rfl) (hH : givesF σ N H1 σ h0 = some H2 := by (try simp (maxSteps := 1000000) only [givesF, setF, updF, Fam.zeroth, Fam.rk, Ck.rk, C.rk, E.rk, T.rk, key, List.map_cons, List.map_nil, List.cons_append, List.nil_append, List.length_cons, List.length_nil, Option.map_some, Option.bind_some, Nat.reduceAdd, Nat.zero_add, Nat.add_zero, Nat.add_sub_cancel_left, Int.toNat_natCast, reps, List.all_cons, List.all_nil, C.flat, List.append_eq, Bool.not_true, Bool.and_true, Bool.or_false, Bool.or_self, Bool.not_false, List.append_nil, Bool.and_self, ↓chG_rk]) <;> rfl) (hle : leS n H1 σ N σ h0 (belsK N (h0.map (Fam.rk σ N)) (argsK n args (args0.map (T.rk σ N)) True)) := by repeat' first | refine And.intro ?_ ?_ | exact xeC | fail) : CallK P F args H K := CallK.mk3 hc hap hnl h1 hN hn hH hle hk
set_option maxRecDepth 10000 in
set_option maxHeartbeats 16000000 in
theorem crecord (n : Int) (m : Mc) (w : Bool) (l : List Rc) (c : Nat) (hst : m.st < 1009) (hct : m.ct ≤ 100000) (hl : fewL l) :
    Ctr Tryz.prog 11 [.c (.ifp 26 0 0 0), .c (.sl 1 0 3 0 l.length c), .c (.i .i64 n)] [.one (mch m), .one (rcR w l c)]
      fun v h => ∃ m', far n m l m'.ct ∧ v = .t [.c (.s (mkS (wtS n (recM m l)))), .c (.i .i64 (wtE n (recM m l) : Nat))] ∧ h = [.one (mch m'), .one (rcR w l c)] := by
  have hll := hl.1
  refine Ctr.mk' tbv mixed Tryz.func11 rfl rfl rfl (fun _ _ => by kernel_rfl) (by kernel_rfl) (by rfl) (by rfl) (by (repeat' first | refine And.intro ?_ ?_ | exact xeC | fail) <;> (exact xmC)) ?_
  repeat' (first | (fail_if_success (with_reducible refine xstp ?_)); first | (with_reducible intro hc; (try simp only [capsP, and_true] at hc); (try exact xfC)) | ((fail_if_success (with_reducible first | refine xgon ?_ | intro _)); (conv => whnf); (fail_if_success (fail_if_success (with_reducible first | refine xstp ?_ | refine xgon ?_ | intro _)))))
  refine cH42zlS3 (σ := []) (nl := []) (cNewW n) ?_
  rintro v h' hq hcaps
  rcases hq with ⟨hq, rfl, rfl⟩ | ⟨hn, rfl, rfl⟩
  · have h0 : wtE n (recM m l) = 4 := if_pos hq
    have h1 : wtS n (recM m l) = [] := by unfold wtS; rw [h0]; exact if_neg (by decide)
    rw [h0, h1]
    refine rH42zlS0 ?_
    repeat' (first | (fail_if_success (with_reducible refine xstp ?_)); first | ((with_reducible refine And.intro (fun (hb : _ = true) => ?_) (fun (hb : _ = false) => ?_)) <;> replace hb := xnC hb <;> (try first | exact xfC | exact bff hb (by assumption) | exact bff (by assumption) hb)) | ((fail_if_success (with_reducible first | refine xgon ?_ | intro _)); (conv => whnf); (fail_if_success (fail_if_success (with_reducible first | refine xstp ?_ | refine xgon ?_ | intro _)))))
    refine FinK.mk ⟨[0, 1], _, _, ⟨m, ⟨fun _ => rfl, fun q => ?_, fun q => absurd hq q⟩, rfl, rfl⟩, ?_⟩
    · rw [h0] at q; exact absurd q (by decide)
    · (repeat' first | refine And.intro ?_ ?_ | exact xeC | fail)
  have hb0 : ¬ badC n := by unfold badC; omega
  have hE : wtE n (recM m l) = wrtE (newW n) (recM m l) := if_neg hb0
  refine rH42zlS0 ?_
  repeat' (first | (fail_if_success (with_reducible refine xstp ?_)); first | ((with_reducible refine And.intro (fun (hb : _ = true) => ?_) (fun (hb : _ = false) => ?_)) <;> replace hb := xnC hb <;> (try first | exact xfC | exact bff hb (by assumption) | exact bff (by assumption) hb)) | ((fail_if_success (with_reducible first | refine xgon ?_ | intro _)); (conv => whnf); (fail_if_success (fail_if_success (with_reducible first | refine xstp ?_ | refine xgon ?_ | intro _)))))
  refine LoopK.mk' {p : Nat × List Ch × Nat // p.1 ≤ l.length ∧ wrtE (newW n) (recM m (l.take p.1)) = 0 ∧ p.2.1.map Ch.l = (wrA n (recM m (l.take p.1))).L}
    (fun ⟨(i, X, c1), _⟩ => ⟨[(0, .c (.ifp 26 0 0 0)), (8, .c (.p 2 0 0)), (26, .c (.sl 1 0 3 0 l.length c)), (27, .c (.i .i64 (l.length : Nat))), (28, .c (.i .i64 (i : Nat)))],
      [.one (mch (stL m (l.take i))), .one (rcR w l c), .one (wrC (wrA n (recM m (l.take i))) 3 X.length c1), .one (chR 4 X c1), .many (chG X)]⟩) (fun p => l.length - p.1.1)
    ⟨⟨(0, [], 0), Nat.zero_le _, rfl, rfl⟩, [0, 1, 2, 3, 4], ?_⟩ ?_
  · (repeat' first | refine And.intro ?_ ?_ | exact xeC | fail)
    all_goals first
      | (exact xmC)
      | skip
  rintro ⟨⟨i, X, c1⟩, hi, hz, hX⟩
  simp only at hi hz hX
  have e2 : 0 + ((i : Nat) : Int).toNat = i := by omega
  have hW := wrtE_WI n _ hz
  have hB0 : (recM m (l.take i)).length ≤ 3 * i := by
    have := recM_len m (l.take i)
    rw [List.length_take] at this
    omega
  have hxs := hW.xsA (by omega) hX
  have hMs : (stL m (l.take i)).st < 1009 := stL_st _ _ hst
  have hMc : (stL m (l.take i)).ct = m.ct + i := by rw [stL_ct, List.length_take]; omega
  rcases Nat.lt_or_ge i l.length with hlt | hge
  · obtain ⟨hp1, hp2⟩ := hl.2 i hlt
    have hts := take_snocG l hlt
    have hr := recM_snoc m (l.take i) (l.getD i default)
    have hs := stL_snoc m (l.take i) (l.getD i default)
    rw [← hts] at hr hs
    have z1 : (mkS (l.getD i default).tp).size = (l.getD i default).tp.length := rfl
    have hin : (⟨#[105, 110, 47]⟩ : ByteArray) ++ mkS (l.getD i default).tp = mkS (inT ++ (l.getD i default).tp) := mkS_append inT _
    repeat' (first | (fail_if_success (with_reducible refine xstp ?_)); first | ((with_reducible refine And.intro (fun (hb : _ = true) => ?_) (fun (hb : _ = false) => ?_)) <;> replace hb := xnC hb <;> (try first | exact xfC | exact bff hb (by assumption) | exact bff (by assumption) hb)) | ((with_reducible refine And.intro ?_ ?_); focus exact xoC) | (with_reducible intro hc; (try simp only [capsP, and_true] at hc); (try exact xfC)) | ((fail_if_success (with_reducible first | refine xgon ?_ | intro _)); (conv => whnf); (fail_if_success (fail_if_success (with_reducible first | refine xstp ?_ | refine xgon ?_ | intro _)))))
    rw [e2]
    refine ⟨?_, ?_⟩
    · rw [z1]
      show 3 + _ ≤ _
      omega
    repeat' (first | (fail_if_success (with_reducible refine xstp ?_)); first | ((fail_if_success (with_reducible first | refine xgon ?_ | intro _)); (conv => whnf); (fail_if_success (fail_if_success (with_reducible first | refine xstp ?_ | refine xgon ?_ | intro _)))))
    rw [hin]
    generalize hx : l.getD i default = x at *
    have hxl : (inT ++ x.tp).length ≤ 100 := by
      rw [List.length_append]
      show 3 + _ ≤ _
      omega
    refine cH42zlS3 (σ := [.whole 2, .whole 3, .whole 4]) (nl := []) (cAddW (wrA n (recM m (l.take i))) X c1 (recI x) hX (show (inT ++ x.tp).length ≤ _ by omega) (by omega) hxs.2.2.1 (by omega)) ?_ (hle := by (repeat' first | refine And.intro ?_ ?_ | exact xeC | fail) <;> (exact xmC))
    rintro v h' ⟨X1, c2, hX1, rfl, rfl⟩ hcaps
    refine rH42zlS1 ?_
    by_cases h0 : addE (wrA n (recM m (l.take i))) (recI x) = 0
    · have hz1 := wrtE_snoc0 hz h0
      have hru := wrA_snoc n (recM m (l.take i)) (recI x)
      rw [← hru] at hX1 ⊢
      rw [h0]
      repeat' (first | (fail_if_success (with_reducible refine xstp ?_)); first | ((with_reducible refine And.intro (fun (hb : _ = true) => ?_) (fun (hb : _ = false) => ?_)) <;> replace hb := xnC hb <;> (try first | exact xfC | exact bff hb (by assumption) | exact bff (by assumption) hb)) | ((fail_if_success (with_reducible first | refine xgon ?_ | intro _)); (conv => whnf); (fail_if_success (fail_if_success (with_reducible first | refine xstp ?_ | refine xgon ?_ | intro _)))))
      refine cH42zlS3 (σ := [.whole 0]) (nl := []) (crecorded (stL m (l.take i)) x hMs (by omega) (by omega) (by omega)) ?_
      have hY0 := out_len (stM (stL m (l.take i)) x)
      have hst1 : (stM (stL m (l.take i)) x).st < 1009 := Nat.mod_lt _ (by decide)
      have hmem : ∀ r ∈ (outM (stM (stL m (l.take i)) x)).map (recO x.at_), r.tp.length ≤ 20 := by
        intro r hr
        obtain ⟨y, hy, rfl⟩ := List.mem_map.1 hr
        have := (out_mem hy hst1).1
        show (ouT ++ y.1).length ≤ 20
        rw [List.length_append]
        show 4 + _ ≤ 20
        omega
      have hr1 : rec1 (stL m (l.take i)) x = recI x :: (outM (stM (stL m (l.take i)) x)).map (recO x.at_) := rfl
      rw [hr1] at hr
      rw [← hs] at hst1 hr hmem ⊢
      have hYl : ((outM (stL m (l.take (i + 1)))).map (recO x.at_)).length ≤ 2 := by rw [List.length_map, hs, hY0]; omega
      generalize (outM (stL m (l.take (i + 1)))).map (recO x.at_) = Y at *
      rintro v h' ⟨cy, rfl, rfl⟩ hcaps
      refine rH42zlS1 ?_
      repeat' (first | (fail_if_success (with_reducible refine xstp ?_)); first | ((fail_if_success (with_reducible first | refine xgon ?_ | intro _)); (conv => whnf); (fail_if_success (fail_if_success (with_reducible first | refine xstp ?_ | refine xgon ?_ | intro _)))))
      refine LoopK.mk' {p : Nat × List Ch × Nat // p.1 ≤ Y.length ∧ wrtE (newW n) (recM m (l.take i) ++ [recI x] ++ Y.take p.1) = 0 ∧ p.2.1.map Ch.l = (wrA n (recM m (l.take i) ++ [recI x] ++ Y.take p.1)).L}
        (fun ⟨(j, X, c1), _⟩ => ⟨[(0, .c (.ifp 26 0 0 0)), (8, .c (.p 2 0 0)), (26, .c (.sl 1 0 3 0 l.length c)), (27, .c (.i .i64 (l.length : Nat))), (28, .c (.i .i64 (i : Nat))), (47, .c (.sl 5 0 3 0 Y.length cy)), (48, .c (.i .i64 (Y.length : Nat))), (49, .c (.i .i64 (j : Nat)))],
          [.one (mch (stL m (l.take (i + 1)))), .one (rcR w l c), .one (wrC (wrA n (recM m (l.take i) ++ [recI x] ++ Y.take j)) 3 X.length c1), .one (chR 4 X c1), .many (chG X), .one (rcR true Y cy)]⟩) (fun p => Y.length - p.1.1)
        ⟨⟨(0, X1, c2), Nat.zero_le _, by simp only [List.take_zero, List.append_nil]; exact hz1, by simp only [List.take_zero, List.append_nil]; exact hX1⟩, [0, 1, 2, 6, 7, 8], ?_⟩ ?_
      · simp only [List.take_zero, List.append_nil]
        (repeat' first | refine And.intro ?_ ?_ | exact xeC | fail)
        all_goals first
          | (exact xmC)
          | skip
      rintro ⟨⟨j, X3, c3⟩, hj, hz3, hX3⟩
      simp only at hj hz3 hX3
      have f2 : 0 + ((j : Nat) : Int).toNat = j := by omega
      have hW3 := wrtE_WI n _ hz3
      have hxs3 := hW3.xsA (by rw [List.length_append, List.length_append, List.length_take]; show _ + 1 + _ ≤ _; omega) hX3
      rcases Nat.lt_or_ge j Y.length with hjt | hjg
      · have hYs := take_snocG Y hjt
        have hm1 := hmem (Y.getD j default) (mem_getD hjt)
        have hru3 := wrA_snoc n (recM m (l.take i) ++ [recI x] ++ Y.take j) (Y.getD j default)
        have hYd : Y = Y.take j ++ Y.getD j default :: Y.drop (j + 1) := by rw [← drop_consG Y hjt, List.take_append_drop]
        repeat' (first | (fail_if_success (with_reducible refine xstp ?_)); first | ((with_reducible refine And.intro (fun (hb : _ = true) => ?_) (fun (hb : _ = false) => ?_)) <;> replace hb := xnC hb <;> (try first | exact xfC | exact bff hb (by assumption) | exact bff (by assumption) hb)) | ((with_reducible refine And.intro ?_ ?_); focus exact xoC) | (with_reducible intro hc; (try simp only [capsP, and_true] at hc); (try exact xfC)) | ((fail_if_success (with_reducible first | refine xgon ?_ | intro _)); (conv => whnf); (fail_if_success (fail_if_success (with_reducible first | refine xstp ?_ | refine xgon ?_ | intro _)))))
        rw [f2]
        refine cH42zlS3 (σ := [.whole 2, .whole 3, .whole 4]) (nl := []) (cAddW (wrA n (recM m (l.take i) ++ [recI x] ++ Y.take j)) X3 c3 (Y.getD j default) hX3 (by omega) (by omega) hxs3.2.2.1 (by omega)) ?_ (hle := by (repeat' first | refine And.intro ?_ ?_ | exact xeC | fail) <;> (exact xmC))
        rintro v h' ⟨X4, c4, hX4, rfl, rfl⟩ hcaps
        refine rH42zlS2 ?_
        by_cases h4 : addE (wrA n (recM m (l.take i) ++ [recI x] ++ Y.take j)) (Y.getD j default) = 0
        · rw [h4]
          repeat' (first | (fail_if_success (with_reducible refine xstp ?_)); first | ((with_reducible refine And.intro (fun (hb : _ = true) => ?_) (fun (hb : _ = false) => ?_)) <;> replace hb := xnC hb <;> (try first | exact xfC | exact bff hb (by assumption) | exact bff (by assumption) hb)) | ((with_reducible refine OvK.fit ?_ ?_); focus exact xoC) | ((fail_if_success (with_reducible first | refine xgon ?_ | intro _)); (conv => whnf); (fail_if_success (fail_if_success (with_reducible first | refine xstp ?_ | refine xgon ?_ | intro _)))))
          refine ⟨⟨(j + 1, X4, c4), hjt, by simp only [hYs, ← List.append_assoc]; exact wrtE_snoc0 hz3 h4, by simp only [hYs, ← List.append_assoc]; rw [hru3]; exact hX4⟩, [0, 1, 2, 7, 8, 5], by simp only; omega, ?_⟩
          simp only [hYs, ← List.append_assoc, hru3]
          (repeat' first | refine And.intro ?_ ?_ | exact xeC | fail)
          all_goals first
            | (exact xmC)
            | skip
        · have hq4 : recM m (l.take (i + 1)) = recM m (l.take i) ++ [recI x] ++ Y.take j ++ Y.getD j default :: Y.drop (j + 1) := by
            rw [hr]
            conv => lhs; rw [hYd]
            simp only [List.append_assoc, List.cons_append, List.nil_append]
          obtain ⟨q1, q2, q3⟩ := fail_far (ct := m.ct + i + 1) (R1 := Y.drop (j + 1)) hb0 hlt hz hz3 hq4 h4 (.inr rfl)
          rw [q1, q2]
          generalize addE (wrA n (recM m (l.take i) ++ [recI x] ++ Y.take j)) (Y.getD j default) = e at *
          repeat' (first | (fail_if_success (with_reducible refine xstp ?_)); first | ((with_reducible refine And.intro (fun (hb : _ = true) => ?_) (fun (hb : _ = false) => ?_)) <;> replace hb := xnC hb <;> (try first | exact xfC | exact bff hb (by assumption) | exact bff (by assumption) hb)) | ((fail_if_success (with_reducible first | refine xgon ?_ | intro _)); (conv => whnf); (fail_if_success (fail_if_success (with_reducible first | refine xstp ?_ | refine xgon ?_ | intro _)))))
          refine FinK.mk ⟨[0, 1], _, _, ⟨stL m (l.take (i + 1)), ?_, rfl, rfl⟩, ?_⟩
          · rw [hs]
            show far n m l ((stL m (l.take i)).ct + 1)
            rw [hMc]
            exact q3
          · (repeat' first | refine And.intro ?_ ?_ | exact xeC | fail)
      · have hB : recM m (l.take i) ++ [recI x] ++ Y.take j = recM m (l.take (i + 1)) := by rw [hr, List.take_of_length_le hjg]; simp
        repeat' (first | (fail_if_success (with_reducible refine xstp ?_)); first | ((with_reducible refine And.intro (fun (hb : _ = true) => ?_) (fun (hb : _ = false) => ?_)) <;> replace hb := xnC hb <;> (try first | exact xfC | exact bff hb (by assumption) | exact bff (by assumption) hb)) | ((with_reducible refine OvK.fit ?_ ?_); focus exact xoC) | (with_reducible intro hc; (try simp only [capsP, and_true] at hc); (try exact xfC)) | ((fail_if_success (with_reducible first | refine xgon ?_ | intro _)); (conv => whnf); (fail_if_success (fail_if_success (with_reducible first | refine xstp ?_ | refine xgon ?_ | intro _)))))
        refine ⟨⟨(i + 1, X3, c3), hlt, by simp only; rw [← hB]; exact hz3, by simp only; rw [← hB]; exact hX3⟩, [0, 1, 2, 3, 4], by simp only; omega, ?_⟩
        simp only [hB]
        (repeat' first | refine And.intro ?_ ?_ | exact xeC | fail)
        all_goals first
          | (exact xmC)
          | skip
    · obtain ⟨q1, q2, q3⟩ := fail_far (ct := m.ct + i) (R1 := (outM (stM (stL m (l.take i)) x)).map (recO x.at_)) hb0 hlt hz hz hr h0 (.inl rfl)
      rw [q1, q2]
      generalize addE (wrA n (recM m (l.take i))) (recI x) = e at *
      repeat' (first | (fail_if_success (with_reducible refine xstp ?_)); first | ((with_reducible refine And.intro (fun (hb : _ = true) => ?_) (fun (hb : _ = false) => ?_)) <;> replace hb := xnC hb <;> (try first | exact xfC | exact bff hb (by assumption) | exact bff (by assumption) hb)) | ((fail_if_success (with_reducible first | refine xgon ?_ | intro _)); (conv => whnf); (fail_if_success (fail_if_success (with_reducible first | refine xstp ?_ | refine xgon ?_ | intro _)))))
      refine FinK.mk ⟨[0, 1], _, _, ⟨stL m (l.take i), ?_, rfl, rfl⟩, ?_⟩
      · rw [hMc]; exact q3
      · (repeat' first | refine And.intro ?_ ?_ | exact xeC | fail)
  · obtain rfl : i = l.length := by omega
    rw [List.take_length] at hz hMc
    have hmk : XOk X := ⟨by omega, fun x hx => by have := hxs.2.1 x hx; exact ⟨this.1, by omega, this.2.2⟩⟩
    have hcl := hW.cl
    have h0 : wtE n (recM m l) = 0 := by rw [hE, hz]
    have hS : wtS n (recM m l) = madeB n (recM m l) := if_pos h0
    repeat' (first | (fail_if_success (with_reducible refine xstp ?_)); first | ((with_reducible refine And.intro (fun (hb : _ = true) => ?_) (fun (hb : _ = false) => ?_)) <;> replace hb := xnC hb <;> (try first | exact xfC | exact bff hb (by assumption) | exact bff (by assumption) hb)) | (with_reducible intro hc; (try simp only [capsP, and_true] at hc); (try exact xfC)) | ((fail_if_success (with_reducible first | refine xgon ?_ | intro _)); (conv => whnf); (fail_if_success (fail_if_success (with_reducible first | refine xstp ?_ | refine xgon ?_ | intro _)))))
    refine cH42zlS3 (σ := [.whole 2, .whole 3, .whole 4]) (nl := []) (cCloseW (wrA n (recM m (l.take l.length))) X c1 hmk hX) ?_ (hle := by (repeat' first | refine And.intro ?_ ?_ | exact xeC | fail) <;> (exact xmC))
    rw [List.take_length] at hcl ⊢
    rw [if_neg (by rw [hcl]; decide), if_neg (by rw [hcl]; decide), h0, hS]
    rintro v h' ⟨rfl, rfl⟩ hcaps
    refine rH42zlS0 ?_
    repeat' (first | (fail_if_success (with_reducible refine xstp ?_)); first | ((fail_if_success (with_reducible first | refine xgon ?_ | intro _)); (conv => whnf); (fail_if_success (fail_if_success (with_reducible first | refine xstp ?_ | refine xgon ?_ | intro _)))))
    refine FinK.mk ⟨[0, 1], _, _, ⟨stL m l, ⟨fun q => absurd q hb0, fun _ => hMc, fun _ q => absurd h0 q⟩, rfl, rfl⟩, ?_⟩
    (repeat' first | refine And.intro ?_ ?_ | exact xeC | fail)
end Go.Proofs.YtenompgpjlbelaaGreatDoor


namespace Go.Proofs.YtenompgpjlbelaaGreatDoor
open Go.X
set_option linter.unusedSimpArgs false
set_option linter.unusedVariables false
open P4
open P5
theorem rplS_rec (m : Mc) (l : List Rc) : rplS m 0 (recM m l) 0 = ((recM m l).length, 0) := by
  have h : chk 0 (recM m l) 0 = 0 := by unfold chk; rw [if_neg (by decide), if_neg (by decide), if_pos (recM_ok m l)]
  unfold rplS
  rw [if_neg (not_not_intro h), rpl_rec, Nat.zero_add]
theorem fewL_short {l : List Rc} (h : fewL l) : shortL l := ⟨by have := h.1; omega, fun i hi => by have := h.2 i hi; omega⟩
theorem recM_short {m : Mc} {l : List Rc} (h : fewL l) (hst : m.st < 1009) : (recM m l).length ≤ 120 ∧ shortL (recM m l) := by
  have h1 := recM_len m l
  have h0 := h.1
  refine ⟨by omega, by omega, fun i hi => ?_⟩
  have hm := mem_getD (l := recM m l) hi
  generalize (recM m l).getD i default = r at *
  have key : ∀ (m : Mc) (l : List Rc), m.st < 1009 → (∀ x ∈ l, x.pl.length ≤ 200 ∧ x.tp.length ≤ 60) → ∀ r ∈ recM m l, r.pl.length ≤ 100000 ∧ r.tp.length ≤ 100000 := by
    intro m l
    induction l generalizing m with
    | nil => intro _ _ r hr; cases hr
    | cons x l ih =>
      intro hst hl r hr
      have hx := hl x (List.mem_cons_self ..)
      have h2 : (stM m x).st < 1009 := Nat.mod_lt _ (by decide)
      rcases List.mem_append.1 hr with q | q
      · unfold rec1 at q
        rcases List.mem_cons.1 q with rfl | q
        · refine ⟨by show x.pl.length ≤ _; omega, ?_⟩
          show (inT ++ x.tp).length ≤ _
          rw [List.length_append]
          show 3 + _ ≤ _
          omega
        · obtain ⟨y, hy, rfl⟩ := List.mem_map.1 q
          have := out_mem hy h2
          refine ⟨by show y.2.length ≤ _; omega, ?_⟩
          show (ouT ++ y.1).length ≤ _
          rw [List.length_append]
          show 4 + _ ≤ _
          omega
      · exact ih (stM m x) h2 (fun y hy => hl y (List.mem_cons_of_mem _ hy)) r q
  refine key m l hst (fun x hx => ?_) r hm
  obtain ⟨k, hk, rfl⟩ := List.mem_iff_getElem.1 hx
  have := h.2 k hk
  rw [getD_at hk] at this
  exact this
/-- What a written recording answers when it is read. -/
theorem wt_read {n : Int} {A : List Rc} (h : wtE n A = 0) (hA : A.length ≤ 120) : (wtS n A).length ≤ 640000 ∧ bgE (wtS n A) = 0 ∧ allB (wtS n A) = (A, 0) ∧ AOk A := by
  have hk := wtE_AOk h hA
  have hS : wtS n A = madeB n A := if_pos h
  obtain ⟨h1, h2⟩ := made_all hk n
  have h3 := made_len hk n
  rw [hS]
  exact ⟨by omega, h1, h2, hk⟩
set_option maxRecDepth 10000 in
theorem cdigest0 : Ctr Tryz.prog 30 [.c .nils] [] fun v h => v = .c (.i .u64 0) ∧ h = [] := by
  refine Ctr.mk' tbv mixed Tryz.func30 rfl rfl rfl (fun _ _ => by kernel_rfl) (by kernel_rfl) (by rfl) (by rfl) (by (repeat' first | refine And.intro ?_ ?_ | exact xeC | fail)) ?_
  repeat' (first | (fail_if_success (with_reducible refine xstp ?_)); first | (with_reducible intro hc; (try simp only [capsP, and_true] at hc); (try exact xfC)) | ((fail_if_success (with_reducible first | refine xgon ?_ | intro _)); (conv => whnf); (fail_if_success (fail_if_success (with_reducible first | refine xstp ?_ | refine xgon ?_ | intro _)))))
  refine LoopK.mk' Unit (fun _ => ⟨[(3, .c (.i .u64 0)), (7, .c (.i .i64 0)), (8, .c (.i .i64 0))], []⟩) (fun _ => 0) ⟨(), [], ?_⟩ ?_
  · (repeat' first | refine And.intro ?_ ?_ | exact xeC | fail)
  rintro ⟨⟩
  repeat' (first | (fail_if_success (with_reducible refine xstp ?_)); first | ((with_reducible refine And.intro (fun (hb : _ = true) => ?_) (fun (hb : _ = false) => ?_)) <;> replace hb := xnC hb <;> (try first | exact xfC | exact bff hb (by assumption) | exact bff (by assumption) hb)) | (with_reducible intro hc; (try simp only [capsP, and_true] at hc); (try exact xfC)) | ((fail_if_success (with_reducible first | refine xgon ?_ | intro _)); (conv => whnf); (fail_if_success (fail_if_success (with_reducible first | refine xstp ?_ | refine xgon ?_ | intro _)))))
  exact FinK.mk ⟨[], _, _, ⟨rfl, rfl⟩, by (repeat' first | refine And.intro ?_ ?_ | exact xeC | fail)⟩
def awM : Mc := ⟨1, 0⟩
def awA : List Rc := [⟨5, [103, 111], [120]⟩]
theorem awFew : fewL awA := ⟨by decide, fun i hi => by
  have : i = 0 := by have : awA.length = 1 := rfl; omega
  subst this
  decide⟩
theorem awE : wtE 500 (recM awM awA) = 0 := by decide
theorem awLen : (recM awM awA).length = 1 := by decide
theorem aw_rowA {f : Nat → List C} (h : f 0 = rowOf encR awA 0) (i : Nat) (hi : i < awA.length) : f i = rowOf encR awA i :=
  match i, hi with
  | 0, _ => h
theorem rH42zlT0 {σ : List Sg} {H h' : List Fam} {v : T} {K : T → List Fam → Prop} {H' : List Fam} {v' : T} {N : Nat} (hk : K v' H') (hN : H.length = N := by (try simp only [↓List.length_cons, ↓List.length_nil, Nat.reduceAdd]) <;> rfl) (h : givesF σ N H σ h' = some H' := by (try simp (maxSteps := 1000000) only [givesF, setF, updF, Fam.zeroth, Fam.rk, Ck.rk, C.rk, E.rk, T.rk, key, List.map_cons, List.map_nil, List.cons_append, List.nil_append, List.length_cons, List.length_nil, Option.map_some, Option.bind_some, Nat.reduceAdd, Nat.zero_add, Nat.add_zero, Nat.add_sub_cancel_left, Int.toNat_natCast, reps, List.all_cons, List.all_nil, C.flat, List.append_eq, Bool.not_true, Bool.and_true, Bool.or_false, Bool.or_self, Bool.not_false, List.append_nil, Bool.and_self, encR]) <;> rfl) (hv : v.rk σ N = v' := by (try simp only [givesF, setF, updF, Fam.zeroth, Fam.rk, Ck.rk, C.rk, E.rk, T.rk, key, List.map_cons, List.map_nil, List.cons_append, List.nil_append, List.length_cons, List.length_nil, Option.map_some, Option.bind_some, Nat.reduceAdd, Nat.zero_add, Nat.add_zero, Nat.add_sub_cancel_left, Int.toNat_natCast, reps, List.all_cons, List.all_nil, C.flat, List.append_eq, Bool.not_true, Bool.and_true, Bool.or_false, Bool.or_self, Bool.not_false, List.append_nil, Bool.and_self, encR]) <;> rfl) : RetG σ H h' v K := ret_mk3 hN h hv hk
set_option maxRecDepth 10000 in
set_option maxHeartbeats 16000000 in
theorem cawake42 : Ctr Tryz.prog 9 [] [] fun v h => v = .c .tt ∧ h = [] := by
  have hR := recM_short (m := awM) awFew (by decide)
  obtain ⟨hl, hE, hA, hk⟩ := wt_read awE hR.1
  have hrp := rplS_rec awM awA
  have hle := awLen
  have k1 := crecord 500 awM true awA 1 (by decide) (by decide) awFew
  have k2 := creplay awM (wtS 500 (recM awM awA)) hl (recM awM awA) 0 0 hE hA (by decide) (by decide) hR.2
  have k3 := rrecords awM true awA 1 (by decide) (by decide) (fewL_short awFew)
  rw [awE] at k1
  rw [hrp, hle] at k2
  rw [hle] at k3
  clear hrp hle hk hR hE hA hl
  generalize wtS 500 (recM awM awA) = s at *
  generalize recM awM awA = R at *
  generalize stL awM awA = sM at *
  refine Ctr.mk' tbv mixed Tryz.func9 rfl rfl rfl (fun _ _ => by kernel_rfl) (by kernel_rfl) (by rfl) (by rfl) (by (repeat' first | refine And.intro ?_ ?_ | exact xeC | fail)) ?_
  repeat' (first | (fail_if_success (with_reducible refine xstp ?_)); first | (with_reducible intro hc; (try simp only [capsP, and_true] at hc); (try exact xfC)) | ((fail_if_success (with_reducible first | refine xgon ?_ | intro _)); (conv => whnf); (fail_if_success (fail_if_success (with_reducible first | refine xstp ?_ | refine xgon ?_ | intro _)))))
  refine xcal (σ := [.whole 0, .whole 1]) (nl := []) (k1) ?_ (hle := by (repeat' first | refine And.intro ?_ ?_ | exact xeC | fail) <;> (first | exact aw_rowA rfl | skip))
  rintro v h' ⟨m', hf, rfl, rfl⟩ hcaps
  refine rH42zlT0 ?_
  repeat' (first | (fail_if_success (with_reducible refine xstp ?_)); first | ((fail_if_success (with_reducible first | refine xgon ?_ | intro _)); (conv => whnf); (fail_if_success (fail_if_success (with_reducible first | refine xstp ?_ | refine xgon ?_ | intro _)))))
  refine xcal (σ := [.whole 2]) (nl := []) (k2) ?_
  rintro v h' ⟨m2, rfl, rfl⟩ hcaps
  refine rH42zlT0 ?_
  repeat' (first | (fail_if_success (with_reducible refine xstp ?_)); first | ((fail_if_success (with_reducible first | refine xgon ?_ | intro _)); (conv => whnf); (fail_if_success (fail_if_success (with_reducible first | refine xstp ?_ | refine xgon ?_ | intro _)))))
  refine xcal (σ := [.whole 3, .whole 4]) (nl := []) (k3) ?_ (hle := by (repeat' first | refine And.intro ?_ ?_ | exact xeC | fail) <;> (first | exact aw_rowA rfl | skip))
  rintro v h' ⟨c3, rfl, rfl⟩ hcaps
  refine rH42zlT0 ?_
  repeat' (first | (fail_if_success (with_reducible refine xstp ?_)); first | ((with_reducible refine And.intro (fun (hb : _ = true) => ?_) (fun (hb : _ = false) => ?_)) <;> replace hb := xnC hb <;> (try first | exact xfC | exact bff hb (by assumption) | exact bff (by assumption) hb)) | ((fail_if_success (with_reducible first | refine xgon ?_ | intro _)); (conv => whnf); (fail_if_success (fail_if_success (with_reducible first | refine xstp ?_ | refine xgon ?_ | intro _)))))
  refine xcal (σ := []) (nl := []) (cdigest0) ?_
  rintro v h' ⟨rfl, rfl⟩ hcaps
  refine xret ?_
  repeat' (first | (fail_if_success (with_reducible refine xstp ?_)); first | ((fail_if_success (with_reducible first | refine xgon ?_ | intro _)); (conv => whnf); (fail_if_success (fail_if_success (with_reducible first | refine xstp ?_ | refine xgon ?_ | intro _)))))
  exact FinK.mk ⟨[], _, _, ⟨rfl, rfl⟩, by (repeat' first | refine And.intro ?_ ?_ | exact xeC | fail)⟩
end Go.Proofs.YtenompgpjlbelaaGreatDoor


namespace Go.Proofs.YtenompgpjlbelaaGreatDoor
open Go.X
set_option linter.unusedSimpArgs false
set_option linter.unusedVariables false
open P4
open P5
theorem encRh_rkA (X : List Ch) (i : Nat) : List.map (C.rk [Sg.whole 1, Sg.whole 2, Sg.whole 3] 4) (encRh 4 X i) = encRh 5 X i := rfl
theorem rH42zlR0 {σ : List Sg} {H h' : List Fam} {v : T} {K : T → List Fam → Prop} {H' : List Fam} {v' : T} {N : Nat} (hk : K v' H') (hN : H.length = N := by (try simp only [↓List.length_cons, ↓List.length_nil, Nat.reduceAdd]) <;> rfl) (h : givesF σ N H σ h' = some H' := by (try simp (maxSteps := 1000000) only [givesF, setF, updF, Fam.zeroth, Fam.rk, Ck.rk, C.rk, E.rk, T.rk, key, List.map_cons, List.map_nil, List.cons_append, List.nil_append, List.length_cons, List.length_nil, Option.map_some, Option.bind_some, Nat.reduceAdd, Nat.zero_add, Nat.add_zero, Nat.add_sub_cancel_left, Int.toNat_natCast, reps, List.all_cons, List.all_nil, C.flat, List.append_eq, Bool.not_true, Bool.and_true, Bool.or_false, Bool.or_self, Bool.not_false, List.append_nil, Bool.and_self, ↓chG_rk]) <;> rfl) (hv : v.rk σ N = v' := by (try simp only [givesF, setF, updF, Fam.zeroth, Fam.rk, Ck.rk, C.rk, E.rk, T.rk, key, List.map_cons, List.map_nil, List.cons_append, List.nil_append, List.length_cons, List.length_nil, Option.map_some, Option.bind_some, Nat.reduceAdd, Nat.zero_add, Nat.add_zero, Nat.add_sub_cancel_left, Int.toNat_natCast, reps, List.all_cons, List.all_nil, C.flat, List.append_eq, Bool.not_true, Bool.and_true, Bool.or_false, Bool.or_self, Bool.not_false, List.append_nil, Bool.and_self, ↓chG_rk]) <;> rfl) : RetG σ H h' v K := ret_mk3 hN h hv hk
theorem rH42zlR1 {σ : List Sg} {H h' : List Fam} {v : T} {K : T → List Fam → Prop} {H' : List Fam} {v' : T} {N : Nat} (hk : K v' H') (hN : H.length = N := by (try simp only [↓List.length_cons, ↓List.length_nil, Nat.reduceAdd]) <;> rfl) (h : givesF σ N H σ h' = some H' := by (try simp (maxSteps := 1000000) only [givesF, setF, updF, Fam.zeroth, Fam.rk, Ck.rk, C.rk, E.rk, T.rk, key, List.map_cons, List.map_nil, List.cons_append, List.nil_append, List.length_cons, List.length_nil, Option.map_some, Option.bind_some, Nat.reduceAdd, Nat.zero_add, Nat.add_zero, Nat.add_sub_cancel_left, Int.toNat_natCast, reps, List.all_cons, List.all_nil, C.flat, List.append_eq, Bool.not_true, Bool.and_true, Bool.or_false, Bool.or_self, Bool.not_false, List.append_nil, Bool.and_self, ↓chG_rk, encRh_rkA]) <;> rfl) (hv : v.rk σ N = v' := by (try simp only [givesF, setF, updF, Fam.zeroth, Fam.rk, Ck.rk, C.rk, E.rk, T.rk, key, List.map_cons, List.map_nil, List.cons_append, List.nil_append, List.length_cons, List.length_nil, Option.map_some, Option.bind_some, Nat.reduceAdd, Nat.zero_add, Nat.add_zero, Nat.add_sub_cancel_left, Int.toNat_natCast, reps, List.all_cons, List.all_nil, C.flat, List.append_eq, Bool.not_true, Bool.and_true, Bool.or_false, Bool.or_self, Bool.not_false, List.append_nil, Bool.and_self, ↓chG_rk, encRh_rkA]) <;> rfl) : RetG σ H h' v K := ret_mk3 hN h hv hk
theorem cH42zlR2 {P : Program} {F : Nat} {args : List T} {H : List Fam} {K : T → List Fam → Prop} {σ : List Sg} {nl : List Fam} {args0 : List T} {h0 : List Fam} {Q : T → List Fam → Prop} {H2 H1 : List Fam} {N n : Nat} (hc : Ctr P F args0 h0 Q) (hk : ∀ v h', Q v h' → capsP h' → RetG σ H2 h' v K) (hap : apart σ = true := by rfl) (hnl : nl.all nilB = true := by rfl) (h1 : H ++ nl = H1 := by first | exact List.append_nil _ | ((try simp only [List.cons_append, List.nil_append]) <;> rfl)) (hN : H1.length = N := by (try simp only [↓List.length_cons, ↓List.length_nil, Nat.reduceAdd]) <;> rfl) (hn : H.length = n := by (try simp only [↓List.length_cons, ↓List.length_nil, Nat.reduceAdd]) <;> rfl) (hH : givesF σ N H1 σ h0 = some H2 := by (try simp (maxSteps := 1000000) only [givesF, setF, updF, Fam.zeroth, Fam.rk, Ck.rk, C.rk, E.rk, T.rk, key, List.map_cons, List.map_nil, List.cons_append, List.nil_append, List.length_cons, List.length_nil, Option.map_some, Option.bind_some, Nat.reduceAdd, Nat.zero_add, Nat.add_zero, Nat.add_sub_cancel_left, Int.toNat_natCast, reps, List.all_cons, List.all_nil, C.flat, List.append_eq, Bool.not_true, Bool.and_true, Bool.or_false, Bool.or_self, Bool.not_false, List.append_nil, Bool.and_self, ↓chG_rk]) <;> rfl) (hle : leS n H1 σ N σ h0 (belsK N (h0.map (Fam.rk σ N)) (argsK n args (args0.map (T.rk σ N)) True)) := by repeat' first | refine And.intro ?_ ?_ | exact xeC | fail) : CallK P F args H K := CallK.mk3 hc hap hnl h1 hN hn hH hle hk
set_option maxRecDepth 10000 in
set_option maxHeartbeats 8000000 in
theorem rwrite (n : Int) (w : Bool) (l : List Rc) (c : Nat) (hl : l.length ≤ 120) (ht : ∀ i, i < l.length → (l.getD i default).tp.length ≤ 1000000) :
    Ctr Tryz.prog 12 [.c (.i .i64 n), .c (.sl 0 0 3 0 l.length c)] [.one (rcR w l c)]
      fun v h => v = .t [.c (.s (mkS (wtS n l))), .c (.i .i64 (wtE n l : Nat))] ∧ h = [.one (rcR w l c)] := by
  refine Ctr.mk' tbv mixed Tryz.func12 rfl rfl rfl (fun _ _ => by kernel_rfl) (by kernel_rfl) (by rfl) (by rfl) (by (repeat' first | refine And.intro ?_ ?_ | exact xeC | fail) <;> (exact xmC)) ?_
  repeat' (first | (fail_if_success (with_reducible refine xstp ?_)); first | (with_reducible intro hc; (try simp only [capsP, and_true] at hc); (try exact xfC)) | ((fail_if_success (with_reducible first | refine xgon ?_ | intro _)); (conv => whnf); (fail_if_success (fail_if_success (with_reducible first | refine xstp ?_ | refine xgon ?_ | intro _)))))
  refine cH42zlR2 (σ := []) (nl := []) (cNewWR n) ?_
  rintro v h' hq hcaps
  rcases hq with ⟨hq, rfl, rfl⟩ | ⟨hn, rfl, rfl⟩
  · have h0 : wtE n l = 4 := if_pos hq
    have h1 : wtS n l = [] := by unfold wtS; rw [h0]; exact if_neg (by decide)
    rw [h0, h1]
    refine rH42zlR0 ?_
    repeat' (first | (fail_if_success (with_reducible refine xstp ?_)); first | ((with_reducible refine And.intro (fun (hb : _ = true) => ?_) (fun (hb : _ = false) => ?_)) <;> replace hb := xnC hb <;> (try first | exact xfC | exact bff hb (by assumption) | exact bff (by assumption) hb)) | ((fail_if_success (with_reducible first | refine xgon ?_ | intro _)); (conv => whnf); (fail_if_success (fail_if_success (with_reducible first | refine xstp ?_ | refine xgon ?_ | intro _)))))
    refine FinK.mk ⟨[0], _, _, ⟨rfl, rfl⟩, ?_⟩
    (repeat' first | refine And.intro ?_ ?_ | exact xeC | fail)
  have hE : wtE n l = wrtE (newW n) l := if_neg (show ¬ badC n by unfold badC; omega)
  have hS : wtS n l = if wrtE (newW n) l = 0 then madeB n l else [] := by unfold wtS; rw [hE]
  rw [hE, hS]
  refine rH42zlR0 ?_
  repeat' (first | (fail_if_success (with_reducible refine xstp ?_)); first | ((with_reducible refine And.intro (fun (hb : _ = true) => ?_) (fun (hb : _ = false) => ?_)) <;> replace hb := xnC hb <;> (try first | exact xfC | exact bff hb (by assumption) | exact bff (by assumption) hb)) | ((fail_if_success (with_reducible first | refine xgon ?_ | intro _)); (conv => whnf); (fail_if_success (fail_if_success (with_reducible first | refine xstp ?_ | refine xgon ?_ | intro _)))))
  refine LoopK.mk' {p : Nat × List Ch × Nat // p.1 ≤ l.length ∧ wrtE (newW n) (l.take p.1) = 0 ∧ p.2.1.map Ch.l = (wrA n (l.take p.1)).L}
    (fun ⟨(i, X, c1), _⟩ => ⟨[(1, .c (.sl 0 0 3 0 l.length c)), (6, .c (.p 1 0 0)), (8, .c (.i .i64 (i : Nat)))],
      [.one (rcR w l c), .one (rwC (wrA n (l.take i)) 2 X.length c1), .one (rhR 3 X c1), .many (chG X)]⟩) (fun p => l.length - p.1.1)
    ⟨⟨(0, [], 0), Nat.zero_le _, rfl, rfl⟩, [0, 1, 2, 3], ?_⟩ ?_
  · (repeat' first | refine And.intro ?_ ?_ | exact xeC | fail)
    all_goals first
      | (exact xmC)
      | skip
  rintro ⟨⟨i, X, c1⟩, hi, hz, hX⟩
  simp only at hi hz hX
  have e2 : 0 + ((i : Nat) : Int).toNat = i := by omega
  have hW := wrtE_WI n _ hz
  have hil : (l.take i).length = i := by rw [List.length_take]; omega
  have hxs := hW.xsA (by omega) hX
  rcases Nat.lt_or_ge i l.length with hlt | hge
  · have hru := wrA_snoc n (l.take i) (l.getD i default)
    have hts := take_snocG l hlt
    rw [← hts] at hru
    have hri := ht i hlt
    repeat' (first | (fail_if_success (with_reducible refine xstp ?_)); first | ((with_reducible refine And.intro (fun (hb : _ = true) => ?_) (fun (hb : _ = false) => ?_)) <;> replace hb := xnC hb <;> (try first | exact xfC | exact bff hb (by assumption) | exact bff (by assumption) hb)) | ((with_reducible refine And.intro ?_ ?_); focus exact xoC) | (with_reducible intro hc; (try simp only [capsP, and_true] at hc); (try exact xfC)) | ((fail_if_success (with_reducible first | refine xgon ?_ | intro _)); (conv => whnf); (fail_if_success (fail_if_success (with_reducible first | refine xstp ?_ | refine xgon ?_ | intro _)))))
    rw [e2]
    refine cH42zlR2 (σ := [.whole 1, .whole 2, .whole 3]) (nl := []) (cAddR (wrA n (l.take i)) X c1 (l.getD i default) hX (by omega) hW.la (by omega) (fun x hx => by have := hxs.2.1 x hx; exact ⟨this.1, by omega, this.2.2⟩) (by omega)) ?_ (hle := by (repeat' first | refine And.intro ?_ ?_ | exact xeC | fail) <;> (exact xmC))
    rintro v h' ⟨X', c1', hX', rfl, rfl⟩ hcaps
    refine rH42zlR1 ?_
    by_cases h0 : addE (wrA n (l.take i)) (l.getD i default) = 0
    · rw [h0]
      repeat' (first | (fail_if_success (with_reducible refine xstp ?_)); first | ((with_reducible refine And.intro (fun (hb : _ = true) => ?_) (fun (hb : _ = false) => ?_)) <;> replace hb := xnC hb <;> (try first | exact xfC | exact bff hb (by assumption) | exact bff (by assumption) hb)) | ((with_reducible refine OvK.fit ?_ ?_); focus exact xoC) | ((fail_if_success (with_reducible first | refine xgon ?_ | intro _)); (conv => whnf); (fail_if_success (fail_if_success (with_reducible first | refine xstp ?_ | refine xgon ?_ | intro _)))))
      refine ⟨⟨(i + 1, X', c1'), hlt, by rw [hts]; exact wrtE_snoc0 hz h0, by rw [hru]; exact hX'⟩, [0, 1, 4, 5], by simp only; omega, ?_⟩
      simp only [hru]
      (repeat' first | refine And.intro ?_ ?_ | exact xeC | fail)
      all_goals first
        | (exact xmC)
        | skip
    · have hh : wrtE (newW n) l = addE (wrA n (l.take i)) (l.getD i default) := by
        have := wrtE_hit (m := l.drop (i + 1)) hz h0
        rw [← drop_consG l hlt, List.take_append_drop] at this
        exact this
      rw [hh, if_neg h0]
      generalize addE (wrA n (l.take i)) (l.getD i default) = e at *
      repeat' (first | (fail_if_success (with_reducible refine xstp ?_)); first | ((with_reducible refine And.intro (fun (hb : _ = true) => ?_) (fun (hb : _ = false) => ?_)) <;> replace hb := xnC hb <;> (try first | exact xfC | exact bff hb (by assumption) | exact bff (by assumption) hb)) | ((fail_if_success (with_reducible first | refine xgon ?_ | intro _)); (conv => whnf); (fail_if_success (fail_if_success (with_reducible first | refine xstp ?_ | refine xgon ?_ | intro _)))))
      refine FinK.mk ⟨[0], _, _, ⟨rfl, rfl⟩, ?_⟩
      (repeat' first | refine And.intro ?_ ?_ | exact xeC | fail)
  · obtain rfl : i = l.length := by omega
    have hmk : XOk X := ⟨by omega, fun x hx => by have := hxs.2.1 x hx; exact ⟨this.1, by omega, this.2.2⟩⟩
    have hcl := hW.cl
    repeat' (first | (fail_if_success (with_reducible refine xstp ?_)); first | ((with_reducible refine And.intro (fun (hb : _ = true) => ?_) (fun (hb : _ = false) => ?_)) <;> replace hb := xnC hb <;> (try first | exact xfC | exact bff hb (by assumption) | exact bff (by assumption) hb)) | (with_reducible intro hc; (try simp only [capsP, and_true] at hc); (try exact xfC)) | ((fail_if_success (with_reducible first | refine xgon ?_ | intro _)); (conv => whnf); (fail_if_success (fail_if_success (with_reducible first | refine xstp ?_ | refine xgon ?_ | intro _)))))
    refine cH42zlR2 (σ := [.whole 1, .whole 2, .whole 3]) (nl := []) (cCloseR (wrA n (l.take l.length)) X c1 hmk hX) ?_ (hle := by (repeat' first | refine And.intro ?_ ?_ | exact xeC | fail) <;> (exact xmC))
    rw [List.take_length] at hcl hz ⊢
    rw [if_neg (by rw [hcl]; decide), if_neg (by rw [hcl]; decide), hz, if_pos rfl]
    rintro v h' ⟨rfl, rfl⟩ hcaps
    refine rH42zlR0 ?_
    repeat' (first | (fail_if_success (with_reducible refine xstp ?_)); first | ((fail_if_success (with_reducible first | refine xgon ?_ | intro _)); (conv => whnf); (fail_if_success (fail_if_success (with_reducible first | refine xstp ?_ | refine xgon ?_ | intro _)))))
    refine FinK.mk ⟨[0], _, _, ⟨rfl, rfl⟩, ?_⟩
    (repeat' first | refine And.intro ?_ ?_ | exact xeC | fail)
end Go.Proofs.YtenompgpjlbelaaGreatDoor


namespace Go.Proofs.YtenompgpjlbelaaGreatDoor
open Go.X
set_option linter.unusedSimpArgs false
set_option linter.unusedVariables false
open P4
open P5
theorem wtE_nil (n : Int) : wtE n [] = if badC n then 4 else 0 := rfl
theorem wtE_mono {n : Int} {m : Mc} {l : List Rc} {i j : Nat} (hij : i ≤ j) (h : wtE n (recM m (l.take j)) = 0) : wtE n (recM m (l.take i)) = 0 := by
  obtain ⟨h1, h2⟩ := wtE_ok h
  unfold wtE
  rw [if_neg h1]
  have e := recM_tail m (l.take j) i
  rw [List.take_take, Nat.min_eq_left hij] at e
  rw [e] at h2
  exact wrtE_pre h2
theorem take_few {l : List Rc} (h : fewL l) (k : Nat) : fewL (l.take k) := by
  refine ⟨by have := h.1; rw [List.length_take]; omega, fun i hi => ?_⟩
  rw [List.length_take] at hi
  have := h.2 i (by omega)
  rw [getD_at (show i < (l.take k).length by rw [List.length_take]; omega), List.getElem_take]
  rw [getD_at (show i < l.length by omega)] at this
  exact this
set_option maxRecDepth 10000 in
set_option maxHeartbeats 16000000 in
theorem lrecords (w : Bool) (l : List Rc) (c : Nat) (u : Nat) (hu : u < 65536) (n : Int) (hl : l.length ≤ 9223372036854775807) :
    Ctr Tryz.prog 3 [.c (.sl 0 0 3 0 l.length c), .c (.i .u16 (u : Nat)), .c (.i .i64 n)] [.one (rcR w l c)]
      fun v h => v = .c .tt ∧ h = [.one (rcR w l c)] := by
  refine Ctr.mk' tbv mixed Tryz.func3 rfl rfl rfl (fun _ _ => by kernel_rfl) (by kernel_rfl) (by rfl) (by rfl) (by (repeat' first | refine And.intro ?_ ?_ | exact xeC | fail)) ?_
  repeat' (first | (fail_if_success (with_reducible refine xstp ?_)); first | (with_reducible intro hc; (try simp only [capsP, and_true] at hc); (try exact xfC)) | ((fail_if_success (with_reducible first | refine xgon ?_ | intro _)); (conv => whnf); (fail_if_success (fail_if_success (with_reducible first | refine xstp ?_ | refine xgon ?_ | intro _)))))
  refine xcal (σ := [.whole 0]) (nl := []) (clong w l c hl) ?_
  rintro v h' ⟨hq, rfl⟩ hcaps
  rcases hq with rfl | ⟨rfl, hf⟩
  · refine xret ?_
    repeat' (first | (fail_if_success (with_reducible refine xstp ?_)); first | ((fail_if_success (with_reducible first | refine xgon ?_ | intro _)); (conv => whnf); (fail_if_success (fail_if_success (with_reducible first | refine xstp ?_ | refine xgon ?_ | intro _)))))
    refine xcal (σ := []) (nl := []) (cawake42) ?_
    rintro v h' ⟨rfl, rfl⟩ hcaps
    refine xret ?_
    repeat' (first | (fail_if_success (with_reducible refine xstp ?_)); first | ((fail_if_success (with_reducible first | refine xgon ?_ | intro _)); (conv => whnf); (fail_if_success (fail_if_success (with_reducible first | refine xstp ?_ | refine xgon ?_ | intro _)))))
    refine FinK.mk ⟨[0], _, _, ⟨rfl, rfl⟩, ?_⟩
    (repeat' first | refine And.intro ?_ ?_ | exact xeC | fail)
  have hl40 := hf.1
  have hm : u % 1009 < 1009 := Nat.mod_lt _ (by decide)
  have hR := recM_short (m := ⟨u % 1009, 0⟩) hf hm
  have k1 := crecord n ⟨u % 1009, 0⟩ w l c hm (Nat.zero_le _) hf
  have k2 := rrecords ⟨u % 1009, 0⟩ w l c hm (Nat.zero_le _) (fewL_short hf)
  have k3 := fun c' => rwrite n true (recM ⟨u % 1009, 0⟩ l) c' hR.1 (fun i hi => by have := (hR.2.2 i hi).2; omega)
  generalize hA : recM ⟨u % 1009, 0⟩ l = A at *
  generalize hE : wtE n A = e at *
  generalize wtS n A = s at *
  refine xret ?_
  repeat' (first | (fail_if_success (with_reducible refine xstp ?_)); first | ((fail_if_success (with_reducible first | refine xgon ?_ | intro _)); (conv => whnf); (fail_if_success (fail_if_success (with_reducible first | refine xstp ?_ | refine xgon ?_ | intro _)))))
  refine xcal (σ := []) (nl := []) (cstart u hu) ?_
  rintro v h' ⟨rfl, rfl⟩ hcaps
  refine xret ?_
  repeat' (first | (fail_if_success (with_reducible refine xstp ?_)); first | ((fail_if_success (with_reducible first | refine xgon ?_ | intro _)); (conv => whnf); (fail_if_success (fail_if_success (with_reducible first | refine xstp ?_ | refine xgon ?_ | intro _)))))
  refine xcal (σ := [.whole 1, .whole 0]) (nl := []) (k1) ?_
  rintro v h' ⟨m', hfar, rfl, rfl⟩ hcaps
  refine xret ?_
  repeat' (first | (fail_if_success (with_reducible refine xstp ?_)); first | ((fail_if_success (with_reducible first | refine xgon ?_ | intro _)); (conv => whnf); (fail_if_success (fail_if_success (with_reducible first | refine xstp ?_ | refine xgon ?_ | intro _)))))
  refine xcal (σ := []) (nl := []) (cstart u hu) ?_
  rintro v h' ⟨rfl, rfl⟩ hcaps
  refine xret ?_
  repeat' (first | (fail_if_success (with_reducible refine xstp ?_)); first | ((fail_if_success (with_reducible first | refine xgon ?_ | intro _)); (conv => whnf); (fail_if_success (fail_if_success (with_reducible first | refine xstp ?_ | refine xgon ?_ | intro _)))))
  refine xcal (σ := [.whole 2, .whole 0]) (nl := []) (k2) ?_
  rintro v h' ⟨c2, rfl, rfl⟩ hcaps
  refine xret ?_
  repeat' (first | (fail_if_success (with_reducible refine xstp ?_)); first | ((fail_if_success (with_reducible first | refine xgon ?_ | intro _)); (conv => whnf); (fail_if_success (fail_if_success (with_reducible first | refine xstp ?_ | refine xgon ?_ | intro _)))))
  refine xcal (σ := [.whole 3]) (nl := []) (k3 c2) ?_
  rintro v h' ⟨rfl, rfl⟩ hcaps
  refine xret ?_
  repeat' (first | (fail_if_success (with_reducible refine xstp ?_)); first | ((with_reducible refine And.intro (fun (hb : _ = true) => ?_) (fun (hb : _ = false) => ?_)) <;> replace hb := xnC hb <;> (try first | exact xfC | exact bff hb (by assumption) | exact bff (by assumption) hb)) | ((fail_if_success (with_reducible first | refine xgon ?_ | intro _)); (conv => whnf); (fail_if_success (fail_if_success (with_reducible first | refine xstp ?_ | refine xgon ?_ | intro _)))))
  · skip
    refine xcal (σ := []) (nl := []) (cawake42) ?_
    rintro v h' ⟨rfl, rfl⟩ hcaps
    refine xret ?_
    repeat' (first | (fail_if_success (with_reducible refine xstp ?_)); first | ((fail_if_success (with_reducible first | refine xgon ?_ | intro _)); (conv => whnf); (fail_if_success (fail_if_success (with_reducible first | refine xstp ?_ | refine xgon ?_ | intro _)))))
    refine FinK.mk ⟨[0], _, _, ⟨rfl, rfl⟩, ?_⟩
    (repeat' first | refine And.intro ?_ ?_ | exact xeC | fail)
  · exfalso
    have := hfar.2.1 (by rw [hA, hE]; omega)
    simp only at this
    omega
  have he : e ≠ 0 := by omega
  refine xcal (σ := [.whole 4]) (nl := [.one (rcR true List.nil 0)]) (rwrite n true List.nil 0 (Nat.zero_le _) (fun i hi => absurd hi (Nat.not_lt_zero i))) ?_
  rintro v h' ⟨rfl, rfl⟩ hcaps
  rw [wtE_nil]
  by_cases hb0 : badC n
  · rw [if_pos hb0]
    have h0 := hfar.1 hb0
    simp only at h0
    refine xret ?_
    repeat' (first | (fail_if_success (with_reducible refine xstp ?_)); first | ((with_reducible refine And.intro (fun (hb : _ = true) => ?_) (fun (hb : _ = false) => ?_)) <;> replace hb := xnC hb <;> (try first | exact xfC | exact bff hb (by assumption) | exact bff (by assumption) hb)) | ((fail_if_success (with_reducible first | refine xgon ?_ | intro _)); (conv => whnf); (fail_if_success (fail_if_success (with_reducible first | refine xstp ?_ | refine xgon ?_ | intro _)))))
    refine xcal (σ := []) (nl := []) (cawake42) ?_
    rintro v h' ⟨rfl, rfl⟩ hcaps
    refine xret ?_
    repeat' (first | (fail_if_success (with_reducible refine xstp ?_)); first | ((fail_if_success (with_reducible first | refine xgon ?_ | intro _)); (conv => whnf); (fail_if_success (fail_if_success (with_reducible first | refine xstp ?_ | refine xgon ?_ | intro _)))))
    refine FinK.mk ⟨[0], _, _, ⟨rfl, rfl⟩, ?_⟩
    (repeat' first | refine And.intro ?_ ?_ | exact xeC | fail)
  rw [if_neg hb0]
  obtain ⟨q, hq1, hq2, hq3, hq4⟩ := hfar.2.2 hb0 (by rw [hA, hE]; exact he)
  clear k1 k2 k3 hfar
  simp only at hq4
  refine xret ?_
  repeat' (first | (fail_if_success (with_reducible refine xstp ?_)); first | ((with_reducible refine And.intro (fun (hb : _ = true) => ?_) (fun (hb : _ = false) => ?_)) <;> replace hb := xnC hb <;> (try first | exact xfC | exact bff hb (by assumption) | exact bff (by assumption) hb)) | ((fail_if_success (with_reducible first | refine xgon ?_ | intro _)); (conv => whnf); (fail_if_success (fail_if_success (with_reducible first | refine xstp ?_ | refine xgon ?_ | intro _)))))
  refine LoopK.mk' {i : Nat // i ≤ l.length ∧ wtE n (recM ⟨u % 1009, 0⟩ (l.take i)) = 0}
    (fun ⟨i, _⟩ => ⟨[(0, .c (.sl 0 0 3 0 l.length c)), (1, .c (.i .u16 (u : Nat))), (2, .c (.i .i64 n)), (7, .c (.p 1 0 0)), (14, .c (.i .i64 (i : Nat)))], [.one (rcR w l c), .one (mch m')]⟩) (fun t => l.length - t.1)
    ⟨⟨0, Nat.zero_le _, by rw [List.take_zero]; exact (wtE_nil n).trans (if_neg hb0)⟩, [0, 1], ?_⟩ ?_
  · (repeat' first | refine And.intro ?_ ?_ | exact xeC | fail)
  rintro ⟨i, hi, hz⟩
  rcases Nat.lt_or_ge i l.length with hlt | hge
  · have k2 := rrecordsK ⟨u % 1009, 0⟩ w l c (i + 1) hlt hm (Nat.zero_le _) (fewL_short hf)
    have hR := recM_short (m := ⟨u % 1009, 0⟩) (take_few hf (i + 1)) hm
    have k3 := fun c' => rwrite n true (recM ⟨u % 1009, 0⟩ (l.take (i + 1))) c' hR.1 (fun i hi => by have := (hR.2.2 i hi).2; omega)
    have hqi : wtE n (recM ⟨u % 1009, 0⟩ (l.take (i + 1))) ≠ 0 → q = i := fun h => by
      rcases Nat.lt_trichotomy q i with h1 | h1 | h1
      · exact absurd (wtE_mono (show q + 1 ≤ i from h1) hz) hq3
      · exact h1
      · exact absurd (wtE_mono (show i + 1 ≤ q from h1) hq2) h
    have hz2 : wtE n (recM ⟨u % 1009, 0⟩ (l.take (i + 1))) = 0 → wtE n (recM ⟨u % 1009, 0⟩ (l.take (i + 1))) = 0 := id
    revert hqi hz2
    generalize hB : recM ⟨u % 1009, 0⟩ (l.take (i + 1)) = B at *
    generalize hF : wtE n B = e2 at *
    generalize wtS n B = s2 at *
    intro hqi hz2
    repeat' (first | (fail_if_success (with_reducible refine xstp ?_)); first | ((with_reducible refine And.intro (fun (hb : _ = true) => ?_) (fun (hb : _ = false) => ?_)) <;> replace hb := xnC hb <;> (try first | exact xfC | exact bff hb (by assumption) | exact bff (by assumption) hb)) | ((with_reducible refine And.intro ?_ ?_); focus exact xoC) | ((with_reducible refine OvK.fit ?_ ?_); focus exact xoC) | (with_reducible intro hc; (try simp only [capsP, and_true] at hc); (try exact xfC)) | ((fail_if_success (with_reducible first | refine xgon ?_ | intro _)); (conv => whnf); (fail_if_success (fail_if_success (with_reducible first | refine xstp ?_ | refine xgon ?_ | intro _)))))
    refine xcal (σ := []) (nl := []) (cstart u hu) ?_
    rintro v h' ⟨rfl, rfl⟩ hcaps
    refine xret ?_
    repeat' (first | (fail_if_success (with_reducible refine xstp ?_)); first | ((fail_if_success (with_reducible first | refine xgon ?_ | intro _)); (conv => whnf); (fail_if_success (fail_if_success (with_reducible first | refine xstp ?_ | refine xgon ?_ | intro _)))))
    refine xcal (σ := [.whole 2, .whole 0]) (nl := []) (k2) ?_
    rintro v h' ⟨c3, rfl, rfl⟩ hcaps
    refine xret ?_
    repeat' (first | (fail_if_success (with_reducible refine xstp ?_)); first | ((fail_if_success (with_reducible first | refine xgon ?_ | intro _)); (conv => whnf); (fail_if_success (fail_if_success (with_reducible first | refine xstp ?_ | refine xgon ?_ | intro _)))))
    refine xcal (σ := [.whole 3]) (nl := []) (k3 c3) ?_
    rintro v h' ⟨rfl, rfl⟩ hcaps
    refine xret ?_
    repeat' (first | (fail_if_success (with_reducible refine xstp ?_)); first | ((with_reducible refine And.intro (fun (hb : _ = true) => ?_) (fun (hb : _ = false) => ?_)) <;> replace hb := xnC hb <;> (try first | exact xfC | exact bff hb (by assumption) | exact bff (by assumption) hb)) | ((with_reducible refine OvK.fit ?_ ?_); focus exact xoC) | ((fail_if_success (with_reducible first | refine xgon ?_ | intro _)); (conv => whnf); (fail_if_success (fail_if_success (with_reducible first | refine xstp ?_ | refine xgon ?_ | intro _)))))
    · skip
      refine xcal (σ := []) (nl := []) (cawake42) ?_
      rintro v h' ⟨rfl, rfl⟩ hcaps
      refine xret ?_
      repeat' (first | (fail_if_success (with_reducible refine xstp ?_)); first | ((fail_if_success (with_reducible first | refine xgon ?_ | intro _)); (conv => whnf); (fail_if_success (fail_if_success (with_reducible first | refine xstp ?_ | refine xgon ?_ | intro _)))))
      refine FinK.mk ⟨[0], _, _, ⟨rfl, rfl⟩, ?_⟩
      (repeat' first | refine And.intro ?_ ?_ | exact xeC | fail)
    · skip
      refine xcal (σ := []) (nl := []) (cawake42) ?_
      rintro v h' ⟨rfl, rfl⟩ hcaps
      refine xret ?_
      repeat' (first | (fail_if_success (with_reducible refine xstp ?_)); first | ((fail_if_success (with_reducible first | refine xgon ?_ | intro _)); (conv => whnf); (fail_if_success (fail_if_success (with_reducible first | refine xstp ?_ | refine xgon ?_ | intro _)))))
      refine FinK.mk ⟨[0], _, _, ⟨rfl, rfl⟩, ?_⟩
      (repeat' first | refine And.intro ?_ ?_ | exact xeC | fail)
    · refine ⟨⟨i + 1, hlt, by rw [hB, hF]; omega⟩, [0, 1], by simp only; omega, ?_⟩
      (repeat' first | refine And.intro ?_ ?_ | exact xeC | fail)
  · have := wtE_mono (show q + 1 ≤ i by omega) hz
    exact absurd this hq3
end Go.Proofs.YtenompgpjlbelaaGreatDoor


namespace Go.Proofs.YtenompgpjlbelaaGreatDoor
open Go.X Go.RowKit
set_option linter.unusedVariables false
theorem one_read {β : Nm} {W : World} {ck : Ck} (h : ck.holds β W (β 0 0)) (ho : ck.owned = false) : Fits β [.one ck] W ∧ ∀ f x, (Go.X.get [.one ck] f x).owned = false := by
  have hno := get_ones_own (h := [ck]) (by intro q hq; rw [List.mem_singleton.1 hq]; exact ho)
  exact ⟨fits_read (get_ones (h := [ck]) (fun f q hf => by
    match f, hf with
    | 0, hf => cases hf; exact h
    | f + 1, hf => simp at hf)) hno, hno⟩
theorem ft_Rc {l : List C} (h : FT [.i .i64, .s, .s] l) : ∃ x : Rc, l = encR x ∧ True := by
  obtain ⟨a, _, rfl, ha, h1⟩ := FT_i h
  obtain ⟨b, _, rfl, hb, h2⟩ := FT_s h1
  obtain ⟨c, _, rfl, hc, h3⟩ := FT_s h2
  obtain rfl := FT_nil h3
  exact ⟨⟨a, b.data.toList, c.data.toList⟩, by unfold encR; simp only [mkS_of], trivial⟩
theorem recs_view {W : World} {v : Value} (k : VK W (.sl [.i .i64, .s, .s]) v) (e : ∀ a n c, v = .slice (some a) n c → a.spot = none) :
    ∃ (A : Nat × Nat × Fl) (l : List Rc) (c : Nat), l.length ≤ 9223372036854775807 ∧ (∀ β f x, β f x = A → (C.sl f x 3 0 l.length c).ren β = v) ∧ ∀ β, (rcR false l c).holds β W A := by
  obtain ⟨A, n, c, g, hv, hh, hn, hc, hnc, hg⟩ := row_view (by rfl) k e
  obtain ⟨l, hl, hge, hp⟩ := list_of encR (Pr := fun _ => True) (fun i hi => ft_Rc (hg i hi))
  subst hl
  exact ⟨A, l, c, by unfold maxLen at hn; omega, hv, fun β => holds_row_congr (hh _ _) hge⟩
theorem u16_nat {a : Int} (w : (Lit.int .u16 a).wf = true) : ∃ u : Nat, a = (u : Int) ∧ u < 65536 := by
  have h : 0 ≤ a ∧ a < 65536 := by
    have e1 : IntKind.u16.min = 0 := by decide
    have e2 : IntKind.u16.max = 65535 := by decide
    simp only [Lit.wf, Bool.and_eq_true, decide_eq_true_eq, e1, e2] at w
    omega
  exact ⟨a.toNat, by omega, by omega⟩
end Go.Proofs.YtenompgpjlbelaaGreatDoor


namespace Go.Proofs.YtenompgpjlbelaaGreatDoor
open Go.X Go.RowKit
set_option linter.unusedVariables false
theorem walk_PlayerRecords (W : World) (v0 : Value) (k0 : VK W (.sl [.i .i64, .s, .s]) v0) (e0 : ∀ a n c, v0 = .slice (some a) n c → a.spot = none) (a1 : Int) (w1 : (Lit.int .u16 a1).wf = true) (a2 : Int) (w2 : (Lit.int .i64 a2).wf = true) :
    Calls Tryz.prog 3 #[v0, .int .u16 a1, .int .i64 a2] W fun e W' => e = .returned (.bool true) ∧ Below W.heap.size W W' := by
  obtain ⟨A, l, c, hl, hv, hh⟩ := recs_view k0 e0
  obtain ⟨u, rfl, hu⟩ := u16_nat w1
  obtain ⟨hf, hno⟩ := one_read (β := fun _ _ => A) (W := W) (ck := rcR false l c) (hh _) rfl
  have hv' := hv (fun _ _ => A) 0 0 rfl
  have := glue ((lrecords false l c u hu a2 hl).mono' fun v h q => q.1) hf hno
  simp only [List.map_cons, List.map_nil, T.ren, hv', show ∀ (k : IntKind) (a : Int), C.ren (fun _ _ => A) (.i k a) = .int k a from fun _ _ => rfl] at this
  exact this
end Go.Proofs.YtenompgpjlbelaaGreatDoor

