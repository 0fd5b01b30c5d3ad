/- Part 6 of the texts that a walk of this program rests on: an abstract machine, its soundness, contracts of functions. No statement of the seat is proved in this file. -/
import Derived.Test.YtenompgpjlbelaaGreatDoorU5
namespace Go.Proofs.YtenompgpjlbelaaGreatDoor
open Go.X
set_option linter.unusedSimpArgs false
set_option linter.unusedVariables false
open P4
open P5
theorem encCh_rkA (X : List Ch) (i : Nat) : List.map (C.rk [Sg.whole 2, Sg.whole 3, Sg.whole 4] 6) (encCh 4 X i) = encCh 7 X i := rfl
theorem encCh_rkB (X : List Ch) (i : Nat) : List.map (C.rk [Sg.whole 2, Sg.whole 3, Sg.whole 4] 7) (encCh 4 X i) = encCh 8 X i := rfl
theorem rH42zlS0 {σ : List Sg} {H h' : List Fam} {v : T} {K : T → List Fam → Prop} {H' : List Fam} {v' : T} {N : Nat} (hk : K v' H') (hN : H.length = N := by (try simp only [↓List.length_cons, ↓List.length_nil, Nat.reduceAdd]) <;> rfl) (h : givesF σ N H σ h' = some H' := by (try simp (maxSteps := 1000000) only [givesF, setF, updF, Fam.zeroth, Fam.rk, Ck.rk, C.rk, E.rk, T.rk, key, List.map_cons, List.map_nil, List.cons_append, List.nil_append, List.length_cons, List.length_nil, Option.map_some, Option.bind_some, Nat.reduceAdd, Nat.zero_add, Nat.add_zero, Nat.add_sub_cancel_left, Int.toNat_natCast, reps, List.all_cons, List.all_nil, C.flat, List.append_eq, Bool.not_true, Bool.and_true, Bool.or_false, Bool.or_self, Bool.not_false, List.append_nil, Bool.and_self, ↓chG_rk]) <;> rfl) (hv : v.rk σ N = v' := by (try simp only [givesF, setF, updF, Fam.zeroth, Fam.rk, Ck.rk, C.rk, E.rk, T.rk, key, List.map_cons, List.map_nil, List.cons_append, List.nil_append, List.length_cons, List.length_nil, Option.map_some, Option.bind_some, Nat.reduceAdd, Nat.zero_add, Nat.add_zero, Nat.add_sub_cancel_left, Int.toNat_natCast, reps, List.all_cons, List.all_nil, C.flat, List.append_eq, Bool.not_true, Bool.and_true, Bool.or_false, Bool.or_self, Bool.not_false, List.append_nil, Bool.and_self, ↓chG_rk]) <;> rfl) : RetG σ H h' v K := ret_mk3 hN h hv hk
theorem rH42zlS1 {σ : List Sg} {H h' : List Fam} {v : T} {K : T → List Fam → Prop} {H' : List Fam} {v' : T} {N : Nat} (hk : K v' H') (hN : H.length = N := by (try simp only [↓List.length_cons, ↓List.length_nil, Nat.reduceAdd]) <;> rfl) (h : givesF σ N H σ h' = some H' := by (try simp (maxSteps := 1000000) only [givesF, setF, updF, Fam.zeroth, Fam.rk, Ck.rk, C.rk, E.rk, T.rk, key, List.map_cons, List.map_nil, List.cons_append, List.nil_append, List.length_cons, List.length_nil, Option.map_some, Option.bind_some, Nat.reduceAdd, Nat.zero_add, Nat.add_zero, Nat.add_sub_cancel_left, Int.toNat_natCast, reps, List.all_cons, List.all_nil, C.flat, List.append_eq, Bool.not_true, Bool.and_true, Bool.or_false, Bool.or_self, Bool.not_false, List.append_nil, Bool.and_self, ↓chG_rk, encCh_rkA, encR]) <;> rfl) (hv : v.rk σ N = v' := by (try simp only [givesF, setF, updF, Fam.zeroth, Fam.rk, Ck.rk, C.rk, E.rk, T.rk, key, List.map_cons, List.map_nil, List.cons_append, List.nil_append, List.length_cons, List.length_nil, Option.map_some, Option.bind_some, Nat.reduceAdd, Nat.zero_add, Nat.add_zero, Nat.add_sub_cancel_left, Int.toNat_natCast, reps, List.all_cons, List.all_nil, C.flat, List.append_eq, Bool.not_true, Bool.and_true, Bool.or_false, Bool.or_self, Bool.not_false, List.append_nil, Bool.and_self, ↓chG_rk, encCh_rkA, encR]) <;> rfl) : RetG σ H h' v K := ret_mk3 hN h hv hk
theorem rH42zlS2 {σ : List Sg} {H h' : List Fam} {v : T} {K : T → List Fam → Prop} {H' : List Fam} {v' : T} {N : Nat} (hk : K v' H') (hN : H.length = N := by (try simp only [↓List.length_cons, ↓List.length_nil, Nat.reduceAdd]) <;> rfl) (h : givesF σ N H σ h' = some H' := by (try simp (maxSteps := 1000000) only [givesF, setF, updF, Fam.zeroth, Fam.rk, Ck.rk, C.rk, E.rk, T.rk, key, List.map_cons, List.map_nil, List.cons_append, List.nil_append, List.length_cons, List.length_nil, Option.map_some, Option.bind_some, Nat.reduceAdd, Nat.zero_add, Nat.add_zero, Nat.add_sub_cancel_left, Int.toNat_natCast, reps, List.all_cons, List.all_nil, C.flat, List.append_eq, Bool.not_true, Bool.and_true, Bool.or_false, Bool.or_self, Bool.not_false, List.append_nil, Bool.and_self, ↓chG_rk, encCh_rkB, encR]) <;> rfl) (hv : v.rk σ N = v' := by (try simp only [givesF, setF, updF, Fam.zeroth, Fam.rk, Ck.rk, C.rk, E.rk, T.rk, key, List.map_cons, List.map_nil, List.cons_append, List.nil_append, List.length_cons, List.length_nil, Option.map_some, Option.bind_some, Nat.reduceAdd, Nat.zero_add, Nat.add_zero, Nat.add_sub_cancel_left, Int.toNat_natCast, reps, List.all_cons, List.all_nil, C.flat, List.append_eq, Bool.not_true, Bool.and_true, Bool.or_false, Bool.or_self, Bool.not_false, List.append_nil, Bool.and_self, ↓chG_rk, encCh_rkB, encR]) <;> rfl) : RetG σ H h' v K := ret_mk3 hN h hv hk
theorem cH42zlS3 {P : Program} {F : Nat} {args : List T} {H : List Fam} {K : T → List Fam → Prop} {σ : List Sg} {nl : List Fam} {args0 : List T} {h0 : List Fam} {Q : T → List Fam → Prop} {H2 H1 : List Fam} {N n : Nat} (hc : Ctr P F args0 h0 Q) (hk : ∀ v h', Q v h' → capsP h' → RetG σ H2 h' v K) (hap : apart σ = true := by rfl) (hnl : nl.all nilB = true := by rfl) (h1 : H ++ nl = H1 := by first | exact List.append_nil _ | ((try simp only [List.cons_append, List.nil_append]) <;> rfl)) (hN : H1.length = N := by (try simp only [↓List.length_cons, ↓List.length_nil, Nat.reduceAdd]) <;> rfl) (hn : H.length = n := by (try simp only [↓List.length_cons, ↓List.length_nil, Nat.reduceAdd]) <;> rfl) (hH : givesF σ N H1 σ h0 = some H2 := by (try simp (maxSteps := 1000000) only [givesF, setF, updF, Fam.zeroth, Fam.rk, Ck.rk, C.rk, E.rk, T.rk, key, List.map_cons, List.map_nil, List.cons_append, List.nil_append, List.length_cons, List.length_nil, Option.map_some, Option.bind_some, Nat.reduceAdd, Nat.zero_add, Nat.add_zero, Nat.add_sub_cancel_left, Int.toNat_natCast, reps, List.all_cons, List.all_nil, C.flat, List.append_eq, Bool.not_true, Bool.and_true, Bool.or_false, Bool.or_self, Bool.not_false, List.append_nil, Bool.and_self, ↓chG_rk]) <;> rfl) (hle : leS n H1 σ N σ h0 (belsK N (h0.map (Fam.rk σ N)) (argsK n args (args0.map (T.rk σ N)) True)) := by repeat' first | refine And.intro ?_ ?_ | exact xeC | fail) : CallK P F args H K := CallK.mk3 hc hap hnl h1 hN hn hH hle hk
set_option maxRecDepth 10000 in
set_option maxHeartbeats 16000000 in
theorem crecord (n : Int) (m : Mc) (w : Bool) (l : List Rc) (c : Nat) (hst : m.st < 1009) (hct : m.ct ≤ 100000) (hl : fewL l) :
    Ctr Tryz.prog 11 [.c (.ifp 26 0 0 0), .c (.sl 1 0 3 0 l.length c), .c (.i .i64 n)] [.one (mch m), .one (rcR w l c)]
      fun v h => ∃ m', far n m l m'.ct ∧ v = .t [.c (.s (mkS (wtS n (recM m l)))), .c (.i .i64 (wtE n (recM m l) : Nat))] ∧ h = [.one (mch m'), .one (rcR w l c)] := by
  have hll := hl.1
  refine Ctr.mk' tbv mixed Tryz.func11 rfl rfl rfl (fun _ _ => by kernel_rfl) (by kernel_rfl) (by rfl) (by rfl) (by (repeat' first | refine And.intro ?_ ?_ | exact xeC | fail) <;> (exact xmC)) ?_
  repeat' (first | (fail_if_success (with_reducible refine xstp ?_)); first | (with_reducible intro hc; (try simp only [capsP, and_true] at hc); (try exact xfC)) | ((fail_if_success (with_reducible first | refine xgon ?_ | intro _)); (conv => whnf); (fail_if_success (fail_if_success (with_reducible first | refine xstp ?_ | refine xgon ?_ | intro _)))))
  refine cH42zlS3 (σ := []) (nl := []) (cNewW n) ?_
  rintro v h' hq hcaps
  rcases hq with ⟨hq, rfl, rfl⟩ | ⟨hn, rfl, rfl⟩
  · have h0 : wtE n (recM m l) = 4 := if_pos hq
    have h1 : wtS n (recM m l) = [] := by unfold wtS; rw [h0]; exact if_neg (by decide)
    rw [h0, h1]
    refine rH42zlS0 ?_
    repeat' (first | (fail_if_success (with_reducible refine xstp ?_)); first | ((with_reducible refine And.intro (fun (hb : _ = true) => ?_) (fun (hb : _ = false) => ?_)) <;> replace hb := xnC hb <;> (try first | exact xfC | exact bff hb (by assumption) | exact bff (by assumption) hb)) | ((fail_if_success (with_reducible first | refine xgon ?_ | intro _)); (conv => whnf); (fail_if_success (fail_if_success (with_reducible first | refine xstp ?_ | refine xgon ?_ | intro _)))))
    refine FinK.mk ⟨[0, 1], _, _, ⟨m, ⟨fun _ => rfl, fun q => ?_, fun q => absurd hq q⟩, rfl, rfl⟩, ?_⟩
    · rw [h0] at q; exact absurd q (by decide)
    · (repeat' first | refine And.intro ?_ ?_ | exact xeC | fail)
  have hb0 : ¬ badC n := by unfold badC; omega
  have hE : wtE n (recM m l) = wrtE (newW n) (recM m l) := if_neg hb0
  refine rH42zlS0 ?_
  repeat' (first | (fail_if_success (with_reducible refine xstp ?_)); first | ((with_reducible refine And.intro (fun (hb : _ = true) => ?_) (fun (hb : _ = false) => ?_)) <;> replace hb := xnC hb <;> (try first | exact xfC | exact bff hb (by assumption) | exact bff (by assumption) hb)) | ((fail_if_success (with_reducible first | refine xgon ?_ | intro _)); (conv => whnf); (fail_if_success (fail_if_success (with_reducible first | refine xstp ?_ | refine xgon ?_ | intro _)))))
  refine LoopK.mk' {p : Nat × List Ch × Nat // p.1 ≤ l.length ∧ wrtE (newW n) (recM m (l.take p.1)) = 0 ∧ p.2.1.map Ch.l = (wrA n (recM m (l.take p.1))).L}
    (fun ⟨(i, X, c1), _⟩ => ⟨[(0, .c (.ifp 26 0 0 0)), (8, .c (.p 2 0 0)), (26, .c (.sl 1 0 3 0 l.length c)), (27, .c (.i .i64 (l.length : Nat))), (28, .c (.i .i64 (i : Nat)))],
      [.one (mch (stL m (l.take i))), .one (rcR w l c), .one (wrC (wrA n (recM m (l.take i))) 3 X.length c1), .one (chR 4 X c1), .many (chG X)]⟩) (fun p => l.length - p.1.1)
    ⟨⟨(0, [], 0), Nat.zero_le _, rfl, rfl⟩, [0, 1, 2, 3, 4], ?_⟩ ?_
  · (repeat' first | refine And.intro ?_ ?_ | exact xeC | fail)
    all_goals first
      | (exact xmC)
      | skip
  rintro ⟨⟨i, X, c1⟩, hi, hz, hX⟩
  simp only at hi hz hX
  have e2 : 0 + ((i : Nat) : Int).toNat = i := by omega
  have hW := wrtE_WI n _ hz
  have hB0 : (recM m (l.take i)).length ≤ 3 * i := by
    have := recM_len m (l.take i)
    rw [List.length_take] at this
    omega
  have hxs := hW.xsA (by omega) hX
  have hMs : (stL m (l.take i)).st < 1009 := stL_st _ _ hst
  have hMc : (stL m (l.take i)).ct = m.ct + i := by rw [stL_ct, List.length_take]; omega
  rcases Nat.lt_or_ge i l.length with hlt | hge
  · obtain ⟨hp1, hp2⟩ := hl.2 i hlt
    have hts := take_snocG l hlt
    have hr := recM_snoc m (l.take i) (l.getD i default)
    have hs := stL_snoc m (l.take i) (l.getD i default)
    rw [← hts] at hr hs
    have z1 : (mkS (l.getD i default).tp).size = (l.getD i default).tp.length := rfl
    have hin : (⟨#[105, 110, 47]⟩ : ByteArray) ++ mkS (l.getD i default).tp = mkS (inT ++ (l.getD i default).tp) := mkS_append inT _
    repeat' (first | (fail_if_success (with_reducible refine xstp ?_)); first | ((with_reducible refine And.intro (fun (hb : _ = true) => ?_) (fun (hb : _ = false) => ?_)) <;> replace hb := xnC hb <;> (try first | exact xfC | exact bff hb (by assumption) | exact bff (by assumption) hb)) | ((with_reducible refine And.intro ?_ ?_); focus exact xoC) | (with_reducible intro hc; (try simp only [capsP, and_true] at hc); (try exact xfC)) | ((fail_if_success (with_reducible first | refine xgon ?_ | intro _)); (conv => whnf); (fail_if_success (fail_if_success (with_reducible first | refine xstp ?_ | refine xgon ?_ | intro _)))))
    rw [e2]
    refine ⟨?_, ?_⟩
    · rw [z1]
      show 3 + _ ≤ _
      omega
    repeat' (first | (fail_if_success (with_reducible refine xstp ?_)); first | ((fail_if_success (with_reducible first | refine xgon ?_ | intro _)); (conv => whnf); (fail_if_success (fail_if_success (with_reducible first | refine xstp ?_ | refine xgon ?_ | intro _)))))
    rw [hin]
    generalize hx : l.getD i default = x at *
    have hxl : (inT ++ x.tp).length ≤ 100 := by
      rw [List.length_append]
      show 3 + _ ≤ _
      omega
    refine cH42zlS3 (σ := [.whole 2, .whole 3, .whole 4]) (nl := []) (cAddW (wrA n (recM m (l.take i))) X c1 (recI x) hX (show (inT ++ x.tp).length ≤ _ by omega) (by omega) hxs.2.2.1 (by omega)) ?_ (hle := by (repeat' first | refine And.intro ?_ ?_ | exact xeC | fail) <;> (exact xmC))
    rintro v h' ⟨X1, c2, hX1, rfl, rfl⟩ hcaps
    refine rH42zlS1 ?_
    by_cases h0 : addE (wrA n (recM m (l.take i))) (recI x) = 0
    · have hz1 := wrtE_snoc0 hz h0
      have hru := wrA_snoc n (recM m (l.take i)) (recI x)
      rw [← hru] at hX1 ⊢
      rw [h0]
      repeat' (first | (fail_if_success (with_reducible refine xstp ?_)); first | ((with_reducible refine And.intro (fun (hb : _ = true) => ?_) (fun (hb : _ = false) => ?_)) <;> replace hb := xnC hb <;> (try first | exact xfC | exact bff hb (by assumption) | exact bff (by assumption) hb)) | ((fail_if_success (with_reducible first | refine xgon ?_ | intro _)); (conv => whnf); (fail_if_success (fail_if_success (with_reducible first | refine xstp ?_ | refine xgon ?_ | intro _)))))
      refine cH42zlS3 (σ := [.whole 0]) (nl := []) (crecorded (stL m (l.take i)) x hMs (by omega) (by omega) (by omega)) ?_
      have hY0 := out_len (stM (stL m (l.take i)) x)
      have hst1 : (stM (stL m (l.take i)) x).st < 1009 := Nat.mod_lt _ (by decide)
      have hmem : ∀ r ∈ (outM (stM (stL m (l.take i)) x)).map (recO x.at_), r.tp.length ≤ 20 := by
        intro r hr
        obtain ⟨y, hy, rfl⟩ := List.mem_map.1 hr
        have := (out_mem hy hst1).1
        show (ouT ++ y.1).length ≤ 20
        rw [List.length_append]
        show 4 + _ ≤ 20
        omega
      have hr1 : rec1 (stL m (l.take i)) x = recI x :: (outM (stM (stL m (l.take i)) x)).map (recO x.at_) := rfl
      rw [hr1] at hr
      rw [← hs] at hst1 hr hmem ⊢
      have hYl : ((outM (stL m (l.take (i + 1)))).map (recO x.at_)).length ≤ 2 := by rw [List.length_map, hs, hY0]; omega
      generalize (outM (stL m (l.take (i + 1)))).map (recO x.at_) = Y at *
      rintro v h' ⟨cy, rfl, rfl⟩ hcaps
      refine rH42zlS1 ?_
      repeat' (first | (fail_if_success (with_reducible refine xstp ?_)); first | ((fail_if_success (with_reducible first | refine xgon ?_ | intro _)); (conv => whnf); (fail_if_success (fail_if_success (with_reducible first | refine xstp ?_ | refine xgon ?_ | intro _)))))
      refine LoopK.mk' {p : Nat × List Ch × Nat // p.1 ≤ Y.length ∧ wrtE (newW n) (recM m (l.take i) ++ [recI x] ++ Y.take p.1) = 0 ∧ p.2.1.map Ch.l = (wrA n (recM m (l.take i) ++ [recI x] ++ Y.take p.1)).L}
        (fun ⟨(j, X, c1), _⟩ => ⟨[(0, .c (.ifp 26 0 0 0)), (8, .c (.p 2 0 0)), (26, .c (.sl 1 0 3 0 l.length c)), (27, .c (.i .i64 (l.length : Nat))), (28, .c (.i .i64 (i : Nat))), (47, .c (.sl 5 0 3 0 Y.length cy)), (48, .c (.i .i64 (Y.length : Nat))), (49, .c (.i .i64 (j : Nat)))],
          [.one (mch (stL m (l.take (i + 1)))), .one (rcR w l c), .one (wrC (wrA n (recM m (l.take i) ++ [recI x] ++ Y.take j)) 3 X.length c1), .one (chR 4 X c1), .many (chG X), .one (rcR true Y cy)]⟩) (fun p => Y.length - p.1.1)
        ⟨⟨(0, X1, c2), Nat.zero_le _, by simp only [List.take_zero, List.append_nil]; exact hz1, by simp only [List.take_zero, List.append_nil]; exact hX1⟩, [0, 1, 2, 6, 7, 8], ?_⟩ ?_
      · simp only [List.take_zero, List.append_nil]
        (repeat' first | refine And.intro ?_ ?_ | exact xeC | fail)
        all_goals first
          | (exact xmC)
          | skip
      rintro ⟨⟨j, X3, c3⟩, hj, hz3, hX3⟩
      simp only at hj hz3 hX3
      have f2 : 0 + ((j : Nat) : Int).toNat = j := by omega
      have hW3 := wrtE_WI n _ hz3
      have hxs3 := hW3.xsA (by rw [List.length_append, List.length_append, List.length_take]; show _ + 1 + _ ≤ _; omega) hX3
      rcases Nat.lt_or_ge j Y.length with hjt | hjg
      · have hYs := take_snocG Y hjt
        have hm1 := hmem (Y.getD j default) (mem_getD hjt)
        have hru3 := wrA_snoc n (recM m (l.take i) ++ [recI x] ++ Y.take j) (Y.getD j default)
        have hYd : Y = Y.take j ++ Y.getD j default :: Y.drop (j + 1) := by rw [← drop_consG Y hjt, List.take_append_drop]
        repeat' (first | (fail_if_success (with_reducible refine xstp ?_)); first | ((with_reducible refine And.intro (fun (hb : _ = true) => ?_) (fun (hb : _ = false) => ?_)) <;> replace hb := xnC hb <;> (try first | exact xfC | exact bff hb (by assumption) | exact bff (by assumption) hb)) | ((with_reducible refine And.intro ?_ ?_); focus exact xoC) | (with_reducible intro hc; (try simp only [capsP, and_true] at hc); (try exact xfC)) | ((fail_if_success (with_reducible first | refine xgon ?_ | intro _)); (conv => whnf); (fail_if_success (fail_if_success (with_reducible first | refine xstp ?_ | refine xgon ?_ | intro _)))))
        rw [f2]
        refine cH42zlS3 (σ := [.whole 2, .whole 3, .whole 4]) (nl := []) (cAddW (wrA n (recM m (l.take i) ++ [recI x] ++ Y.take j)) X3 c3 (Y.getD j default) hX3 (by omega) (by omega) hxs3.2.2.1 (by omega)) ?_ (hle := by (repeat' first | refine And.intro ?_ ?_ | exact xeC | fail) <;> (exact xmC))
        rintro v h' ⟨X4, c4, hX4, rfl, rfl⟩ hcaps
        refine rH42zlS2 ?_
        by_cases h4 : addE (wrA n (recM m (l.take i) ++ [recI x] ++ Y.take j)) (Y.getD j default) = 0
        · rw [h4]
          repeat' (first | (fail_if_success (with_reducible refine xstp ?_)); first | ((with_reducible refine And.intro (fun (hb : _ = true) => ?_) (fun (hb : _ = false) => ?_)) <;> replace hb := xnC hb <;> (try first | exact xfC | exact bff hb (by assumption) | exact bff (by assumption) hb)) | ((with_reducible refine OvK.fit ?_ ?_); focus exact xoC) | ((fail_if_success (with_reducible first | refine xgon ?_ | intro _)); (conv => whnf); (fail_if_success (fail_if_success (with_reducible first | refine xstp ?_ | refine xgon ?_ | intro _)))))
          refine ⟨⟨(j + 1, X4, c4), hjt, by simp only [hYs, ← List.append_assoc]; exact wrtE_snoc0 hz3 h4, by simp only [hYs, ← List.append_assoc]; rw [hru3]; exact hX4⟩, [0, 1, 2, 7, 8, 5], by simp only; omega, ?_⟩
          simp only [hYs, ← List.append_assoc, hru3]
          (repeat' first | refine And.intro ?_ ?_ | exact xeC | fail)
          all_goals first
            | (exact xmC)
            | skip
        · have hq4 : recM m (l.take (i + 1)) = recM m (l.take i) ++ [recI x] ++ Y.take j ++ Y.getD j default :: Y.drop (j + 1) := by
            rw [hr]
            conv => lhs; rw [hYd]
            simp only [List.append_assoc, List.cons_append, List.nil_append]
          obtain ⟨q1, q2, q3⟩ := fail_far (ct := m.ct + i + 1) (R1 := Y.drop (j + 1)) hb0 hlt hz hz3 hq4 h4 (.inr rfl)
          rw [q1, q2]
          generalize addE (wrA n (recM m (l.take i) ++ [recI x] ++ Y.take j)) (Y.getD j default) = e at *
          repeat' (first | (fail_if_success (with_reducible refine xstp ?_)); first | ((with_reducible refine And.intro (fun (hb : _ = true) => ?_) (fun (hb : _ = false) => ?_)) <;> replace hb := xnC hb <;> (try first | exact xfC | exact bff hb (by assumption) | exact bff (by assumption) hb)) | ((fail_if_success (with_reducible first | refine xgon ?_ | intro _)); (conv => whnf); (fail_if_success (fail_if_success (with_reducible first | refine xstp ?_ | refine xgon ?_ | intro _)))))
          refine FinK.mk ⟨[0, 1], _, _, ⟨stL m (l.take (i + 1)), ?_, rfl, rfl⟩, ?_⟩
          · rw [hs]
            show far n m l ((stL m (l.take i)).ct + 1)
            rw [hMc]
            exact q3
          · (repeat' first | refine And.intro ?_ ?_ | exact xeC | fail)
      · have hB : recM m (l.take i) ++ [recI x] ++ Y.take j = recM m (l.take (i + 1)) := by rw [hr, List.take_of_length_le hjg]; simp
        repeat' (first | (fail_if_success (with_reducible refine xstp ?_)); first | ((with_reducible refine And.intro (fun (hb : _ = true) => ?_) (fun (hb : _ = false) => ?_)) <;> replace hb := xnC hb <;> (try first | exact xfC | exact bff hb (by assumption) | exact bff (by assumption) hb)) | ((with_reducible refine OvK.fit ?_ ?_); focus exact xoC) | (with_reducible intro hc; (try simp only [capsP, and_true] at hc); (try exact xfC)) | ((fail_if_success (with_reducible first | refine xgon ?_ | intro _)); (conv => whnf); (fail_if_success (fail_if_success (with_reducible first | refine xstp ?_ | refine xgon ?_ | intro _)))))
        refine ⟨⟨(i + 1, X3, c3), hlt, by simp only; rw [← hB]; exact hz3, by simp only; rw [← hB]; exact hX3⟩, [0, 1, 2, 3, 4], by simp only; omega, ?_⟩
        simp only [hB]
        (repeat' first | refine And.intro ?_ ?_ | exact xeC | fail)
        all_goals first
          | (exact xmC)
          | skip
    · obtain ⟨q1, q2, q3⟩ := fail_far (ct := m.ct + i) (R1 := (outM (stM (stL m (l.take i)) x)).map (recO x.at_)) hb0 hlt hz hz hr h0 (.inl rfl)
      rw [q1, q2]
      generalize addE (wrA n (recM m (l.take i))) (recI x) = e at *
      repeat' (first | (fail_if_success (with_reducible refine xstp ?_)); first | ((with_reducible refine And.intro (fun (hb : _ = true) => ?_) (fun (hb : _ = false) => ?_)) <;> replace hb := xnC hb <;> (try first | exact xfC | exact bff hb (by assumption) | exact bff (by assumption) hb)) | ((fail_if_success (with_reducible first | refine xgon ?_ | intro _)); (conv => whnf); (fail_if_success (fail_if_success (with_reducible first | refine xstp ?_ | refine xgon ?_ | intro _)))))
      refine FinK.mk ⟨[0, 1], _, _, ⟨stL m (l.take i), ?_, rfl, rfl⟩, ?_⟩
      · rw [hMc]; exact q3
      · (repeat' first | refine And.intro ?_ ?_ | exact xeC | fail)
  · obtain rfl : i = l.length := by omega
    rw [List.take_length] at hz hMc
    have hmk : XOk X := ⟨by omega, fun x hx => by have := hxs.2.1 x hx; exact ⟨this.1, by omega, this.2.2⟩⟩
    have hcl := hW.cl
    have h0 : wtE n (recM m l) = 0 := by rw [hE, hz]
    have hS : wtS n (recM m l) = madeB n (recM m l) := if_pos h0
    repeat' (first | (fail_if_success (with_reducible refine xstp ?_)); first | ((with_reducible refine And.intro (fun (hb : _ = true) => ?_) (fun (hb : _ = false) => ?_)) <;> replace hb := xnC hb <;> (try first | exact xfC | exact bff hb (by assumption) | exact bff (by assumption) hb)) | (with_reducible intro hc; (try simp only [capsP, and_true] at hc); (try exact xfC)) | ((fail_if_success (with_reducible first | refine xgon ?_ | intro _)); (conv => whnf); (fail_if_success (fail_if_success (with_reducible first | refine xstp ?_ | refine xgon ?_ | intro _)))))
    refine cH42zlS3 (σ := [.whole 2, .whole 3, .whole 4]) (nl := []) (cCloseW (wrA n (recM m (l.take l.length))) X c1 hmk hX) ?_ (hle := by (repeat' first | refine And.intro ?_ ?_ | exact xeC | fail) <;> (exact xmC))
    rw [List.take_length] at hcl ⊢
    rw [if_neg (by rw [hcl]; decide), if_neg (by rw [hcl]; decide), h0, hS]
    rintro v h' ⟨rfl, rfl⟩ hcaps
    refine rH42zlS0 ?_
    repeat' (first | (fail_if_success (with_reducible refine xstp ?_)); first | ((fail_if_success (with_reducible first | refine xgon ?_ | intro _)); (conv => whnf); (fail_if_success (fail_if_success (with_reducible first | refine xstp ?_ | refine xgon ?_ | intro _)))))
    refine FinK.mk ⟨[0, 1], _, _, ⟨stL m l, ⟨fun q => absurd q hb0, fun _ => hMc, fun _ q => absurd h0 q⟩, rfl, rfl⟩, ?_⟩
    (repeat' first | refine And.intro ?_ ?_ | exact xeC | fail)
end Go.Proofs.YtenompgpjlbelaaGreatDoor


namespace Go.Proofs.YtenompgpjlbelaaGreatDoor
open Go.X
set_option linter.unusedSimpArgs false
set_option linter.unusedVariables false
open P4
open P5
theorem rplS_rec (m : Mc) (l : List Rc) : rplS m 0 (recM m l) 0 = ((recM m l).length, 0) := by
  have h : chk 0 (recM m l) 0 = 0 := by unfold chk; rw [if_neg (by decide), if_neg (by decide), if_pos (recM_ok m l)]
  unfold rplS
  rw [if_neg (not_not_intro h), rpl_rec, Nat.zero_add]
theorem fewL_short {l : List Rc} (h : fewL l) : shortL l := ⟨by have := h.1; omega, fun i hi => by have := h.2 i hi; omega⟩
theorem recM_short {m : Mc} {l : List Rc} (h : fewL l) (hst : m.st < 1009) : (recM m l).length ≤ 120 ∧ shortL (recM m l) := by
  have h1 := recM_len m l
  have h0 := h.1
  refine ⟨by omega, by omega, fun i hi => ?_⟩
  have hm := mem_getD (l := recM m l) hi
  generalize (recM m l).getD i default = r at *
  have key : ∀ (m : Mc) (l : List Rc), m.st < 1009 → (∀ x ∈ l, x.pl.length ≤ 200 ∧ x.tp.length ≤ 60) → ∀ r ∈ recM m l, r.pl.length ≤ 100000 ∧ r.tp.length ≤ 100000 := by
    intro m l
    induction l generalizing m with
    | nil => intro _ _ r hr; cases hr
    | cons x l ih =>
      intro hst hl r hr
      have hx := hl x (List.mem_cons_self ..)
      have h2 : (stM m x).st < 1009 := Nat.mod_lt _ (by decide)
      rcases List.mem_append.1 hr with q | q
      · unfold rec1 at q
        rcases List.mem_cons.1 q with rfl | q
        · refine ⟨by show x.pl.length ≤ _; omega, ?_⟩
          show (inT ++ x.tp).length ≤ _
          rw [List.length_append]
          show 3 + _ ≤ _
          omega
        · obtain ⟨y, hy, rfl⟩ := List.mem_map.1 q
          have := out_mem hy h2
          refine ⟨by show y.2.length ≤ _; omega, ?_⟩
          show (ouT ++ y.1).length ≤ _
          rw [List.length_append]
          show 4 + _ ≤ _
          omega
      · exact ih (stM m x) h2 (fun y hy => hl y (List.mem_cons_of_mem _ hy)) r q
  refine key m l hst (fun x hx => ?_) r hm
  obtain ⟨k, hk, rfl⟩ := List.mem_iff_getElem.1 hx
  have := h.2 k hk
  rw [getD_at hk] at this
  exact this
/-- What a written recording answers when it is read. -/
theorem wt_read {n : Int} {A : List Rc} (h : wtE n A = 0) (hA : A.length ≤ 120) : (wtS n A).length ≤ 640000 ∧ bgE (wtS n A) = 0 ∧ allB (wtS n A) = (A, 0) ∧ AOk A := by
  have hk := wtE_AOk h hA
  have hS : wtS n A = madeB n A := if_pos h
  obtain ⟨h1, h2⟩ := made_all hk n
  have h3 := made_len hk n
  rw [hS]
  exact ⟨by omega, h1, h2, hk⟩
set_option maxRecDepth 10000 in
theorem cdigest0 : Ctr Tryz.prog 30 [.c .nils] [] fun v h => v = .c (.i .u64 0) ∧ h = [] := by
  refine Ctr.mk' tbv mixed Tryz.func30 rfl rfl rfl (fun _ _ => by kernel_rfl) (by kernel_rfl) (by rfl) (by rfl) (by (repeat' first | refine And.intro ?_ ?_ | exact xeC | fail)) ?_
  repeat' (first | (fail_if_success (with_reducible refine xstp ?_)); first | (with_reducible intro hc; (try simp only [capsP, and_true] at hc); (try exact xfC)) | ((fail_if_success (with_reducible first | refine xgon ?_ | intro _)); (conv => whnf); (fail_if_success (fail_if_success (with_reducible first | refine xstp ?_ | refine xgon ?_ | intro _)))))
  refine LoopK.mk' Unit (fun _ => ⟨[(3, .c (.i .u64 0)), (7, .c (.i .i64 0)), (8, .c (.i .i64 0))], []⟩) (fun _ => 0) ⟨(), [], ?_⟩ ?_
  · (repeat' first | refine And.intro ?_ ?_ | exact xeC | fail)
  rintro ⟨⟩
  repeat' (first | (fail_if_success (with_reducible refine xstp ?_)); first | ((with_reducible refine And.intro (fun (hb : _ = true) => ?_) (fun (hb : _ = false) => ?_)) <;> replace hb := xnC hb <;> (try first | exact xfC | exact bff hb (by assumption) | exact bff (by assumption) hb)) | (with_reducible intro hc; (try simp only [capsP, and_true] at hc); (try exact xfC)) | ((fail_if_success (with_reducible first | refine xgon ?_ | intro _)); (conv => whnf); (fail_if_success (fail_if_success (with_reducible first | refine xstp ?_ | refine xgon ?_ | intro _)))))
  exact FinK.mk ⟨[], _, _, ⟨rfl, rfl⟩, by (repeat' first | refine And.intro ?_ ?_ | exact xeC | fail)⟩
def awM : Mc := ⟨1, 0⟩
def awA : List Rc := [⟨5, [103, 111], [120]⟩]
theorem awFew : fewL awA := ⟨by decide, fun i hi => by
  have : i = 0 := by have : awA.length = 1 := rfl; omega
  subst this
  decide⟩
theorem awE : wtE 500 (recM awM awA) = 0 := by decide
theorem awLen : (recM awM awA).length = 1 := by decide
theorem aw_rowA {f : Nat → List C} (h : f 0 = rowOf encR awA 0) (i : Nat) (hi : i < awA.length) : f i = rowOf encR awA i :=
  match i, hi with
  | 0, _ => h
theorem rH42zlT0 {σ : List Sg} {H h' : List Fam} {v : T} {K : T → List Fam → Prop} {H' : List Fam} {v' : T} {N : Nat} (hk : K v' H') (hN : H.length = N := by (try simp only [↓List.length_cons, ↓List.length_nil, Nat.reduceAdd]) <;> rfl) (h : givesF σ N H σ h' = some H' := by (try simp (maxSteps := 1000000) only [givesF, setF, updF, Fam.zeroth, Fam.rk, Ck.rk, C.rk, E.rk, T.rk, key, List.map_cons, List.map_nil, List.cons_append, List.nil_append, List.length_cons, List.length_nil, Option.map_some, Option.bind_some, Nat.reduceAdd, Nat.zero_add, Nat.add_zero, Nat.add_sub_cancel_left, Int.toNat_natCast, reps, List.all_cons, List.all_nil, C.flat, List.append_eq, Bool.not_true, Bool.and_true, Bool.or_false, Bool.or_self, Bool.not_false, List.append_nil, Bool.and_self, encR]) <;> rfl) (hv : v.rk σ N = v' := by (try simp only [givesF, setF, updF, Fam.zeroth, Fam.rk, Ck.rk, C.rk, E.rk, T.rk, key, List.map_cons, List.map_nil, List.cons_append, List.nil_append, List.length_cons, List.length_nil, Option.map_some, Option.bind_some, Nat.reduceAdd, Nat.zero_add, Nat.add_zero, Nat.add_sub_cancel_left, Int.toNat_natCast, reps, List.all_cons, List.all_nil, C.flat, List.append_eq, Bool.not_true, Bool.and_true, Bool.or_false, Bool.or_self, Bool.not_false, List.append_nil, Bool.and_self, encR]) <;> rfl) : RetG σ H h' v K := ret_mk3 hN h hv hk
set_option maxRecDepth 10000 in
set_option maxHeartbeats 16000000 in
theorem cawake42 : Ctr Tryz.prog 9 [] [] fun v h => v = .c .tt ∧ h = [] := by
  have hR := recM_short (m := awM) awFew (by decide)
  obtain ⟨hl, hE, hA, hk⟩ := wt_read awE hR.1
  have hrp := rplS_rec awM awA
  have hle := awLen
  have k1 := crecord 500 awM true awA 1 (by decide) (by decide) awFew
  have k2 := creplay awM (wtS 500 (recM awM awA)) hl (recM awM awA) 0 0 hE hA (by decide) (by decide) (fun _ => hR.2)
  have k3 := rrecords awM true awA 1 (by decide) (by decide) (fewL_short awFew)
  rw [awE] at k1
  rw [hrp, hle] at k2
  rw [hle] at k3
  clear hrp hle hk hR hE hA hl
  generalize wtS 500 (recM awM awA) = s at *
  generalize recM awM awA = R at *
  generalize stL awM awA = sM at *
  refine Ctr.mk' tbv mixed Tryz.func9 rfl rfl rfl (fun _ _ => by kernel_rfl) (by kernel_rfl) (by rfl) (by rfl) (by (repeat' first | refine And.intro ?_ ?_ | exact xeC | fail)) ?_
  repeat' (first | (fail_if_success (with_reducible refine xstp ?_)); first | (with_reducible intro hc; (try simp only [capsP, and_true] at hc); (try exact xfC)) | ((fail_if_success (with_reducible first | refine xgon ?_ | intro _)); (conv => whnf); (fail_if_success (fail_if_success (with_reducible first | refine xstp ?_ | refine xgon ?_ | intro _)))))
  refine xcal (σ := [.whole 0, .whole 1]) (nl := []) (k1) ?_ (hle := by (repeat' first | refine And.intro ?_ ?_ | exact xeC | fail) <;> (first | exact aw_rowA rfl | skip))
  rintro v h' ⟨m', hf, rfl, rfl⟩ hcaps
  refine rH42zlT0 ?_
  repeat' (first | (fail_if_success (with_reducible refine xstp ?_)); first | ((fail_if_success (with_reducible first | refine xgon ?_ | intro _)); (conv => whnf); (fail_if_success (fail_if_success (with_reducible first | refine xstp ?_ | refine xgon ?_ | intro _)))))
  refine xcal (σ := [.whole 2]) (nl := []) (k2) ?_
  rintro v h' ⟨m2, rfl, rfl⟩ hcaps
  refine rH42zlT0 ?_
  repeat' (first | (fail_if_success (with_reducible refine xstp ?_)); first | ((fail_if_success (with_reducible first | refine xgon ?_ | intro _)); (conv => whnf); (fail_if_success (fail_if_success (with_reducible first | refine xstp ?_ | refine xgon ?_ | intro _)))))
  refine xcal (σ := [.whole 3, .whole 4]) (nl := []) (k3) ?_ (hle := by (repeat' first | refine And.intro ?_ ?_ | exact xeC | fail) <;> (first | exact aw_rowA rfl | skip))
  rintro v h' ⟨c3, rfl, rfl⟩ hcaps
  refine rH42zlT0 ?_
  repeat' (first | (fail_if_success (with_reducible refine xstp ?_)); first | ((with_reducible refine And.intro (fun (hb : _ = true) => ?_) (fun (hb : _ = false) => ?_)) <;> replace hb := xnC hb <;> (try first | exact xfC | exact bff hb (by assumption) | exact bff (by assumption) hb)) | ((fail_if_success (with_reducible first | refine xgon ?_ | intro _)); (conv => whnf); (fail_if_success (fail_if_success (with_reducible first | refine xstp ?_ | refine xgon ?_ | intro _)))))
  refine xcal (σ := []) (nl := []) (cdigest0) ?_
  rintro v h' ⟨rfl, rfl⟩ hcaps
  refine xret ?_
  repeat' (first | (fail_if_success (with_reducible refine xstp ?_)); first | ((fail_if_success (with_reducible first | refine xgon ?_ | intro _)); (conv => whnf); (fail_if_success (fail_if_success (with_reducible first | refine xstp ?_ | refine xgon ?_ | intro _)))))
  exact FinK.mk ⟨[], _, _, ⟨rfl, rfl⟩, by (repeat' first | refine And.intro ?_ ?_ | exact xeC | fail)⟩
end Go.Proofs.YtenompgpjlbelaaGreatDoor


namespace Go.Proofs.YtenompgpjlbelaaGreatDoor
open Go.X
set_option linter.unusedSimpArgs false
set_option linter.unusedVariables false
open P4
open P5
theorem encRh_rkA (X : List Ch) (i : Nat) : List.map (C.rk [Sg.whole 1, Sg.whole 2, Sg.whole 3] 4) (encRh 4 X i) = encRh 5 X i := rfl
theorem rH42zlR0 {σ : List Sg} {H h' : List Fam} {v : T} {K : T → List Fam → Prop} {H' : List Fam} {v' : T} {N : Nat} (hk : K v' H') (hN : H.length = N := by (try simp only [↓List.length_cons, ↓List.length_nil, Nat.reduceAdd]) <;> rfl) (h : givesF σ N H σ h' = some H' := by (try simp (maxSteps := 1000000) only [givesF, setF, updF, Fam.zeroth, Fam.rk, Ck.rk, C.rk, E.rk, T.rk, key, List.map_cons, List.map_nil, List.cons_append, List.nil_append, List.length_cons, List.length_nil, Option.map_some, Option.bind_some, Nat.reduceAdd, Nat.zero_add, Nat.add_zero, Nat.add_sub_cancel_left, Int.toNat_natCast, reps, List.all_cons, List.all_nil, C.flat, List.append_eq, Bool.not_true, Bool.and_true, Bool.or_false, Bool.or_self, Bool.not_false, List.append_nil, Bool.and_self, ↓chG_rk]) <;> rfl) (hv : v.rk σ N = v' := by (try simp only [givesF, setF, updF, Fam.zeroth, Fam.rk, Ck.rk, C.rk, E.rk, T.rk, key, List.map_cons, List.map_nil, List.cons_append, List.nil_append, List.length_cons, List.length_nil, Option.map_some, Option.bind_some, Nat.reduceAdd, Nat.zero_add, Nat.add_zero, Nat.add_sub_cancel_left, Int.toNat_natCast, reps, List.all_cons, List.all_nil, C.flat, List.append_eq, Bool.not_true, Bool.and_true, Bool.or_false, Bool.or_self, Bool.not_false, List.append_nil, Bool.and_self, ↓chG_rk]) <;> rfl) : RetG σ H h' v K := ret_mk3 hN h hv hk
theorem rH42zlR1 {σ : List Sg} {H h' : List Fam} {v : T} {K : T → List Fam → Prop} {H' : List Fam} {v' : T} {N : Nat} (hk : K v' H') (hN : H.length = N := by (try simp only [↓List.length_cons, ↓List.length_nil, Nat.reduceAdd]) <;> rfl) (h : givesF σ N H σ h' = some H' := by (try simp (maxSteps := 1000000) only [givesF, setF, updF, Fam.zeroth, Fam.rk, Ck.rk, C.rk, E.rk, T.rk, key, List.map_cons, List.map_nil, List.cons_append, List.nil_append, List.length_cons, List.length_nil, Option.map_some, Option.bind_some, Nat.reduceAdd, Nat.zero_add, Nat.add_zero, Nat.add_sub_cancel_left, Int.toNat_natCast, reps, List.all_cons, List.all_nil, C.flat, List.append_eq, Bool.not_true, Bool.and_true, Bool.or_false, Bool.or_self, Bool.not_false, List.append_nil, Bool.and_self, ↓chG_rk, encRh_rkA]) <;> rfl) (hv : v.rk σ N = v' := by (try simp only [givesF, setF, updF, Fam.zeroth, Fam.rk, Ck.rk, C.rk, E.rk, T.rk, key, List.map_cons, List.map_nil, List.cons_append, List.nil_append, List.length_cons, List.length_nil, Option.map_some, Option.bind_some, Nat.reduceAdd, Nat.zero_add, Nat.add_zero, Nat.add_sub_cancel_left, Int.toNat_natCast, reps, List.all_cons, List.all_nil, C.flat, List.append_eq, Bool.not_true, Bool.and_true, Bool.or_false, Bool.or_self, Bool.not_false, List.append_nil, Bool.and_self, ↓chG_rk, encRh_rkA]) <;> rfl) : RetG σ H h' v K := ret_mk3 hN h hv hk
theorem cH42zlR2 {P : Program} {F : Nat} {args : List T} {H : List Fam} {K : T → List Fam → Prop} {σ : List Sg} {nl : List Fam} {args0 : List T} {h0 : List Fam} {Q : T → List Fam → Prop} {H2 H1 : List Fam} {N n : Nat} (hc : Ctr P F args0 h0 Q) (hk : ∀ v h', Q v h' → capsP h' → RetG σ H2 h' v K) (hap : apart σ = true := by rfl) (hnl : nl.all nilB = true := by rfl) (h1 : H ++ nl = H1 := by first | exact List.append_nil _ | ((try simp only [List.cons_append, List.nil_append]) <;> rfl)) (hN : H1.length = N := by (try simp only [↓List.length_cons, ↓List.length_nil, Nat.reduceAdd]) <;> rfl) (hn : H.length = n := by (try simp only [↓List.length_cons, ↓List.length_nil, Nat.reduceAdd]) <;> rfl) (hH : givesF σ N H1 σ h0 = some H2 := by (try simp (maxSteps := 1000000) only [givesF, setF, updF, Fam.zeroth, Fam.rk, Ck.rk, C.rk, E.rk, T.rk, key, List.map_cons, List.map_nil, List.cons_append, List.nil_append, List.length_cons, List.length_nil, Option.map_some, Option.bind_some, Nat.reduceAdd, Nat.zero_add, Nat.add_zero, Nat.add_sub_cancel_left, Int.toNat_natCast, reps, List.all_cons, List.all_nil, C.flat, List.append_eq, Bool.not_true, Bool.and_true, Bool.or_false, Bool.or_self, Bool.not_false, List.append_nil, Bool.and_self, ↓chG_rk]) <;> rfl) (hle : leS n H1 σ N σ h0 (belsK N (h0.map (Fam.rk σ N)) (argsK n args (args0.map (T.rk σ N)) True)) := by repeat' first | refine And.intro ?_ ?_ | exact xeC | fail) : CallK P F args H K := CallK.mk3 hc hap hnl h1 hN hn hH hle hk
set_option maxRecDepth 10000 in
set_option maxHeartbeats 8000000 in
theorem rwrite (n : Int) (w : Bool) (l : List Rc) (c : Nat) (hl : l.length ≤ 120) (ht : ∀ i, i < l.length → (l.getD i default).tp.length ≤ 1000000) :
    Ctr Tryz.prog 12 [.c (.i .i64 n), .c (.sl 0 0 3 0 l.length c)] [.one (rcR w l c)]
      fun v h => v = .t [.c (.s (mkS (wtS n l))), .c (.i .i64 (wtE n l : Nat))] ∧ h = [.one (rcR w l c)] := by
  refine Ctr.mk' tbv mixed Tryz.func12 rfl rfl rfl (fun _ _ => by kernel_rfl) (by kernel_rfl) (by rfl) (by rfl) (by (repeat' first | refine And.intro ?_ ?_ | exact xeC | fail) <;> (exact xmC)) ?_
  repeat' (first | (fail_if_success (with_reducible refine xstp ?_)); first | (with_reducible intro hc; (try simp only [capsP, and_true] at hc); (try exact xfC)) | ((fail_if_success (with_reducible first | refine xgon ?_ | intro _)); (conv => whnf); (fail_if_success (fail_if_success (with_reducible first | refine xstp ?_ | refine xgon ?_ | intro _)))))
  refine cH42zlR2 (σ := []) (nl := []) (cNewWR n) ?_
  rintro v h' hq hcaps
  rcases hq with ⟨hq, rfl, rfl⟩ | ⟨hn, rfl, rfl⟩
  · have h0 : wtE n l = 4 := if_pos hq
    have h1 : wtS n l = [] := by unfold wtS; rw [h0]; exact if_neg (by decide)
    rw [h0, h1]
    refine rH42zlR0 ?_
    repeat' (first | (fail_if_success (with_reducible refine xstp ?_)); first | ((with_reducible refine And.intro (fun (hb : _ = true) => ?_) (fun (hb : _ = false) => ?_)) <;> replace hb := xnC hb <;> (try first | exact xfC | exact bff hb (by assumption) | exact bff (by assumption) hb)) | ((fail_if_success (with_reducible first | refine xgon ?_ | intro _)); (conv => whnf); (fail_if_success (fail_if_success (with_reducible first | refine xstp ?_ | refine xgon ?_ | intro _)))))
    refine FinK.mk ⟨[0], _, _, ⟨rfl, rfl⟩, ?_⟩
    (repeat' first | refine And.intro ?_ ?_ | exact xeC | fail)
  have hE : wtE n l = wrtE (newW n) l := if_neg (show ¬ badC n by unfold badC; omega)
  have hS : wtS n l = if wrtE (newW n) l = 0 then madeB n l else [] := by unfold wtS; rw [hE]
  rw [hE, hS]
  refine rH42zlR0 ?_
  repeat' (first | (fail_if_success (with_reducible refine xstp ?_)); first | ((with_reducible refine And.intro (fun (hb : _ = true) => ?_) (fun (hb : _ = false) => ?_)) <;> replace hb := xnC hb <;> (try first | exact xfC | exact bff hb (by assumption) | exact bff (by assumption) hb)) | ((fail_if_success (with_reducible first | refine xgon ?_ | intro _)); (conv => whnf); (fail_if_success (fail_if_success (with_reducible first | refine xstp ?_ | refine xgon ?_ | intro _)))))
  refine LoopK.mk' {p : Nat × List Ch × Nat // p.1 ≤ l.length ∧ wrtE (newW n) (l.take p.1) = 0 ∧ p.2.1.map Ch.l = (wrA n (l.take p.1)).L}
    (fun ⟨(i, X, c1), _⟩ => ⟨[(1, .c (.sl 0 0 3 0 l.length c)), (6, .c (.p 1 0 0)), (8, .c (.i .i64 (i : Nat)))],
      [.one (rcR w l c), .one (rwC (wrA n (l.take i)) 2 X.length c1), .one (rhR 3 X c1), .many (chG X)]⟩) (fun p => l.length - p.1.1)
    ⟨⟨(0, [], 0), Nat.zero_le _, rfl, rfl⟩, [0, 1, 2, 3], ?_⟩ ?_
  · (repeat' first | refine And.intro ?_ ?_ | exact xeC | fail)
    all_goals first
      | (exact xmC)
      | skip
  rintro ⟨⟨i, X, c1⟩, hi, hz, hX⟩
  simp only at hi hz hX
  have e2 : 0 + ((i : Nat) : Int).toNat = i := by omega
  have hW := wrtE_WI n _ hz
  have hil : (l.take i).length = i := by rw [List.length_take]; omega
  have hxs := hW.xsA (by omega) hX
  rcases Nat.lt_or_ge i l.length with hlt | hge
  · have hru := wrA_snoc n (l.take i) (l.getD i default)
    have hts := take_snocG l hlt
    rw [← hts] at hru
    have hri := ht i hlt
    repeat' (first | (fail_if_success (with_reducible refine xstp ?_)); first | ((with_reducible refine And.intro (fun (hb : _ = true) => ?_) (fun (hb : _ = false) => ?_)) <;> replace hb := xnC hb <;> (try first | exact xfC | exact bff hb (by assumption) | exact bff (by assumption) hb)) | ((with_reducible refine And.intro ?_ ?_); focus exact xoC) | (with_reducible intro hc; (try simp only [capsP, and_true] at hc); (try exact xfC)) | ((fail_if_success (with_reducible first | refine xgon ?_ | intro _)); (conv => whnf); (fail_if_success (fail_if_success (with_reducible first | refine xstp ?_ | refine xgon ?_ | intro _)))))
    rw [e2]
    refine cH42zlR2 (σ := [.whole 1, .whole 2, .whole 3]) (nl := []) (cAddR (wrA n (l.take i)) X c1 (l.getD i default) hX (by omega) hW.la (by omega) (fun x hx => by have := hxs.2.1 x hx; exact ⟨this.1, by omega, this.2.2⟩) (by omega)) ?_ (hle := by (repeat' first | refine And.intro ?_ ?_ | exact xeC | fail) <;> (exact xmC))
    rintro v h' ⟨X', c1', hX', rfl, rfl⟩ hcaps
    refine rH42zlR1 ?_
    by_cases h0 : addE (wrA n (l.take i)) (l.getD i default) = 0
    · rw [h0]
      repeat' (first | (fail_if_success (with_reducible refine xstp ?_)); first | ((with_reducible refine And.intro (fun (hb : _ = true) => ?_) (fun (hb : _ = false) => ?_)) <;> replace hb := xnC hb <;> (try first | exact xfC | exact bff hb (by assumption) | exact bff (by assumption) hb)) | ((with_reducible refine OvK.fit ?_ ?_); focus exact xoC) | ((fail_if_success (with_reducible first | refine xgon ?_ | intro _)); (conv => whnf); (fail_if_success (fail_if_success (with_reducible first | refine xstp ?_ | refine xgon ?_ | intro _)))))
      refine ⟨⟨(i + 1, X', c1'), hlt, by rw [hts]; exact wrtE_snoc0 hz h0, by rw [hru]; exact hX'⟩, [0, 1, 4, 5], by simp only; omega, ?_⟩
      simp only [hru]
      (repeat' first | refine And.intro ?_ ?_ | exact xeC | fail)
      all_goals first
        | (exact xmC)
        | skip
    · have hh : wrtE (newW n) l = addE (wrA n (l.take i)) (l.getD i default) := by
        have := wrtE_hit (m := l.drop (i + 1)) hz h0
        rw [← drop_consG l hlt, List.take_append_drop] at this
        exact this
      rw [hh, if_neg h0]
      generalize addE (wrA n (l.take i)) (l.getD i default) = e at *
      repeat' (first | (fail_if_success (with_reducible refine xstp ?_)); first | ((with_reducible refine And.intro (fun (hb : _ = true) => ?_) (fun (hb : _ = false) => ?_)) <;> replace hb := xnC hb <;> (try first | exact xfC | exact bff hb (by assumption) | exact bff (by assumption) hb)) | ((fail_if_success (with_reducible first | refine xgon ?_ | intro _)); (conv => whnf); (fail_if_success (fail_if_success (with_reducible first | refine xstp ?_ | refine xgon ?_ | intro _)))))
      refine FinK.mk ⟨[0], _, _, ⟨rfl, rfl⟩, ?_⟩
      (repeat' first | refine And.intro ?_ ?_ | exact xeC | fail)
  · obtain rfl : i = l.length := by omega
    have hmk : XOk X := ⟨by omega, fun x hx => by have := hxs.2.1 x hx; exact ⟨this.1, by omega, this.2.2⟩⟩
    have hcl := hW.cl
    repeat' (first | (fail_if_success (with_reducible refine xstp ?_)); first | ((with_reducible refine And.intro (fun (hb : _ = true) => ?_) (fun (hb : _ = false) => ?_)) <;> replace hb := xnC hb <;> (try first | exact xfC | exact bff hb (by assumption) | exact bff (by assumption) hb)) | (with_reducible intro hc; (try simp only [capsP, and_true] at hc); (try exact xfC)) | ((fail_if_success (with_reducible first | refine xgon ?_ | intro _)); (conv => whnf); (fail_if_success (fail_if_success (with_reducible first | refine xstp ?_ | refine xgon ?_ | intro _)))))
    refine cH42zlR2 (σ := [.whole 1, .whole 2, .whole 3]) (nl := []) (cCloseR (wrA n (l.take l.length)) X c1 hmk hX) ?_ (hle := by (repeat' first | refine And.intro ?_ ?_ | exact xeC | fail) <;> (exact xmC))
    rw [List.take_length] at hcl hz ⊢
    rw [if_neg (by rw [hcl]; decide), if_neg (by rw [hcl]; decide), hz, if_pos rfl]
    rintro v h' ⟨rfl, rfl⟩ hcaps
    refine rH42zlR0 ?_
    repeat' (first | (fail_if_success (with_reducible refine xstp ?_)); first | ((fail_if_success (with_reducible first | refine xgon ?_ | intro _)); (conv => whnf); (fail_if_success (fail_if_success (with_reducible first | refine xstp ?_ | refine xgon ?_ | intro _)))))
    refine FinK.mk ⟨[0], _, _, ⟨rfl, rfl⟩, ?_⟩
    (repeat' first | refine And.intro ?_ ?_ | exact xeC | fail)
end Go.Proofs.YtenompgpjlbelaaGreatDoor


namespace Go.Proofs.YtenompgpjlbelaaGreatDoor
open Go.X
set_option linter.unusedVariables false
/-- A player: its records, its time, its position. -/
structure Pl where
  l : List Rc
  at_ : Int
  pos : Nat
def plN (l : List Rc) : Pl := ⟨l, if 0 < l.length then (l.getD 0 default).at_ else 0, 0⟩
/-- The records behind a position while they pass a test. -/
def twh (q : Rc → Bool) (l : List Rc) (p : Nat) : List Rc := (l.drop p).takeWhile q
theorem twh_len (q : Rc → Bool) (l : List Rc) (p : Nat) : (twh q l p).length ≤ l.length - p := by
  have := (List.takeWhile_prefix (p := q) (l := l.drop p)).length_le
  rw [List.length_drop] at this
  exact this
theorem twh_at {q : Rc → Bool} {l : List Rc} {p k : Nat} (h : k < (twh q l p).length) : p + k < l.length ∧ q (l.getD (p + k) default) = true ∧ (twh q l p).getD k default = l.getD (p + k) default := by
  have hl := twh_len q l p
  have e : (twh q l p).getD k default = l.getD (p + k) default := by
    rw [getD_at h, getD_at (show p + k < l.length by omega)]
    have e2 := (List.takeWhile_prefix (p := q) (l := l.drop p)).getElem (i := k) h
    unfold twh
    rw [e2, List.getElem_drop]
  refine ⟨by omega, ?_, e⟩
  rw [← e, getD_at h]
  exact List.all_eq_true.1 List.all_takeWhile _ (List.getElem_mem h)
theorem twh_end {q : Rc → Bool} {l : List Rc} {p : Nat} (h : p + (twh q l p).length < l.length) : q (l.getD (p + (twh q l p).length) default) = false := by
  rw [← Bool.not_eq_true]
  intro hq
  have key : ∀ (m : List Rc) (h : (m.takeWhile q).length < m.length), q (m.getD (m.takeWhile q).length default) = true → False := by
    intro m
    induction m with
    | nil => intro h; exact absurd h (Nat.not_lt_zero _)
    | cons x m ih =>
      intro h hq
      by_cases hx : q x = true
      · rw [List.takeWhile_cons_of_pos hx, List.length_cons, List.getD_cons_succ] at hq
        rw [List.takeWhile_cons_of_pos hx, List.length_cons, List.length_cons] at h
        exact ih (by omega) hq
      · rw [List.takeWhile_cons_of_neg hx] at hq
        exact hx hq
  refine key (l.drop p) (by rw [List.length_drop]; unfold twh at h; omega) ?_
  rw [show (l.drop p).getD ((l.drop p).takeWhile q).length default = l.getD (p + ((l.drop p).takeWhile q).length) default by simp only [List.getD, List.getElem?_drop]]
  exact hq
def bef (a : Int) (r : Rc) : Bool := decide (r.at_ < a)
def upt (a : Int) (r : Rc) : Bool := decide (r.at_ ≤ a)
def skE (a : Int) : Nat := if a < 0 ∨ 1099511627776 < a then 4 else 0
def skP (p : Pl) (a : Int) : Pl := if skE a = 0 then ⟨p.l, a, (twh (bef a) p.l 0).length⟩ else p
def spE (p : Pl) (a : Int) : Nat := if a < p.at_ ∨ 1099511627776 < a then 17 else 0
def spP (p : Pl) (a : Int) : Pl := if spE p a = 0 then ⟨p.l, a, p.pos + (twh (upt a) p.l p.pos).length⟩ else p
def spL (p : Pl) (a : Int) : List Rc := if spE p a = 0 then twh (upt a) p.l p.pos else []
def rtB (n d w : Int) : Prop := n < 0 ∨ 1000 < n ∨ d < 1 ∨ 1000 < d ∨ w < 0 ∨ 1073741824 < w
instance (n d w : Int) : Decidable (rtB n d w) := by unfold rtB; infer_instance
def rtV (p : Pl) (n d w : Int) : Int × Nat := if rtB n d w then (0, 4) else if 1099511627776 < p.at_ + (w * n).tdiv d then (0, 17) else (p.at_ + (w * n).tdiv d, 0)
theorem rt_bd {n d w : Int} (h : ¬ rtB n d w) : (0 ≤ w * n ∧ w * n ≤ 1073741824000) ∧ 0 ≤ (w * n).tdiv d ∧ (w * n).tdiv d ≤ 1073741824000 ∧ 1 ≤ d ∧ d ≤ 1000 := by
  unfold rtB at h
  have h1 : 0 ≤ w * n := Int.mul_nonneg (by omega) (by omega)
  have h2 : w * n ≤ 1073741824 * 1000 := Int.mul_le_mul (by omega) (by omega) (by omega) (by omega)
  have h3 : (w * n).tdiv d = (w * n) / d := Int.tdiv_eq_ediv_of_nonneg h1
  have h4 : 0 ≤ (w * n) / d := Int.ediv_nonneg h1 (by omega)
  have h5 : (w * n) / d ≤ w * n := Int.ediv_le_self _ h1
  refine ⟨⟨h1, by omega⟩, by omega, by omega, by omega, by omega⟩
/-- Times of a player's records, and of the player, are simulated times. -/
structure PlOk (p : Pl) : Prop where
  n : p.l.length ≤ 100000
  t : ∀ r ∈ p.l, 0 ≤ r.at_ ∧ r.at_ ≤ 1099511627776
  a : 0 ≤ p.at_ ∧ p.at_ ≤ 1099511627776
  p : p.pos ≤ p.l.length
theorem PlOk.new {l : List Rc} (h : l.length ≤ 100000) (ht : ∀ r ∈ l, 0 ≤ r.at_ ∧ r.at_ ≤ 1099511627776) : PlOk (plN l) := by
  refine ⟨h, ht, ?_, Nat.zero_le _⟩
  unfold plN
  simp only
  split
  · rename_i h0
    exact ht _ (by rw [getD_at h0]; exact List.getElem_mem _)
  · decide
theorem PlOk.seek {p : Pl} (h : PlOk p) (a : Int) : PlOk (skP p a) := by
  by_cases h0 : a < 0 ∨ 1099511627776 < a
  · have e : skP p a = p := by unfold skP skE; rw [if_pos h0]; exact if_neg (by decide)
    rw [e]; exact h
  · have e : skP p a = ⟨p.l, a, (twh (bef a) p.l 0).length⟩ := by unfold skP skE; rw [if_neg h0]; exact if_pos rfl
    rw [e]
    have := twh_len (bef a) p.l 0
    exact ⟨h.n, h.t, by simp only; omega, by simp only; omega⟩
theorem PlOk.step {p : Pl} (h : PlOk p) (a : Int) : PlOk (spP p a) := by
  have ha := h.a
  have hp := h.p
  by_cases h0 : a < p.at_ ∨ 1099511627776 < a
  · have e : spP p a = p := by unfold spP spE; rw [if_pos h0]; exact if_neg (by decide)
    rw [e]; exact h
  · have e : spP p a = ⟨p.l, a, p.pos + (twh (upt a) p.l p.pos).length⟩ := by unfold spP spE; rw [if_neg h0]; exact if_pos rfl
    rw [e]
    have := twh_len (upt a) p.l p.pos
    exact ⟨h.n, h.t, by simp only; omega, by simp only; omega⟩
end Go.Proofs.YtenompgpjlbelaaGreatDoor


namespace Go.Proofs.YtenompgpjlbelaaGreatDoor
open Go.X
set_option linter.unusedSimpArgs false
set_option linter.unusedVariables false
open P4
open P5
abbrev plC (p : Pl) (F c : Nat) : Ck := .cells true [.sl F 0 3 0 p.l.length c, .i .i64 p.at_, .i .i64 p.pos]
set_option maxRecDepth 10000 in
set_option maxHeartbeats 4000000 in
theorem cnew (s : List UInt8) (hls : s.length ≤ 640000) (l : List Rc) (e e2 : Nat) (h1 : bgE s = e) (h2 : allB s = (l, e2)) :
    Ctr Tryz.prog 19 [.c (.s (mkS s))] []
      fun v h => (e ≠ 0 ∧ v = .t [.c .nilp, .c (.i .i64 (e : Nat))] ∧ h = []) ∨ (e = 0 ∧ e2 ≠ 0 ∧ v = .t [.c .nilp, .c (.i .i64 (e2 : Nat))] ∧ h = []) ∨
        (e = 0 ∧ e2 = 0 ∧ ∃ c, v = .t [.c (.p 0 0 0), .c (.i .i64 0)] ∧ h = [.one (plC (plN l) 1 c), .one (rcR true l c)]) := by
  have hal := callG s hls l e e2 h1 h2
  clear h1 h2
  refine Ctr.mk' tbv mixed Tryz.func19 rfl rfl rfl (fun _ _ => by kernel_rfl) (by kernel_rfl) (by rfl) (by rfl) (by (repeat' first | refine And.intro ?_ ?_ | exact xeC | fail)) ?_
  repeat' (first | (fail_if_success (with_reducible refine xstp ?_)); first | (with_reducible intro hc; (try simp only [capsP, and_true] at hc); (try exact xfC)) | ((fail_if_success (with_reducible first | refine xgon ?_ | intro _)); (conv => whnf); (fail_if_success (fail_if_success (with_reducible first | refine xstp ?_ | refine xgon ?_ | intro _)))))
  refine xcal (σ := []) (nl := []) (hal) ?_
  rintro v h' (⟨he, rfl, rfl⟩ | ⟨he, c, rfl, rfl⟩) hcaps
  · refine xret ?_
    repeat' (first | (fail_if_success (with_reducible refine xstp ?_)); first | ((with_reducible refine And.intro (fun (hb : _ = true) => ?_) (fun (hb : _ = false) => ?_)) <;> replace hb := xnC hb <;> (try first | exact xfC | exact bff hb (by assumption) | exact bff (by assumption) hb)) | ((fail_if_success (with_reducible first | refine xgon ?_ | intro _)); (conv => whnf); (fail_if_success (fail_if_success (with_reducible first | refine xstp ?_ | refine xgon ?_ | intro _)))))
    exact FinK.mk ⟨[], _, _, .inl ⟨he, rfl, rfl⟩, by (repeat' first | refine And.intro ?_ ?_ | exact xeC | fail)⟩
  by_cases he2 : e2 = 0
  · rw [he2]
    refine xret ?_
    repeat' (first | (fail_if_success (with_reducible refine xstp ?_)); first | ((with_reducible refine And.intro (fun (hb : _ = true) => ?_) (fun (hb : _ = false) => ?_)) <;> replace hb := xnC hb <;> (try first | exact xfC | exact bff hb (by assumption) | exact bff (by assumption) hb)) | ((with_reducible refine And.intro ?_ ?_); focus exact xoC) | ((fail_if_success (with_reducible first | refine xgon ?_ | intro _)); (conv => whnf); (fail_if_success (fail_if_success (with_reducible first | refine xstp ?_ | refine xgon ?_ | intro _)))))
    · have hp : plN l = ⟨l, (l.getD 0 default).at_, 0⟩ := by unfold plN; rw [if_pos (by omega)]
      refine FinK.mk ⟨[1, 0], _, _, .inr (.inr ⟨he, rfl, c, rfl, rfl⟩), ?_⟩
      rw [hp]
      (repeat' first | refine And.intro ?_ ?_ | exact xeC | fail)
    · have hp : plN l = ⟨l, 0, 0⟩ := by unfold plN; rw [if_neg (by omega)]
      refine FinK.mk ⟨[1, 0], _, _, .inr (.inr ⟨he, rfl, c, rfl, rfl⟩), ?_⟩
      rw [hp]
      (repeat' first | refine And.intro ?_ ?_ | exact xeC | fail)
  · refine xret ?_
    repeat' (first | (fail_if_success (with_reducible refine xstp ?_)); first | ((with_reducible refine And.intro (fun (hb : _ = true) => ?_) (fun (hb : _ = false) => ?_)) <;> replace hb := xnC hb <;> (try first | exact xfC | exact bff hb (by assumption) | exact bff (by assumption) hb)) | ((fail_if_success (with_reducible first | refine xgon ?_ | intro _)); (conv => whnf); (fail_if_success (fail_if_success (with_reducible first | refine xstp ?_ | refine xgon ?_ | intro _)))))
    exact FinK.mk ⟨[], _, _, .inr (.inl ⟨he, he2, rfl, rfl⟩), by (repeat' first | refine And.intro ?_ ?_ | exact xeC | fail)⟩
set_option maxRecDepth 10000 in
theorem cnow (p : Pl) (c : Nat) :
    Ctr Tryz.prog 20 [.c (.p 0 0 0)] [.one (plC p 1 c), .one (rcR true p.l c)]
      fun v h => v = .c (.i .i64 p.at_) ∧ h = [.one (plC p 1 c), .one (rcR true p.l c)] := by
  refine Ctr.mk' tbv mixed Tryz.func20 rfl rfl rfl (fun _ _ => by kernel_rfl) (by kernel_rfl) (by rfl) (by rfl) (by (repeat' first | refine And.intro ?_ ?_ | exact xeC | fail)) ?_
  repeat' (first | (fail_if_success (with_reducible refine xstp ?_)); first | (with_reducible intro hc; (try simp only [capsP, and_true] at hc); (try exact xfC)) | ((fail_if_success (with_reducible first | refine xgon ?_ | intro _)); (conv => whnf); (fail_if_success (fail_if_success (with_reducible first | refine xstp ?_ | refine xgon ?_ | intro _)))))
  refine FinK.mk ⟨[0, 1], _, _, ⟨rfl, rfl⟩, ?_⟩
  (repeat' first | refine And.intro ?_ ?_ | exact xeC | fail)
set_option maxRecDepth 10000 in
set_option maxHeartbeats 4000000 in
theorem cseek (p : Pl) (c : Nat) (a : Int) (hp : PlOk p) :
    Ctr Tryz.prog 24 [.c (.p 0 0 0), .c (.i .i64 a)] [.one (plC p 1 c), .one (rcR true p.l c)]
      fun v h => v = .c (.i .i64 (skE a : Nat)) ∧ h = [.one (plC (skP p a) 1 c), .one (rcR true p.l c)] := by
  have hn := hp.n
  refine Ctr.mk' tbv mixed Tryz.func24 rfl rfl rfl (fun _ _ => by kernel_rfl) (by kernel_rfl) (by rfl) (by rfl) (by (repeat' first | refine And.intro ?_ ?_ | exact xeC | fail)) ?_
  repeat' (first | (fail_if_success (with_reducible refine xstp ?_)); first | ((with_reducible refine And.intro (fun (hb : _ = true) => ?_) (fun (hb : _ = false) => ?_)) <;> replace hb := xnC hb <;> (try first | exact xfC | exact bff hb (by assumption) | exact bff (by assumption) hb)) | (with_reducible intro hc; (try simp only [capsP, and_true] at hc); (try exact xfC)) | ((fail_if_success (with_reducible first | refine xgon ?_ | intro _)); (conv => whnf); (fail_if_success (fail_if_success (with_reducible first | refine xstp ?_ | refine xgon ?_ | intro _)))))
  · rw [show skE a = 4 from if_pos (.inl hb), show skP p a = p by unfold skP; rw [show skE a = 4 from if_pos (.inl hb)]; exact if_neg (by decide)]
    refine FinK.mk ⟨[0, 1], _, _, ⟨rfl, rfl⟩, ?_⟩
    (repeat' first | refine And.intro ?_ ?_ | exact xeC | fail)
  · rw [show skE a = 4 from if_pos (.inr hb), show skP p a = p by unfold skP; rw [show skE a = 4 from if_pos (.inr hb)]; exact if_neg (by decide)]
    refine FinK.mk ⟨[0, 1], _, _, ⟨rfl, rfl⟩, ?_⟩
    (repeat' first | refine And.intro ?_ ?_ | exact xeC | fail)
  have h0 : skE a = 0 := if_neg (by omega)
  have h1 : skP p a = ⟨p.l, a, (twh (bef a) p.l 0).length⟩ := by unfold skP; rw [if_pos h0]
  rw [h0, h1]
  have hq := @twh_at (bef a) p.l 0
  have hw := twh_end (q := bef a) (l := p.l) (p := 0)
  have hwl := twh_len (bef a) p.l 0
  generalize twh (bef a) p.l 0 = W at *
  refine LoopK.mk' {k : Nat // k ≤ W.length}
    (fun ⟨k, _⟩ => ⟨[(0, .c (.p 0 0 0)), (1, .c (.i .i64 a))], [.one (plC ⟨p.l, a, k⟩ 1 c), .one (rcR true p.l c)]⟩) (fun k => W.length - k.1)
    ⟨⟨0, Nat.zero_le _⟩, [0, 1], ?_⟩ ?_
  · (repeat' first | refine And.intro ?_ ?_ | exact xeC | fail)
  rintro ⟨k, hk⟩
  simp only [Nat.zero_add] at hq hw
  rcases Nat.lt_or_ge k W.length with hlt | hge
  · obtain ⟨g1, g2, _⟩ := hq hlt
    have g2 := of_decide_eq_true g2
    repeat' (first | (fail_if_success (with_reducible refine xstp ?_)); first | ((with_reducible refine And.intro (fun (hb : _ = true) => ?_) (fun (hb : _ = false) => ?_)) <;> replace hb := xnC hb <;> (try first | exact xfC | exact bff hb (by assumption) | exact bff (by assumption) hb)) | ((with_reducible refine And.intro ?_ ?_); focus exact xoC) | ((with_reducible refine OvK.fit ?_ ?_); focus exact xoC) | (with_reducible intro hc; (try simp only [capsP, and_true] at hc); (try exact xfC)) | ((fail_if_success (with_reducible first | refine xgon ?_ | intro _)); (conv => whnf); (fail_if_success (fail_if_success (with_reducible first | refine xstp ?_ | refine xgon ?_ | intro _)))))
    refine ⟨⟨k + 1, hlt⟩, [0, 1], by simp only; omega, ?_⟩
    (repeat' first | refine And.intro ?_ ?_ | exact xeC | fail)
  · obtain rfl : k = W.length := by omega
    repeat' (first | (fail_if_success (with_reducible refine xstp ?_)); first | ((with_reducible refine And.intro (fun (hb : _ = true) => ?_) (fun (hb : _ = false) => ?_)) <;> replace hb := xnC hb <;> (try first | exact xfC | exact bff hb (by assumption) | exact bff (by assumption) hb)) | ((with_reducible refine And.intro ?_ ?_); focus exact xoC) | ((with_reducible refine OvK.fit ?_ ?_); focus exact xoC) | (with_reducible intro hc; (try simp only [capsP, and_true] at hc); (try exact xfC)) | ((fail_if_success (with_reducible first | refine xgon ?_ | intro _)); (conv => whnf); (fail_if_success (fail_if_success (with_reducible first | refine xstp ?_ | refine xgon ?_ | intro _)))))
    · have := hw (by omega)
      have g2 := of_decide_eq_false this
      omega
    · refine FinK.mk ⟨[0, 1], _, _, ⟨rfl, rfl⟩, ?_⟩
      (repeat' first | refine And.intro ?_ ?_ | exact xeC | fail)
    · refine FinK.mk ⟨[0, 1], _, _, ⟨rfl, rfl⟩, ?_⟩
      (repeat' first | refine And.intro ?_ ?_ | exact xeC | fail)
set_option maxRecDepth 10000 in
set_option maxHeartbeats 4000000 in
theorem cstep (p : Pl) (c : Nat) (a : Int) (hp : PlOk p) :
    Ctr Tryz.prog 21 [.c (.p 0 0 0), .c (.i .i64 a)] [.one (plC p 1 c), .one (rcR true p.l c)]
      fun v h => ∃ c', v = .t [.c (.sl 2 0 3 0 (spL p a).length c'), .c (.i .i64 (spE p a : Nat))] ∧ h = [.one (plC (spP p a) 1 c), .one (rcR true p.l c), .one (rcR true (spL p a) c')] := by
  have hn := hp.n
  have hps := hp.p
  refine Ctr.mk' tbv mixed Tryz.func21 rfl rfl rfl (fun _ _ => by kernel_rfl) (by kernel_rfl) (by rfl) (by rfl) (by (repeat' first | refine And.intro ?_ ?_ | exact xeC | fail)) ?_
  repeat' (first | (fail_if_success (with_reducible refine xstp ?_)); first | ((with_reducible refine And.intro (fun (hb : _ = true) => ?_) (fun (hb : _ = false) => ?_)) <;> replace hb := xnC hb <;> (try first | exact xfC | exact bff hb (by assumption) | exact bff (by assumption) hb)) | (with_reducible intro hc; (try simp only [capsP, and_true] at hc); (try exact xfC)) | ((fail_if_success (with_reducible first | refine xgon ?_ | intro _)); (conv => whnf); (fail_if_success (fail_if_success (with_reducible first | refine xstp ?_ | refine xgon ?_ | intro _)))))
  · have h0 : spE p a = 17 := if_pos (.inl hb)
    rw [h0, show spP p a = p by unfold spP; rw [h0]; exact if_neg (by decide), show spL p a = [] by unfold spL; rw [h0]; exact if_neg (by decide)]
    refine FinK.mk ⟨[0, 1, 99], _, _, ⟨0, rfl, rfl⟩, ?_⟩
    (repeat' first | refine And.intro ?_ ?_ | exact xeC | fail)
  · have h0 : spE p a = 17 := if_pos (.inr hb)
    rw [h0, show spP p a = p by unfold spP; rw [h0]; exact if_neg (by decide), show spL p a = [] by unfold spL; rw [h0]; exact if_neg (by decide)]
    refine FinK.mk ⟨[0, 1, 99], _, _, ⟨0, rfl, rfl⟩, ?_⟩
    (repeat' first | refine And.intro ?_ ?_ | exact xeC | fail)
  have h0 : spE p a = 0 := if_neg (by omega)
  have h1 : spP p a = ⟨p.l, a, p.pos + (twh (upt a) p.l p.pos).length⟩ := by unfold spP; rw [if_pos h0]
  have h2 : spL p a = twh (upt a) p.l p.pos := by unfold spL; rw [if_pos h0]
  rw [h0, h1, h2]
  have hq := @twh_at (upt a) p.l p.pos
  have hw := twh_end (q := upt a) (l := p.l) (p := p.pos)
  have hwl := twh_len (upt a) p.l p.pos
  generalize twh (upt a) p.l p.pos = W at *
  refine LoopK.mk' {k : Nat × Nat // k.1 ≤ W.length}
    (fun ⟨(k, cc), _⟩ => ⟨[(0, .c (.p 0 0 0)), (1, .c (.i .i64 a)), (6, .c (.sl 2 0 3 0 (W.take k).length cc))], [.one (plC ⟨p.l, p.at_, p.pos + k⟩ 1 c), .one (rcR true p.l c), .one (rcR true (W.take k) cc)]⟩) (fun k => W.length - k.1.1)
    ⟨⟨(0, 0), Nat.zero_le _⟩, [0, 1, 99], ?_⟩ ?_
  · (repeat' first | refine And.intro ?_ ?_ | exact xeC | fail)
    all_goals first | (intro i hi; exact absurd hi (Nat.not_lt_zero i)) | skip
  rintro ⟨⟨k, cc⟩, hk⟩
  simp only at hk
  have e3 : 0 + (((p.pos + k : Nat) : Nat) : Int).toNat = p.pos + k := by omega
  have hkl : (W.take k).length = k := by rw [List.length_take]; omega
  rcases Nat.lt_or_ge k W.length with hlt | hge
  · obtain ⟨g1, g2, g3⟩ := hq hlt
    have g2 := of_decide_eq_true g2
    have hsn := take_snocG W hlt
    rw [g3] at hsn
    repeat' (first | (fail_if_success (with_reducible refine xstp ?_)); first | ((with_reducible refine And.intro (fun (hb : _ = true) => ?_) (fun (hb : _ = false) => ?_)) <;> replace hb := xnC hb <;> (try first | exact xfC | exact bff hb (by assumption) | exact bff (by assumption) hb)) | ((with_reducible refine And.intro ?_ ?_); focus exact xoC) | ((with_reducible refine OvK.fit ?_ ?_); focus exact xoC) | ((with_reducible refine Or.inl ⟨?_, ?_, ?_⟩); (focus rfl); focus exact xaC) | (with_reducible intro hc; (try simp only [capsP, and_true] at hc); (try exact xfC)) | ((fail_if_success (with_reducible first | refine xgon ?_ | intro _)); (conv => whnf); (fail_if_success (fail_if_success (with_reducible first | refine xstp ?_ | refine xgon ?_ | intro _)))))
    rename_i c5
    rw [e3]
    refine ⟨⟨(k + 1, c5), hlt⟩, [0, 1, 4], by simp only; omega, ?_⟩
    simp only [hsn]
    (repeat' first | refine And.intro ?_ ?_ | exact xeC | fail)
    all_goals first | omega | (simp only [List.length_append, List.length_singleton]; done) | (rw [List.length_append, List.length_singleton]; omega) | (intro i hi; (first | refine app_rowG _ _ _ _ ?_ i hi | refine app_row _ _ _ ?_ i hi); first | rfl | (simp only [Int.toNat_natCast, Nat.zero_add]; rfl))
  · obtain rfl : k = W.length := by omega
    repeat' (first | (fail_if_success (with_reducible refine xstp ?_)); first | ((with_reducible refine And.intro (fun (hb : _ = true) => ?_) (fun (hb : _ = false) => ?_)) <;> replace hb := xnC hb <;> (try first | exact xfC | exact bff hb (by assumption) | exact bff (by assumption) hb)) | ((with_reducible refine And.intro ?_ ?_); focus exact xoC) | ((with_reducible refine OvK.fit ?_ ?_); focus exact xoC) | ((with_reducible refine Or.inl ⟨?_, ?_, ?_⟩); (focus rfl); focus exact xaC) | (with_reducible intro hc; (try simp only [capsP, and_true] at hc); (try exact xfC)) | ((fail_if_success (with_reducible first | refine xgon ?_ | intro _)); (conv => whnf); (fail_if_success (fail_if_success (with_reducible first | refine xstp ?_ | refine xgon ?_ | intro _)))))
    · have := hw (by omega)
      have g2 := of_decide_eq_false this
      omega
    · rw [List.take_length]
      refine FinK.mk ⟨[0, 1, 2], _, _, ⟨cc, rfl, rfl⟩, ?_⟩
      (repeat' first | refine And.intro ?_ ?_ | exact xeC | fail)
    · rw [List.take_length]
      refine FinK.mk ⟨[0, 1, 2], _, _, ⟨cc, rfl, rfl⟩, ?_⟩
      (repeat' first | refine And.intro ?_ ?_ | exact xeC | fail)
set_option maxRecDepth 10000 in
set_option maxHeartbeats 4000000 in
theorem crate (p : Pl) (c : Nat) (n d w : Int) (hp : PlOk p) :
    Ctr Tryz.prog 27 [.c (.p 0 0 0), .c (.i .i64 n), .c (.i .i64 d), .c (.i .i64 w)] [.one (plC p 1 c), .one (rcR true p.l c)]
      fun v h => v = .t [.c (.i .i64 (rtV p n d w).1), .c (.i .i64 ((rtV p n d w).2 : Nat))] ∧ h = [.one (plC p 1 c), .one (rcR true p.l c)] := by
  have hpa := hp.a
  refine Ctr.mk' tbv mixed Tryz.func27 rfl rfl rfl (fun _ _ => by kernel_rfl) (by kernel_rfl) (by rfl) (by rfl) (by (repeat' first | refine And.intro ?_ ?_ | exact xeC | fail)) ?_
  by_cases hr : rtB n d w
  · rw [show rtV p n d w = (0, 4) from if_pos hr]
    unfold rtB at hr
    repeat' (first | (fail_if_success (with_reducible refine xstp ?_)); first | ((with_reducible refine And.intro (fun (hb : _ = true) => ?_) (fun (hb : _ = false) => ?_)) <;> replace hb := xnC hb <;> (try first | exact xfC | exact bff hb (by assumption) | exact bff (by assumption) hb)) | (with_reducible intro hc; (try simp only [capsP, and_true] at hc); (try exact xfC)) | ((fail_if_success (with_reducible first | refine xgon ?_ | intro _)); (conv => whnf); (fail_if_success (fail_if_success (with_reducible first | refine xstp ?_ | refine xgon ?_ | intro _)))))
    all_goals first
      | (exfalso; omega)
      | (refine FinK.mk ⟨[0, 1], _, _, ⟨rfl, rfl⟩, ?_⟩; (repeat' first | refine And.intro ?_ ?_ | exact xeC | fail))
  · have hw := rt_bd hr
    rw [show rtV p n d w = if 1099511627776 < p.at_ + (w * n).tdiv d then (0, 17) else (p.at_ + (w * n).tdiv d, 0) from if_neg hr]
    unfold rtB at hr
    repeat' (first | (fail_if_success (with_reducible refine xstp ?_)); first | ((with_reducible refine And.intro (fun (hb : _ = true) => ?_) (fun (hb : _ = false) => ?_)) <;> replace hb := xnC hb <;> (try first | exact xfC | exact bff hb (by assumption) | exact bff (by assumption) hb)) | ((with_reducible refine And.intro ?_ ?_); focus exact xoC) | ((with_reducible refine OvK.fit ?_ ?_); focus exact xoC) | (with_reducible intro hc; (try simp only [capsP, and_true] at hc); (try exact xfC)) | ((fail_if_success (with_reducible first | refine xgon ?_ | intro _)); (conv => whnf); (fail_if_success (fail_if_success (with_reducible first | refine xstp ?_ | refine xgon ?_ | intro _)))))
    · rw [if_pos hb]
      refine FinK.mk ⟨[0, 1], _, _, ⟨rfl, rfl⟩, ?_⟩
      (repeat' first | refine And.intro ?_ ?_ | exact xeC | fail)
    · rw [if_neg (by omega)]
      refine FinK.mk ⟨[0, 1], _, _, ⟨rfl, rfl⟩, ?_⟩
      (repeat' first | refine And.intro ?_ ?_ | exact xeC | fail)
end Go.Proofs.YtenompgpjlbelaaGreatDoor


namespace Go.Proofs.YtenompgpjlbelaaGreatDoor
open Go.X
set_option linter.unusedSimpArgs false
set_option linter.unusedVariables false
open P4
open P5
abbrev plA (p : Pl) (F c : Nat) : List C := [.sl F 0 3 0 p.l.length c, .i .i64 p.at_, .i .i64 p.pos]
set_option maxRecDepth 10000 in
set_option maxHeartbeats 4000000 in
theorem rnewP (w : Bool) (l : List Rc) (c : Nat) (hl : l.length ≤ 100000) :
    Ctr Tryz.prog 22 [.c (.sl 0 0 3 0 l.length c)] [.one (rcR w l c)]
      fun v h => v = .a (plA (plN l) 0 c) ∧ h = [.one (rcR w l c)] := by
  refine Ctr.mk' tbv mixed Tryz.func22 rfl rfl rfl (fun _ _ => by kernel_rfl) (by kernel_rfl) (by rfl) (by rfl) (by (repeat' first | refine And.intro ?_ ?_ | exact xeC | fail)) ?_
  repeat' (first | (fail_if_success (with_reducible refine xstp ?_)); first | ((with_reducible refine And.intro (fun (hb : _ = true) => ?_) (fun (hb : _ = false) => ?_)) <;> replace hb := xnC hb <;> (try first | exact xfC | exact bff hb (by assumption) | exact bff (by assumption) hb)) | ((with_reducible refine And.intro ?_ ?_); focus exact xoC) | (with_reducible intro hc; (try simp only [capsP, and_true] at hc); (try exact xfC)) | ((fail_if_success (with_reducible first | refine xgon ?_ | intro _)); (conv => whnf); (fail_if_success (fail_if_success (with_reducible first | refine xstp ?_ | refine xgon ?_ | intro _)))))
  · rw [show plN l = ⟨l, (l.getD 0 default).at_, 0⟩ by unfold plN; rw [if_pos (by omega)]]
    refine FinK.mk ⟨[0], _, _, ⟨rfl, rfl⟩, ?_⟩
    (repeat' first | refine And.intro ?_ ?_ | exact xeC | fail)
  · rw [show plN l = ⟨l, 0, 0⟩ by unfold plN; rw [if_neg (by omega)]]
    refine FinK.mk ⟨[0], _, _, ⟨rfl, rfl⟩, ?_⟩
    (repeat' first | refine And.intro ?_ ?_ | exact xeC | fail)
set_option maxRecDepth 10000 in
set_option maxHeartbeats 4000000 in
theorem rseek (p : Pl) (w : Bool) (c : Nat) (a : Int) (hp : PlOk p) :
    Ctr Tryz.prog 23 [.a (plA p 0 c), .c (.i .i64 a)] [.one (rcR w p.l c)]
      fun v h => v = .t [.a (plA (skP p a) 0 c), .c (.i .i64 (skE a : Nat))] ∧ h = [.one (rcR w p.l c)] := by
  have hn := hp.n
  refine Ctr.mk' tbv mixed Tryz.func23 rfl rfl rfl (fun _ _ => by kernel_rfl) (by kernel_rfl) (by rfl) (by rfl) (by (repeat' first | refine And.intro ?_ ?_ | exact xeC | fail)) ?_
  repeat' (first | (fail_if_success (with_reducible refine xstp ?_)); first | ((with_reducible refine And.intro (fun (hb : _ = true) => ?_) (fun (hb : _ = false) => ?_)) <;> replace hb := xnC hb <;> (try first | exact xfC | exact bff hb (by assumption) | exact bff (by assumption) hb)) | (with_reducible intro hc; (try simp only [capsP, and_true] at hc); (try exact xfC)) | ((fail_if_success (with_reducible first | refine xgon ?_ | intro _)); (conv => whnf); (fail_if_success (fail_if_success (with_reducible first | refine xstp ?_ | refine xgon ?_ | intro _)))))
  · rw [show skE a = 4 from if_pos (.inl hb), show skP p a = p by unfold skP; rw [show skE a = 4 from if_pos (.inl hb)]; exact if_neg (by decide)]
    refine FinK.mk ⟨[0], _, _, ⟨rfl, rfl⟩, ?_⟩
    (repeat' first | refine And.intro ?_ ?_ | exact xeC | fail)
  · rw [show skE a = 4 from if_pos (.inr hb), show skP p a = p by unfold skP; rw [show skE a = 4 from if_pos (.inr hb)]; exact if_neg (by decide)]
    refine FinK.mk ⟨[0], _, _, ⟨rfl, rfl⟩, ?_⟩
    (repeat' first | refine And.intro ?_ ?_ | exact xeC | fail)
  have h0 : skE a = 0 := if_neg (by omega)
  have h1 : skP p a = ⟨p.l, a, (twh (bef a) p.l 0).length⟩ := by unfold skP; rw [if_pos h0]
  rw [h0, h1]
  have hq := @twh_at (bef a) p.l 0
  have hw := twh_end (q := bef a) (l := p.l) (p := 0)
  have hwl := twh_len (bef a) p.l 0
  generalize twh (bef a) p.l 0 = W at *
  refine LoopK.mk' {k : Nat // k ≤ W.length}
    (fun ⟨k, _⟩ => ⟨[(1, .c (.i .i64 a)), (4, .c (.p 1 0 0)), (6, .c (.p 2 0 0))], [.one (rcR w p.l c), .one (.cells true [.nils, .i .i64 0, .i .i64 0]), .one (.cells true (plA ⟨p.l, a, k⟩ 0 c))]⟩) (fun k => W.length - k.1)
    ⟨⟨0, Nat.zero_le _⟩, [0, 2, 3], ?_⟩ ?_
  · (repeat' first | refine And.intro ?_ ?_ | exact xeC | fail)
  rintro ⟨k, hk⟩
  simp only [Nat.zero_add] at hq hw
  rcases Nat.lt_or_ge k W.length with hlt | hge
  · obtain ⟨g1, g2, _⟩ := hq hlt
    have g2 := of_decide_eq_true g2
    repeat' (first | (fail_if_success (with_reducible refine xstp ?_)); first | ((with_reducible refine And.intro (fun (hb : _ = true) => ?_) (fun (hb : _ = false) => ?_)) <;> replace hb := xnC hb <;> (try first | exact xfC | exact bff hb (by assumption) | exact bff (by assumption) hb)) | ((with_reducible refine And.intro ?_ ?_); focus exact xoC) | ((with_reducible refine OvK.fit ?_ ?_); focus exact xoC) | (with_reducible intro hc; (try simp only [capsP, and_true] at hc); (try exact xfC)) | ((fail_if_success (with_reducible first | refine xgon ?_ | intro _)); (conv => whnf); (fail_if_success (fail_if_success (with_reducible first | refine xstp ?_ | refine xgon ?_ | intro _)))))
    refine ⟨⟨k + 1, hlt⟩, [0, 1, 2], by simp only; omega, ?_⟩
    (repeat' first | refine And.intro ?_ ?_ | exact xeC | fail)
  · obtain rfl : k = W.length := by omega
    repeat' (first | (fail_if_success (with_reducible refine xstp ?_)); first | ((with_reducible refine And.intro (fun (hb : _ = true) => ?_) (fun (hb : _ = false) => ?_)) <;> replace hb := xnC hb <;> (try first | exact xfC | exact bff hb (by assumption) | exact bff (by assumption) hb)) | ((with_reducible refine And.intro ?_ ?_); focus exact xoC) | ((with_reducible refine OvK.fit ?_ ?_); focus exact xoC) | (with_reducible intro hc; (try simp only [capsP, and_true] at hc); (try exact xfC)) | ((fail_if_success (with_reducible first | refine xgon ?_ | intro _)); (conv => whnf); (fail_if_success (fail_if_success (with_reducible first | refine xstp ?_ | refine xgon ?_ | intro _)))))
    · have := hw (by omega)
      have g2 := of_decide_eq_false this
      omega
    · skip
      refine FinK.mk ⟨[0], _, _, ⟨rfl, rfl⟩, ?_⟩
      (repeat' first | refine And.intro ?_ ?_ | exact xeC | fail)
    · skip
      refine FinK.mk ⟨[0], _, _, ⟨rfl, rfl⟩, ?_⟩
      (repeat' first | refine And.intro ?_ ?_ | exact xeC | fail)
set_option maxRecDepth 10000 in
set_option maxHeartbeats 4000000 in
theorem rstep (p : Pl) (w : Bool) (c : Nat) (a : Int) (hp : PlOk p) :
    Ctr Tryz.prog 25 [.a (plA p 0 c), .c (.i .i64 a)] [.one (rcR w p.l c)]
      fun v h => ∃ c', v = .t [.a (plA (spP p a) 0 c), .c (.sl 1 0 3 0 (spL p a).length c'), .c (.i .i64 (spE p a : Nat))] ∧ h = [.one (rcR w p.l c), .one (rcR true (spL p a) c')] := by
  have hn := hp.n
  have hps := hp.p
  refine Ctr.mk' tbv mixed Tryz.func25 rfl rfl rfl (fun _ _ => by kernel_rfl) (by kernel_rfl) (by rfl) (by rfl) (by (repeat' first | refine And.intro ?_ ?_ | exact xeC | fail)) ?_
  repeat' (first | (fail_if_success (with_reducible refine xstp ?_)); first | ((with_reducible refine And.intro (fun (hb : _ = true) => ?_) (fun (hb : _ = false) => ?_)) <;> replace hb := xnC hb <;> (try first | exact xfC | exact bff hb (by assumption) | exact bff (by assumption) hb)) | (with_reducible intro hc; (try simp only [capsP, and_true] at hc); (try exact xfC)) | ((fail_if_success (with_reducible first | refine xgon ?_ | intro _)); (conv => whnf); (fail_if_success (fail_if_success (with_reducible first | refine xstp ?_ | refine xgon ?_ | intro _)))))
  · have h0 : spE p a = 17 := if_pos (.inl hb)
    rw [h0, show spP p a = p by unfold spP; rw [h0]; exact if_neg (by decide), show spL p a = [] by unfold spL; rw [h0]; exact if_neg (by decide)]
    refine FinK.mk ⟨[0, 99], _, _, ⟨0, rfl, rfl⟩, ?_⟩
    (repeat' first | refine And.intro ?_ ?_ | exact xeC | fail)
  · have h0 : spE p a = 17 := if_pos (.inr hb)
    rw [h0, show spP p a = p by unfold spP; rw [h0]; exact if_neg (by decide), show spL p a = [] by unfold spL; rw [h0]; exact if_neg (by decide)]
    refine FinK.mk ⟨[0, 99], _, _, ⟨0, rfl, rfl⟩, ?_⟩
    (repeat' first | refine And.intro ?_ ?_ | exact xeC | fail)
  have h0 : spE p a = 0 := if_neg (by omega)
  have h1 : spP p a = ⟨p.l, a, p.pos + (twh (upt a) p.l p.pos).length⟩ := by unfold spP; rw [if_pos h0]
  have h2 : spL p a = twh (upt a) p.l p.pos := by unfold spL; rw [if_pos h0]
  rw [h0, h1, h2]
  have hq := @twh_at (upt a) p.l p.pos
  have hw := twh_end (q := upt a) (l := p.l) (p := p.pos)
  have hwl := twh_len (upt a) p.l p.pos
  generalize twh (upt a) p.l p.pos = W at *
  refine LoopK.mk' {k : Nat × Nat // k.1 ≤ W.length}
    (fun ⟨(k, cc), _⟩ => ⟨[(1, .c (.i .i64 a)), (4, .c (.p 1 0 0)), (7, .c (.sl 3 0 3 0 (W.take k).length cc)), (8, .c (.p 2 0 0))], [.one (rcR w p.l c), .one (.cells true [.nils, .i .i64 0, .i .i64 0]), .one (.cells true (plA ⟨p.l, a, p.pos + k⟩ 0 c)), .one (rcR true (W.take k) cc)]⟩) (fun k => W.length - k.1.1)
    ⟨⟨(0, 0), Nat.zero_le _⟩, [0, 2, 3, 99], ?_⟩ ?_
  · (repeat' first | refine And.intro ?_ ?_ | exact xeC | fail)
    all_goals first | (intro i hi; exact absurd hi (Nat.not_lt_zero i)) | skip
  rintro ⟨⟨k, cc⟩, hk⟩
  simp only at hk
  have e3 : 0 + (((p.pos + k : Nat) : Nat) : Int).toNat = p.pos + k := by omega
  have hkl : (W.take k).length = k := by rw [List.length_take]; omega
  rcases Nat.lt_or_ge k W.length with hlt | hge
  · obtain ⟨g1, g2, g3⟩ := hq hlt
    have g2 := of_decide_eq_true g2
    have hsn := take_snocG W hlt
    rw [g3] at hsn
    repeat' (first | (fail_if_success (with_reducible refine xstp ?_)); first | ((with_reducible refine And.intro (fun (hb : _ = true) => ?_) (fun (hb : _ = false) => ?_)) <;> replace hb := xnC hb <;> (try first | exact xfC | exact bff hb (by assumption) | exact bff (by assumption) hb)) | ((with_reducible refine And.intro ?_ ?_); focus exact xoC) | ((with_reducible refine OvK.fit ?_ ?_); focus exact xoC) | ((with_reducible refine Or.inl ⟨?_, ?_, ?_⟩); (focus rfl); focus exact xaC) | (with_reducible intro hc; (try simp only [capsP, and_true] at hc); (try exact xfC)) | ((fail_if_success (with_reducible first | refine xgon ?_ | intro _)); (conv => whnf); (fail_if_success (fail_if_success (with_reducible first | refine xstp ?_ | refine xgon ?_ | intro _)))))
    rename_i c5
    rw [e3]
    refine ⟨⟨(k + 1, c5), hlt⟩, [0, 1, 2, 5], by simp only; omega, ?_⟩
    simp only [hsn]
    (repeat' first | refine And.intro ?_ ?_ | exact xeC | fail)
    all_goals first | omega | (simp only [List.length_append, List.length_singleton]; done) | (rw [List.length_append, List.length_singleton]; omega) | (intro i hi; (first | refine app_rowG _ _ _ _ ?_ i hi | refine app_row _ _ _ ?_ i hi); first | rfl | (simp only [Int.toNat_natCast, Nat.zero_add]; rfl))
  · obtain rfl : k = W.length := by omega
    repeat' (first | (fail_if_success (with_reducible refine xstp ?_)); first | ((with_reducible refine And.intro (fun (hb : _ = true) => ?_) (fun (hb : _ = false) => ?_)) <;> replace hb := xnC hb <;> (try first | exact xfC | exact bff hb (by assumption) | exact bff (by assumption) hb)) | ((with_reducible refine And.intro ?_ ?_); focus exact xoC) | ((with_reducible refine OvK.fit ?_ ?_); focus exact xoC) | ((with_reducible refine Or.inl ⟨?_, ?_, ?_⟩); (focus rfl); focus exact xaC) | (with_reducible intro hc; (try simp only [capsP, and_true] at hc); (try exact xfC)) | ((fail_if_success (with_reducible first | refine xgon ?_ | intro _)); (conv => whnf); (fail_if_success (fail_if_success (with_reducible first | refine xstp ?_ | refine xgon ?_ | intro _)))))
    · have := hw (by omega)
      have g2 := of_decide_eq_false this
      omega
    · rw [List.take_length]
      refine FinK.mk ⟨[0, 3], _, _, ⟨cc, rfl, rfl⟩, ?_⟩
      (repeat' first | refine And.intro ?_ ?_ | exact xeC | fail)
    · rw [List.take_length]
      refine FinK.mk ⟨[0, 3], _, _, ⟨cc, rfl, rfl⟩, ?_⟩
      (repeat' first | refine And.intro ?_ ?_ | exact xeC | fail)
set_option maxRecDepth 10000 in
set_option maxHeartbeats 4000000 in
theorem rrate (p : Pl) (w : Bool) (c : Nat) (n d u : Int) (hp : PlOk p) :
    Ctr Tryz.prog 26 [.a (plA p 0 c), .c (.i .i64 n), .c (.i .i64 d), .c (.i .i64 u)] [.one (rcR w p.l c)]
      fun v h => v = .t [.c (.i .i64 (rtV p n d u).1), .c (.i .i64 ((rtV p n d u).2 : Nat))] ∧ h = [.one (rcR w p.l c)] := by
  have hpa := hp.a
  refine Ctr.mk' tbv mixed Tryz.func26 rfl rfl rfl (fun _ _ => by kernel_rfl) (by kernel_rfl) (by rfl) (by rfl) (by (repeat' first | refine And.intro ?_ ?_ | exact xeC | fail)) ?_
  by_cases hr : rtB n d u
  · rw [show rtV p n d u = (0, 4) from if_pos hr]
    unfold rtB at hr
    repeat' (first | (fail_if_success (with_reducible refine xstp ?_)); first | ((with_reducible refine And.intro (fun (hb : _ = true) => ?_) (fun (hb : _ = false) => ?_)) <;> replace hb := xnC hb <;> (try first | exact xfC | exact bff hb (by assumption) | exact bff (by assumption) hb)) | (with_reducible intro hc; (try simp only [capsP, and_true] at hc); (try exact xfC)) | ((fail_if_success (with_reducible first | refine xgon ?_ | intro _)); (conv => whnf); (fail_if_success (fail_if_success (with_reducible first | refine xstp ?_ | refine xgon ?_ | intro _)))))
    all_goals first
      | (exfalso; omega)
      | (refine FinK.mk ⟨[0], _, _, ⟨rfl, rfl⟩, ?_⟩; (repeat' first | refine And.intro ?_ ?_ | exact xeC | fail))
  · have hw := rt_bd hr
    rw [show rtV p n d u = if 1099511627776 < p.at_ + (u * n).tdiv d then (0, 17) else (p.at_ + (u * n).tdiv d, 0) from if_neg hr]
    unfold rtB at hr
    repeat' (first | (fail_if_success (with_reducible refine xstp ?_)); first | ((with_reducible refine And.intro (fun (hb : _ = true) => ?_) (fun (hb : _ = false) => ?_)) <;> replace hb := xnC hb <;> (try first | exact xfC | exact bff hb (by assumption) | exact bff (by assumption) hb)) | ((with_reducible refine And.intro ?_ ?_); focus exact xoC) | ((with_reducible refine OvK.fit ?_ ?_); focus exact xoC) | (with_reducible intro hc; (try simp only [capsP, and_true] at hc); (try exact xfC)) | ((fail_if_success (with_reducible first | refine xgon ?_ | intro _)); (conv => whnf); (fail_if_success (fail_if_success (with_reducible first | refine xstp ?_ | refine xgon ?_ | intro _)))))
    · rw [if_pos hb]
      refine FinK.mk ⟨[0], _, _, ⟨rfl, rfl⟩, ?_⟩
      (repeat' first | refine And.intro ?_ ?_ | exact xeC | fail)
    · rw [if_neg (by omega)]
      refine FinK.mk ⟨[0], _, _, ⟨rfl, rfl⟩, ?_⟩
      (repeat' first | refine And.intro ?_ ?_ | exact xeC | fail)
end Go.Proofs.YtenompgpjlbelaaGreatDoor


namespace Go.Proofs.YtenompgpjlbelaaGreatDoor
open Go.X
set_option linter.unusedSimpArgs false
set_option linter.unusedVariables false
open P4
open P5
structure Mv where
  (k a b c : Int)
deriving Inhabited
def encMv (m : Mv) : List C := [.i .i64 m.k, .i .i64 m.a, .i .i64 m.b, .i .i64 m.c]
abbrev mvR (w : Bool) (l : List Mv) (c : Nat) : Ck := .row w false 56 4 l.length c (rowOf encMv l)
theorem skP_eta (l : List Rc) (x : Int) (k : Nat) (a : Int) : ∃ y j, skP ⟨l, x, k⟩ a = ⟨l, y, j⟩ := by
  unfold skP
  split
  · exact ⟨_, _, rfl⟩
  · exact ⟨_, _, rfl⟩
theorem spP_eta (l : List Rc) (x : Int) (k : Nat) (a : Int) : ∃ y j, spP ⟨l, x, k⟩ a = ⟨l, y, j⟩ := by
  unfold spP
  split
  · exact ⟨_, _, rfl⟩
  · exact ⟨_, _, rfl⟩
theorem spL_len (p : Pl) (a : Int) : (spL p a).length ≤ p.l.length := by
  unfold spL
  split
  · have := twh_len (upt a) p.l p.pos
    omega
  · exact Nat.zero_le _
theorem rH42zjE0 {σ : List Sg} {H h' : List Fam} {v : T} {K : T → List Fam → Prop} {H' : List Fam} {v' : T} {N : Nat} (hk : K v' H') (hN : H.length = N := by (try simp only [↓List.length_cons, ↓List.length_nil, Nat.reduceAdd]) <;> rfl) (h : givesF σ N H σ h' = some H' := by (try simp (maxSteps := 1000000) only [givesF, setF, updF, Fam.zeroth, Fam.rk, Ck.rk, C.rk, E.rk, T.rk, key, List.map_cons, List.map_nil, List.cons_append, List.nil_append, List.length_cons, List.length_nil, Option.map_some, Option.bind_some, Nat.reduceAdd, Nat.zero_add, Nat.add_zero, Nat.add_sub_cancel_left, Int.toNat_natCast, reps, List.all_cons, List.all_nil, C.flat, List.append_eq, Bool.not_true, Bool.and_true, Bool.or_false, Bool.or_self, Bool.not_false, List.append_nil, Bool.and_self, encMv]) <;> rfl) (hv : v.rk σ N = v' := by (try simp only [givesF, setF, updF, Fam.zeroth, Fam.rk, Ck.rk, C.rk, E.rk, T.rk, key, List.map_cons, List.map_nil, List.cons_append, List.nil_append, List.length_cons, List.length_nil, Option.map_some, Option.bind_some, Nat.reduceAdd, Nat.zero_add, Nat.add_zero, Nat.add_sub_cancel_left, Int.toNat_natCast, reps, List.all_cons, List.all_nil, C.flat, List.append_eq, Bool.not_true, Bool.and_true, Bool.or_false, Bool.or_self, Bool.not_false, List.append_nil, Bool.and_self, encMv]) <;> rfl) : RetG σ H h' v K := ret_mk3 hN h hv hk
set_option maxRecDepth 10000 in
set_option maxHeartbeats 16000000 in
theorem lsteps (w w2 : Bool) (l : List Rc) (c : Nat) (M : List Mv) (d : Nat) (hl : l.length ≤ 9223372036854775807) (hM : M.length ≤ 9223372036854775807) :
    Ctr Tryz.prog 6 [.c (.sl 0 0 3 0 l.length c), .c (.sl 1 0 4 0 M.length d)] [.one (rcR w l c), .one (mvR w2 M d)]
      fun v h => v = .c .tt ∧ h = [.one (rcR w l c), .one (mvR w2 M d)] := by
  refine Ctr.mk' tbv mixed Tryz.func6 rfl rfl rfl (fun _ _ => by kernel_rfl) (by kernel_rfl) (by rfl) (by rfl) (by (repeat' first | refine And.intro ?_ ?_ | exact xeC | fail)) ?_
  repeat' (first | (fail_if_success (with_reducible refine xstp ?_)); first | (with_reducible intro hc; (try simp only [capsP, and_true] at hc); (try exact xfC)) | ((fail_if_success (with_reducible first | refine xgon ?_ | intro _)); (conv => whnf); (fail_if_success (fail_if_success (with_reducible first | refine xstp ?_ | refine xgon ?_ | intro _)))))
  refine xcal (σ := [.whole 0]) (nl := []) (clong w l c hl) ?_
  rintro v h' ⟨hq, rfl⟩ hcaps
  rcases hq with rfl | ⟨rfl, hf⟩
  · refine xret ?_
    repeat' (first | (fail_if_success (with_reducible refine xstp ?_)); first | ((fail_if_success (with_reducible first | refine xgon ?_ | intro _)); (conv => whnf); (fail_if_success (fail_if_success (with_reducible first | refine xstp ?_ | refine xgon ?_ | intro _)))))
    refine xcal (σ := []) (nl := []) (cawake42) ?_
    rintro v h' ⟨rfl, rfl⟩ hcaps
    refine xret ?_
    repeat' (first | (fail_if_success (with_reducible refine xstp ?_)); first | ((fail_if_success (with_reducible first | refine xgon ?_ | intro _)); (conv => whnf); (fail_if_success (fail_if_success (with_reducible first | refine xstp ?_ | refine xgon ?_ | intro _)))))
    refine FinK.mk ⟨[0, 1], _, _, ⟨rfl, rfl⟩, ?_⟩
    (repeat' first | refine And.intro ?_ ?_ | exact xeC | fail)
  have hl40 := hf.1
  have k1 := rwrite 300 w l c (by omega) (fun i hi => by have := (hf.2 i hi).2; omega)
  refine xret ?_
  repeat' (first | (fail_if_success (with_reducible refine xstp ?_)); first | ((with_reducible refine And.intro (fun (hb : _ = true) => ?_) (fun (hb : _ = false) => ?_)) <;> replace hb := xnC hb <;> (try first | exact xfC | exact bff hb (by assumption) | exact bff (by assumption) hb)) | ((fail_if_success (with_reducible first | refine xgon ?_ | intro _)); (conv => whnf); (fail_if_success (fail_if_success (with_reducible first | refine xstp ?_ | refine xgon ?_ | intro _)))))
  · skip
    refine xcal (σ := []) (nl := []) (cawake42) ?_
    rintro v h' ⟨rfl, rfl⟩ hcaps
    refine xret ?_
    repeat' (first | (fail_if_success (with_reducible refine xstp ?_)); first | ((fail_if_success (with_reducible first | refine xgon ?_ | intro _)); (conv => whnf); (fail_if_success (fail_if_success (with_reducible first | refine xstp ?_ | refine xgon ?_ | intro _)))))
    refine FinK.mk ⟨[0, 1], _, _, ⟨rfl, rfl⟩, ?_⟩
    (repeat' first | refine And.intro ?_ ?_ | exact xeC | fail)
  rcases Nat.eq_zero_or_pos (wtE 300 l) with hE | hE
  · obtain ⟨hsl, hb, ha, hk⟩ := wt_read hE (by omega)
    have k2 := cnew (wtS 300 l) hsl l 0 0 hb ha
    have k3 := rnewP w l c (by omega)
    have hP0 := PlOk.new (l := l) (by omega) hk.tm
    obtain ⟨x0, hx0⟩ : ∃ x, plN l = ⟨l, x, 0⟩ := ⟨_, rfl⟩
    rw [hx0] at k2 k3 hP0
    rw [hE] at k1
    clear hsl hb ha hE hx0
    generalize wtS 300 l = s at *
    refine xcal (σ := [.whole 0]) (nl := []) (k1) ?_
    rintro v h' ⟨rfl, rfl⟩ hcaps
    refine xret ?_
    repeat' (first | (fail_if_success (with_reducible refine xstp ?_)); first | ((with_reducible refine And.intro (fun (hb : _ = true) => ?_) (fun (hb : _ = false) => ?_)) <;> replace hb := xnC hb <;> (try first | exact xfC | exact bff hb (by assumption) | exact bff (by assumption) hb)) | ((fail_if_success (with_reducible first | refine xgon ?_ | intro _)); (conv => whnf); (fail_if_success (fail_if_success (with_reducible first | refine xstp ?_ | refine xgon ?_ | intro _)))))
    refine xcal (σ := []) (nl := []) (k2) ?_
    rintro v h' (⟨q, _⟩ | ⟨_, q, _⟩ | ⟨_, _, cP, rfl, rfl⟩) hcaps
    · exact absurd rfl q
    · exact absurd rfl q
    refine xret ?_
    repeat' (first | (fail_if_success (with_reducible refine xstp ?_)); first | ((with_reducible refine And.intro (fun (hb : _ = true) => ?_) (fun (hb : _ = false) => ?_)) <;> replace hb := xnC hb <;> (try first | exact xfC | exact bff hb (by assumption) | exact bff (by assumption) hb)) | ((fail_if_success (with_reducible first | refine xgon ?_ | intro _)); (conv => whnf); (fail_if_success (fail_if_success (with_reducible first | refine xstp ?_ | refine xgon ?_ | intro _)))))
    refine xcal (σ := [.whole 0]) (nl := []) (k3) ?_
    rintro v h' ⟨rfl, rfl⟩ hcaps
    refine xret ?_
    repeat' (first | (fail_if_success (with_reducible refine xstp ?_)); first | ((fail_if_success (with_reducible first | refine xgon ?_ | intro _)); (conv => whnf); (fail_if_success (fail_if_success (with_reducible first | refine xstp ?_ | refine xgon ?_ | intro _)))))
    refine LoopK.mk' {t : Nat × Int × Nat // t.1 ≤ M.length ∧ PlOk ⟨l, t.2.1, t.2.2⟩}
      (fun ⟨(i, x, k), _⟩ => ⟨[(0, .c (.sl 0 0 3 0 l.length c)), (1, .c (.sl 1 0 4 0 M.length d)), (7, .c (.p 2 0 0)), (9, .c (.p 4 0 0)), (10, .c (.i .i64 (i : Nat)))],
        [.one (rcR w l c), .one (mvR w2 M d), .one (plC ⟨l, x, k⟩ 3 cP), .one (rcR true l cP), .one (.cells true (plA ⟨l, x, k⟩ 0 c))]⟩) (fun t => M.length - t.1.1)
      ⟨⟨(0, x0, 0), Nat.zero_le _, hP0⟩, [0, 1, 2, 3, 4], ?_⟩ ?_
    · (repeat' first | refine And.intro ?_ ?_ | exact xeC | fail)
    rintro ⟨⟨i, x, k⟩, hi, hP⟩
    simp only at hi hP
    have e3 : 0 + ((i : Nat) : Int).toNat = i := by omega
    rcases Nat.lt_or_ge i M.length with hlt | hge
    · obtain ⟨y1, j1, q1⟩ := skP_eta l x k (M.getD i default).a
      obtain ⟨y2, j2, q2⟩ := spP_eta l x k (M.getD i default).a
      have p1 := hP.seek (M.getD i default).a
      have p2 := hP.step (M.getD i default).a
      have a1 := rseek ⟨l, x, k⟩ w c (M.getD i default).a hP
      have a2 := cseek ⟨l, x, k⟩ cP (M.getD i default).a hP
      have b1 := rstep ⟨l, x, k⟩ w c (M.getD i default).a hP
      have b2 := cstep ⟨l, x, k⟩ cP (M.getD i default).a hP
      have c1 := rrate ⟨l, x, k⟩ w c (M.getD i default).a (M.getD i default).b (M.getD i default).c hP
      have c2 := crate ⟨l, x, k⟩ cP (M.getD i default).a (M.getD i default).b (M.getD i default).c hP
      have hsl := spL_len ⟨l, x, k⟩ (M.getD i default).a
      rw [q1] at a1 a2 p1
      rw [q2] at b1 b2 p2
      simp only at hsl
      clear q1 q2
      generalize skE (M.getD i default).a = e1 at *
      generalize spE ⟨l, x, k⟩ (M.getD i default).a = e2 at *
      generalize spL ⟨l, x, k⟩ (M.getD i default).a = L at *
      generalize rtV ⟨l, x, k⟩ (M.getD i default).a (M.getD i default).b (M.getD i default).c = r at *
      repeat' (first | (fail_if_success (with_reducible refine xstp ?_)); first | ((with_reducible refine And.intro (fun (hb : _ = true) => ?_) (fun (hb : _ = false) => ?_)) <;> replace hb := xnC hb <;> (try first | exact xfC | exact bff hb (by assumption) | exact bff (by assumption) hb)) | ((with_reducible refine And.intro ?_ ?_); focus exact xoC) | (with_reducible intro hc; (try simp only [capsP, and_true] at hc); (try exact xfC)) | ((fail_if_success (with_reducible first | refine xgon ?_ | intro _)); (conv => whnf); (fail_if_success (fail_if_success (with_reducible first | refine xstp ?_ | refine xgon ?_ | intro _)))))
      · rw [e3]
        refine xcal (σ := [.whole 0]) (nl := []) (a1) ?_
        rintro v h' ⟨rfl, rfl⟩ hcaps
        refine rH42zjE0 ?_
        repeat' (first | (fail_if_success (with_reducible refine xstp ?_)); first | ((fail_if_success (with_reducible first | refine xgon ?_ | intro _)); (conv => whnf); (fail_if_success (fail_if_success (with_reducible first | refine xstp ?_ | refine xgon ?_ | intro _)))))
        refine xcal (σ := [.whole 2, .whole 3]) (nl := []) (a2) ?_
        rintro v h' ⟨rfl, rfl⟩ hcaps
        refine rH42zjE0 ?_
        repeat' (first | (fail_if_success (with_reducible refine xstp ?_)); first | ((with_reducible refine And.intro (fun (hb : _ = true) => ?_) (fun (hb : _ = false) => ?_)) <;> replace hb := xnC hb <;> (try first | exact xfC | exact bff hb (by assumption) | exact bff (by assumption) hb)) | ((fail_if_success (with_reducible first | refine xgon ?_ | intro _)); (conv => whnf); (fail_if_success (fail_if_success (with_reducible first | refine xstp ?_ | refine xgon ?_ | intro _)))))
        refine xcal (σ := [.whole 2, .whole 3]) (nl := []) (cnow ⟨l, y1, j1⟩ cP) ?_
        rintro v h' ⟨rfl, rfl⟩ hcaps
        refine rH42zjE0 ?_
        repeat' (first | (fail_if_success (with_reducible refine xstp ?_)); first | ((with_reducible refine And.intro (fun (hb : _ = true) => ?_) (fun (hb : _ = false) => ?_)) <;> replace hb := xnC hb <;> (try first | exact xfC | exact bff hb (by assumption) | exact bff (by assumption) hb)) | ((with_reducible refine And.intro ?_ ?_); focus exact xoC) | ((with_reducible refine OvK.fit ?_ ?_); focus exact xoC) | ((fail_if_success (with_reducible first | refine xgon ?_ | intro _)); (conv => whnf); (fail_if_success (fail_if_success (with_reducible first | refine xstp ?_ | refine xgon ?_ | intro _)))))
        refine ⟨⟨(i + 1, y1, j1), hlt, p1⟩, [0, 1, 2, 3, 4], by simp only; omega, ?_⟩
        (repeat' first | refine And.intro ?_ ?_ | exact xeC | fail)
      · rw [e3]
        refine xcal (σ := [.whole 0]) (nl := []) (b1) ?_
        rintro v h' ⟨c3, rfl, rfl⟩ hcaps
        refine rH42zjE0 ?_
        repeat' (first | (fail_if_success (with_reducible refine xstp ?_)); first | ((fail_if_success (with_reducible first | refine xgon ?_ | intro _)); (conv => whnf); (fail_if_success (fail_if_success (with_reducible first | refine xstp ?_ | refine xgon ?_ | intro _)))))
        refine xcal (σ := [.whole 2, .whole 3]) (nl := []) (b2) ?_
        rintro v h' ⟨c4, rfl, rfl⟩ hcaps
        refine rH42zjE0 ?_
        repeat' (first | (fail_if_success (with_reducible refine xstp ?_)); first | ((with_reducible refine And.intro (fun (hb : _ = true) => ?_) (fun (hb : _ = false) => ?_)) <;> replace hb := xnC hb <;> (try first | exact xfC | exact bff hb (by assumption) | exact bff (by assumption) hb)) | ((fail_if_success (with_reducible first | refine xgon ?_ | intro _)); (conv => whnf); (fail_if_success (fail_if_success (with_reducible first | refine xstp ?_ | refine xgon ?_ | intro _)))))
        refine xcal (σ := [.whole 8, .whole 6]) (nl := []) (csameP true true L L c4 c3 L.length (by omega) (Nat.le_refl _)) ?_
        rw [List.take_length, decide_eq_true rfl]
        rintro v h' ⟨rfl, rfl⟩ hcaps
        refine rH42zjE0 ?_
        repeat' (first | (fail_if_success (with_reducible refine xstp ?_)); first | ((with_reducible refine And.intro (fun (hb : _ = true) => ?_) (fun (hb : _ = false) => ?_)) <;> replace hb := xnC hb <;> (try first | exact xfC | exact bff hb (by assumption) | exact bff (by assumption) hb)) | ((fail_if_success (with_reducible first | refine xgon ?_ | intro _)); (conv => whnf); (fail_if_success (fail_if_success (with_reducible first | refine xstp ?_ | refine xgon ?_ | intro _)))))
        refine xcal (σ := [.whole 2, .whole 3]) (nl := []) (cnow ⟨l, y2, j2⟩ cP) ?_
        rintro v h' ⟨rfl, rfl⟩ hcaps
        refine rH42zjE0 ?_
        repeat' (first | (fail_if_success (with_reducible refine xstp ?_)); first | ((with_reducible refine And.intro (fun (hb : _ = true) => ?_) (fun (hb : _ = false) => ?_)) <;> replace hb := xnC hb <;> (try first | exact xfC | exact bff hb (by assumption) | exact bff (by assumption) hb)) | ((with_reducible refine And.intro ?_ ?_); focus exact xoC) | ((with_reducible refine OvK.fit ?_ ?_); focus exact xoC) | ((fail_if_success (with_reducible first | refine xgon ?_ | intro _)); (conv => whnf); (fail_if_success (fail_if_success (with_reducible first | refine xstp ?_ | refine xgon ?_ | intro _)))))
        refine ⟨⟨(i + 1, y2, j2), hlt, p2⟩, [0, 1, 2, 3, 4], by simp only; omega, ?_⟩
        (repeat' first | refine And.intro ?_ ?_ | exact xeC | fail)
      · rw [e3]
        refine xcal (σ := [.whole 0]) (nl := []) (c1) ?_
        rintro v h' ⟨rfl, rfl⟩ hcaps
        refine rH42zjE0 ?_
        repeat' (first | (fail_if_success (with_reducible refine xstp ?_)); first | ((fail_if_success (with_reducible first | refine xgon ?_ | intro _)); (conv => whnf); (fail_if_success (fail_if_success (with_reducible first | refine xstp ?_ | refine xgon ?_ | intro _)))))
        refine xcal (σ := [.whole 2, .whole 3]) (nl := []) (c2) ?_
        rintro v h' ⟨rfl, rfl⟩ hcaps
        refine rH42zjE0 ?_
        repeat' (first | (fail_if_success (with_reducible refine xstp ?_)); first | ((with_reducible refine And.intro (fun (hb : _ = true) => ?_) (fun (hb : _ = false) => ?_)) <;> replace hb := xnC hb <;> (try first | exact xfC | exact bff hb (by assumption) | exact bff (by assumption) hb)) | ((fail_if_success (with_reducible first | refine xgon ?_ | intro _)); (conv => whnf); (fail_if_success (fail_if_success (with_reducible first | refine xstp ?_ | refine xgon ?_ | intro _)))))
        refine xcal (σ := [.whole 2, .whole 3]) (nl := []) (cnow ⟨l, x, k⟩ cP) ?_
        rintro v h' ⟨rfl, rfl⟩ hcaps
        refine rH42zjE0 ?_
        repeat' (first | (fail_if_success (with_reducible refine xstp ?_)); first | ((with_reducible refine And.intro (fun (hb : _ = true) => ?_) (fun (hb : _ = false) => ?_)) <;> replace hb := xnC hb <;> (try first | exact xfC | exact bff hb (by assumption) | exact bff (by assumption) hb)) | ((with_reducible refine And.intro ?_ ?_); focus exact xoC) | ((with_reducible refine OvK.fit ?_ ?_); focus exact xoC) | ((fail_if_success (with_reducible first | refine xgon ?_ | intro _)); (conv => whnf); (fail_if_success (fail_if_success (with_reducible first | refine xstp ?_ | refine xgon ?_ | intro _)))))
        refine ⟨⟨(i + 1, x, k), hlt, hP⟩, [0, 1, 2, 3, 4], by simp only; omega, ?_⟩
        (repeat' first | refine And.intro ?_ ?_ | exact xeC | fail)
    · skip
      repeat' (first | (fail_if_success (with_reducible refine xstp ?_)); first | ((with_reducible refine And.intro (fun (hb : _ = true) => ?_) (fun (hb : _ = false) => ?_)) <;> replace hb := xnC hb <;> (try first | exact xfC | exact bff hb (by assumption) | exact bff (by assumption) hb)) | (with_reducible intro hc; (try simp only [capsP, and_true] at hc); (try exact xfC)) | ((fail_if_success (with_reducible first | refine xgon ?_ | intro _)); (conv => whnf); (fail_if_success (fail_if_success (with_reducible first | refine xstp ?_ | refine xgon ?_ | intro _)))))
      refine xcal (σ := []) (nl := []) (cawake42) ?_
      rintro v h' ⟨rfl, rfl⟩ hcaps
      refine xret ?_
      repeat' (first | (fail_if_success (with_reducible refine xstp ?_)); first | ((fail_if_success (with_reducible first | refine xgon ?_ | intro _)); (conv => whnf); (fail_if_success (fail_if_success (with_reducible first | refine xstp ?_ | refine xgon ?_ | intro _)))))
      refine FinK.mk ⟨[0, 1], _, _, ⟨rfl, rfl⟩, ?_⟩
      (repeat' first | refine And.intro ?_ ?_ | exact xeC | fail)
  · generalize wtE 300 l = e at *
    generalize wtS 300 l = s at *
    refine xcal (σ := [.whole 0]) (nl := []) (k1) ?_
    rintro v h' ⟨rfl, rfl⟩ hcaps
    refine xret ?_
    repeat' (first | (fail_if_success (with_reducible refine xstp ?_)); first | ((with_reducible refine And.intro (fun (hb : _ = true) => ?_) (fun (hb : _ = false) => ?_)) <;> replace hb := xnC hb <;> (try first | exact xfC | exact bff hb (by assumption) | exact bff (by assumption) hb)) | ((fail_if_success (with_reducible first | refine xgon ?_ | intro _)); (conv => whnf); (fail_if_success (fail_if_success (with_reducible first | refine xstp ?_ | refine xgon ?_ | intro _)))))
    refine xcal (σ := []) (nl := []) (cawake42) ?_
    rintro v h' ⟨rfl, rfl⟩ hcaps
    refine xret ?_
    repeat' (first | (fail_if_success (with_reducible refine xstp ?_)); first | ((fail_if_success (with_reducible first | refine xgon ?_ | intro _)); (conv => whnf); (fail_if_success (fail_if_success (with_reducible first | refine xstp ?_ | refine xgon ?_ | intro _)))))
    refine FinK.mk ⟨[0, 1], _, _, ⟨rfl, rfl⟩, ?_⟩
    (repeat' first | refine And.intro ?_ ?_ | exact xeC | fail)
end Go.Proofs.YtenompgpjlbelaaGreatDoor


namespace Go.Proofs.YtenompgpjlbelaaGreatDoor
open Go.X
set_option linter.unusedVariables false
theorem tw_app {q : Rc → Bool} : ∀ (a b : List Rc), (∀ r ∈ a, q r = true) → (a ++ b).takeWhile q = a ++ b.takeWhile q
  | [], b, _ => rfl
  | r :: a, b, h => by
    rw [List.cons_append, List.takeWhile_cons_of_pos (h r (List.mem_cons_self ..)), tw_app a b fun x hx => h x (List.mem_cons_of_mem _ hx)]
    rfl
/-- The state of divided steps: so many were done; the time, the position, what they returned. -/
structure DvI (l : List Rc) (x0 : Int) (i : Nat) (x : Int) (k : Nat) (O : List Rc) : Prop where
  p : PlOk ⟨l, x, k⟩
  le : x0 ≤ x
  o : O = l.take k
  a : ∀ r ∈ O, r.at_ ≤ x
  w : 0 < i → O = twh (upt x) l 0
  z : i = 0 → O = []
theorem DvI.new {l : List Rc} {x0 : Int} (h : PlOk ⟨l, x0, 0⟩) : DvI l x0 0 x0 0 [] :=
  ⟨h, Int.le_refl _, by rw [List.take_zero], fun r hr => absurd hr List.not_mem_nil, fun q => absurd q (Nat.lt_irrefl 0), fun _ => rfl⟩
theorem DvI.step {l : List Rc} {x0 : Int} {i k : Nat} {x y : Int} {O : List Rc} (h : DvI l x0 i x k O) (hxy : x ≤ y) (hy : y ≤ 1099511627776) :
    spE ⟨l, x, k⟩ y = 0 ∧ ∃ j, spP ⟨l, x, k⟩ y = ⟨l, y, j⟩ ∧ DvI l x0 (i + 1) y j (O ++ spL ⟨l, x, k⟩ y) := by
  have h0 : spE ⟨l, x, k⟩ y = 0 := if_neg (by simp only; omega)
  have h1 : spP ⟨l, x, k⟩ y = ⟨l, y, k + (twh (upt y) l k).length⟩ := by unfold spP; rw [if_pos h0]
  have h2 : spL ⟨l, x, k⟩ y = twh (upt y) l k := by unfold spL; rw [if_pos h0]
  have h3 : O ++ twh (upt y) l k = twh (upt y) l 0 := by
    have e : twh (upt y) l 0 = (l.take k ++ l.drop k).takeWhile (upt y) := by unfold twh; rw [List.drop_zero, List.take_append_drop]
    rw [e, ← h.o, tw_app (q := upt y) O _ fun r hr => decide_eq_true (Int.le_trans (h.a r hr) hxy)]
    rfl
  have hk := h.p.p
  have hOl : O.length = k := by rw [h.o, List.length_take]; simp only at hk; omega
  have hp := h.p.step y
  rw [h1] at hp
  refine ⟨h0, _, h1, hp, Int.le_trans h.le hxy, ?_, ?_, fun _ => by rw [h2]; exact h3, fun q => absurd q (Nat.succ_ne_zero i)⟩
  · rw [h2, h3]
    have e := (List.takeWhile_prefix (p := upt y) (l := l))
    have e2 : twh (upt y) l 0 = l.takeWhile (upt y) := by unfold twh; rw [List.drop_zero]
    have e3 : (l.takeWhile (upt y)).length = k + (twh (upt y) l k).length := by rw [← e2, ← h3, List.length_append, hOl]
    rw [e2, ← e3]
    exact List.prefix_iff_eq_take.1 e
  · intro r hr
    rw [h2, h3] at hr
    unfold twh at hr
    exact of_decide_eq_true (List.all_eq_true.1 List.all_takeWhile r hr)
end Go.Proofs.YtenompgpjlbelaaGreatDoor


namespace Go.Proofs.YtenompgpjlbelaaGreatDoor
open Go.X
set_option linter.unusedSimpArgs false
set_option linter.unusedVariables false
open P4
open P5
def encU (u : Nat) : List C := [.i .u16 (u : Nat)]
abbrev tsR (w : Bool) (l : List Nat) (c : Nat) : Ck := .row w false 23 1 l.length c (rowOf encU l)
set_option maxRecDepth 10000 in
set_option maxHeartbeats 16000000 in
theorem ldivides (w w2 : Bool) (l : List Rc) (c : Nat) (U : List Nat) (d : Nat) (hl : l.length ≤ 9223372036854775807) (hU : U.length ≤ 9223372036854775807) (hu : ∀ i, i < U.length → U.getD i default < 65536) :
    Ctr Tryz.prog 5 [.c (.sl 0 0 3 0 l.length c), .c (.sl 1 0 1 0 U.length d)] [.one (rcR w l c), .one (tsR w2 U d)]
      fun v h => v = .c .tt ∧ h = [.one (rcR w l c), .one (tsR w2 U d)] := by
  refine Ctr.mk' tbv mixed Tryz.func5 rfl rfl rfl (fun _ _ => by kernel_rfl) (by kernel_rfl) (by rfl) (by rfl) (by (repeat' first | refine And.intro ?_ ?_ | exact xeC | fail)) ?_
  repeat' (first | (fail_if_success (with_reducible refine xstp ?_)); first | (with_reducible intro hc; (try simp only [capsP, and_true] at hc); (try exact xfC)) | ((fail_if_success (with_reducible first | refine xgon ?_ | intro _)); (conv => whnf); (fail_if_success (fail_if_success (with_reducible first | refine xstp ?_ | refine xgon ?_ | intro _)))))
  refine xcal (σ := [.whole 0]) (nl := []) (clong w l c hl) ?_
  rintro v h' ⟨hq, rfl⟩ hcaps
  rcases hq with rfl | ⟨rfl, hf⟩
  · refine xret ?_
    repeat' (first | (fail_if_success (with_reducible refine xstp ?_)); first | ((fail_if_success (with_reducible first | refine xgon ?_ | intro _)); (conv => whnf); (fail_if_success (fail_if_success (with_reducible first | refine xstp ?_ | refine xgon ?_ | intro _)))))
    refine xcal (σ := []) (nl := []) (cawake42) ?_
    rintro v h' ⟨rfl, rfl⟩ hcaps
    refine xret ?_
    repeat' (first | (fail_if_success (with_reducible refine xstp ?_)); first | ((fail_if_success (with_reducible first | refine xgon ?_ | intro _)); (conv => whnf); (fail_if_success (fail_if_success (with_reducible first | refine xstp ?_ | refine xgon ?_ | intro _)))))
    refine FinK.mk ⟨[0, 1], _, _, ⟨rfl, rfl⟩, ?_⟩
    (repeat' first | refine And.intro ?_ ?_ | exact xeC | fail)
  have hl40 := hf.1
  have k1 := rwrite 300 w l c (by omega) (fun i hi => by have := (hf.2 i hi).2; omega)
  refine xret ?_
  repeat' (first | (fail_if_success (with_reducible refine xstp ?_)); first | ((with_reducible refine And.intro (fun (hb : _ = true) => ?_) (fun (hb : _ = false) => ?_)) <;> replace hb := xnC hb <;> (try first | exact xfC | exact bff hb (by assumption) | exact bff (by assumption) hb)) | ((fail_if_success (with_reducible first | refine xgon ?_ | intro _)); (conv => whnf); (fail_if_success (fail_if_success (with_reducible first | refine xstp ?_ | refine xgon ?_ | intro _)))))
  · skip
    refine xcal (σ := []) (nl := []) (cawake42) ?_
    rintro v h' ⟨rfl, rfl⟩ hcaps
    refine xret ?_
    repeat' (first | (fail_if_success (with_reducible refine xstp ?_)); first | ((fail_if_success (with_reducible first | refine xgon ?_ | intro _)); (conv => whnf); (fail_if_success (fail_if_success (with_reducible first | refine xstp ?_ | refine xgon ?_ | intro _)))))
    refine FinK.mk ⟨[0, 1], _, _, ⟨rfl, rfl⟩, ?_⟩
    (repeat' first | refine And.intro ?_ ?_ | exact xeC | fail)
  rcases Nat.eq_zero_or_pos (wtE 300 l) with hE | hE
  · obtain ⟨hsl, hb, ha, hk⟩ := wt_read hE (by omega)
    have k2 := cnew (wtS 300 l) hsl l 0 0 hb ha
    have hP0 := PlOk.new (l := l) (by omega) hk.tm
    obtain ⟨x0, hx0⟩ : ∃ x, plN l = ⟨l, x, 0⟩ := ⟨_, rfl⟩
    rw [hx0] at k2 hP0
    rw [hE] at k1
    clear hsl hb ha hE hx0
    generalize wtS 300 l = s at *
    refine xcal (σ := [.whole 0]) (nl := []) (k1) ?_
    rintro v h' ⟨rfl, rfl⟩ hcaps
    refine xret ?_
    repeat' (first | (fail_if_success (with_reducible refine xstp ?_)); first | ((with_reducible refine And.intro (fun (hb : _ = true) => ?_) (fun (hb : _ = false) => ?_)) <;> replace hb := xnC hb <;> (try first | exact xfC | exact bff hb (by assumption) | exact bff (by assumption) hb)) | ((fail_if_success (with_reducible first | refine xgon ?_ | intro _)); (conv => whnf); (fail_if_success (fail_if_success (with_reducible first | refine xstp ?_ | refine xgon ?_ | intro _)))))
    refine xcal (σ := []) (nl := []) (k2) ?_
    rintro v h' (⟨q, _⟩ | ⟨_, q, _⟩ | ⟨_, _, cP, rfl, rfl⟩) hcaps
    · exact absurd rfl q
    · exact absurd rfl q
    refine xret ?_
    repeat' (first | (fail_if_success (with_reducible refine xstp ?_)); first | ((fail_if_success (with_reducible first | refine xgon ?_ | intro _)); (conv => whnf); (fail_if_success (fail_if_success (with_reducible first | refine xstp ?_ | refine xgon ?_ | intro _)))))
    refine xcal (σ := []) (nl := []) (k2) ?_
    rintro v h' (⟨q, _⟩ | ⟨_, q, _⟩ | ⟨_, _, cQ, rfl, rfl⟩) hcaps
    · exact absurd rfl q
    · exact absurd rfl q
    refine xret ?_
    repeat' (first | (fail_if_success (with_reducible refine xstp ?_)); first | ((with_reducible refine And.intro (fun (hb : _ = true) => ?_) (fun (hb : _ = false) => ?_)) <;> replace hb := xnC hb <;> (try first | exact xfC | exact bff hb (by assumption) | exact bff (by assumption) hb)) | ((fail_if_success (with_reducible first | refine xgon ?_ | intro _)); (conv => whnf); (fail_if_success (fail_if_success (with_reducible first | refine xstp ?_ | refine xgon ?_ | intro _)))))
    refine xcal (σ := [.whole 2, .whole 3]) (nl := []) (cnow ⟨l, x0, 0⟩ cP) ?_
    rintro v h' ⟨rfl, rfl⟩ hcaps
    refine xret ?_
    repeat' (first | (fail_if_success (with_reducible refine xstp ?_)); first | ((fail_if_success (with_reducible first | refine xgon ?_ | intro _)); (conv => whnf); (fail_if_success (fail_if_success (with_reducible first | refine xstp ?_ | refine xgon ?_ | intro _)))))
    refine LoopK.mk' {t : Nat × Int × Nat × List Rc × Nat // t.1 ≤ U.length ∧ DvI l x0 t.1 t.2.1 t.2.2.1 t.2.2.2.1}
      (fun ⟨(i, x, k, O, cO), _⟩ => ⟨[(1, .c (.sl 1 0 1 0 U.length d)), (7, .c (.p 2 0 0)), (9, .c (.p 4 0 0)), (11, .c (.sl 6 0 3 0 O.length cO)), (12, .c (.i .i64 x)), (13, .c (.i .i64 (i : Nat)))],
        [.one (rcR w l c), .one (tsR w2 U d), .one (plC ⟨l, x, k⟩ 3 cP), .one (rcR true l cP), .one (plC ⟨l, x0, 0⟩ 5 cQ), .one (rcR true l cQ), .one (rcR true O cO)]⟩) (fun t => U.length - t.1.1)
      ⟨⟨(0, x0, 0, [], 0), Nat.zero_le _, DvI.new hP0⟩, [0, 1, 2, 3, 4, 5, 99], ?_⟩ ?_
    · (repeat' first | refine And.intro ?_ ?_ | exact xeC | fail)
      all_goals first | (intro i hi; exact absurd hi (Nat.not_lt_zero i)) | skip
    rintro ⟨⟨i, x, k, O, cO⟩, hi, hI⟩
    simp only at hi hI
    have e3 : 0 + ((i : Nat) : Int).toNat = i := by omega
    have hOl : O.length ≤ 40 := by rw [hI.o, List.length_take]; omega
    have hxa := hI.p.a
    simp only at hxa
    rcases Nat.lt_or_ge i U.length with hlt | hge
    · have hui := hu i hlt
      have ew : (IntKind.i64.wrap ((U.getD i default : Nat) : Int)).tmod 100 = ((U.getD i default % 100 : Nat) : Int) := by
        rw [wrap_in64 (by unfold In64; omega), Int.tmod_eq_emod_of_nonneg (by omega)]
        omega
      repeat' (first | (fail_if_success (with_reducible refine xstp ?_)); first | ((with_reducible refine And.intro (fun (hb : _ = true) => ?_) (fun (hb : _ = false) => ?_)) <;> replace hb := xnC hb <;> (try first | exact xfC | exact bff hb (by assumption) | exact bff (by assumption) hb)) | ((with_reducible refine And.intro ?_ ?_); focus exact xoC) | (with_reducible intro hc; (try simp only [capsP, and_true] at hc); (try exact xfC)) | ((fail_if_success (with_reducible first | refine xgon ?_ | intro _)); (conv => whnf); (fail_if_success (fail_if_success (with_reducible first | refine xstp ?_ | refine xgon ?_ | intro _)))))
      refine xcal (σ := [.whole 2, .whole 3]) (nl := []) (cnow ⟨l, x, k⟩ cP) ?_
      rintro v h' ⟨rfl, rfl⟩ hcaps
      refine xret ?_
      repeat' (first | (fail_if_success (with_reducible refine xstp ?_)); first | ((with_reducible refine And.intro (fun (hb : _ = true) => ?_) (fun (hb : _ = false) => ?_)) <;> replace hb := xnC hb <;> (try first | exact xfC | exact bff hb (by assumption) | exact bff (by assumption) hb)) | ((with_reducible refine And.intro ?_ ?_); focus exact xoC) | ((with_reducible refine OvK.fit ?_ ?_); focus exact xoC) | ((fail_if_success (with_reducible first | refine xgon ?_ | intro _)); (conv => whnf); (fail_if_success (fail_if_success (with_reducible first | refine xstp ?_ | refine xgon ?_ | intro _)))))
      · skip
        refine xcal (σ := []) (nl := []) (cawake42) ?_
        rintro v h' ⟨rfl, rfl⟩ hcaps
        refine xret ?_
        repeat' (first | (fail_if_success (with_reducible refine xstp ?_)); first | ((fail_if_success (with_reducible first | refine xgon ?_ | intro _)); (conv => whnf); (fail_if_success (fail_if_success (with_reducible first | refine xstp ?_ | refine xgon ?_ | intro _)))))
        refine FinK.mk ⟨[0, 1], _, _, ⟨rfl, rfl⟩, ?_⟩
        (repeat' first | refine And.intro ?_ ?_ | exact xeC | fail)
      rw [e3, ew]
      rw [ew] at hb
      generalize hy : x + ((U.getD i default % 100 : Nat) : Int) = y at *
      obtain ⟨g0, j, g1, gI⟩ := hI.step (y := y) (by omega) (by omega)
      have k5 := cstep ⟨l, x, k⟩ cP y hI.p
      rw [g0, g1] at k5
      have hL := spL_len ⟨l, x, k⟩ y
      simp only at hL
      generalize spL ⟨l, x, k⟩ y = L at *
      refine xcal (σ := [.whole 2, .whole 3]) (nl := []) (k5) ?_
      rintro v h' ⟨c6, rfl, rfl⟩ hcaps
      refine xret ?_
      repeat' (first | (fail_if_success (with_reducible refine xstp ?_)); first | ((with_reducible refine And.intro (fun (hb : _ = true) => ?_) (fun (hb : _ = false) => ?_)) <;> replace hb := xnC hb <;> (try first | exact xfC | exact bff hb (by assumption) | exact bff (by assumption) hb)) | ((with_reducible refine And.intro ?_ ?_); focus exact xoC) | ((with_reducible refine OvK.fit ?_ ?_); focus exact xoC) | ((with_reducible refine Or.inl ⟨?_, ?_, ?_⟩); (focus rfl); focus exact xaC) | (with_reducible intro hc; (try simp only [capsP, and_true] at hc); (try exact xfC)) | ((fail_if_success (with_reducible first | refine xgon ?_ | intro _)); (conv => whnf); (fail_if_success (fail_if_success (with_reducible first | refine xstp ?_ | refine xgon ?_ | intro _)))))
      rename_i c7
      refine ⟨⟨(i + 1, y, j, O ++ L, c7), hlt, gI⟩, [0, 1, 2, 3, 4, 5, 8], by simp only; omega, ?_⟩
      (repeat' first | refine And.intro ?_ ?_ | exact xeC | fail)
      all_goals first
        | (simp only [List.length_append]; done)
        | (simp only [List.length_append]; exact Nat.le_refl _)
        | (intro q hq; exact app_rowL encR O L 0 _ (fun j hj => by rw [Nat.zero_add]; rfl) q hq)
        | skip
      all_goals trace_state
    · obtain rfl : i = U.length := by omega
      repeat' (first | (fail_if_success (with_reducible refine xstp ?_)); first | ((with_reducible refine And.intro (fun (hb : _ = true) => ?_) (fun (hb : _ = false) => ?_)) <;> replace hb := xnC hb <;> (try first | exact xfC | exact bff hb (by assumption) | exact bff (by assumption) hb)) | (with_reducible intro hc; (try simp only [capsP, and_true] at hc); (try exact xfC)) | ((fail_if_success (with_reducible first | refine xgon ?_ | intro _)); (conv => whnf); (fail_if_success (fail_if_success (with_reducible first | refine xstp ?_ | refine xgon ?_ | intro _)))))
      have hs := hI.le
      have q0 : spE ⟨l, x0, 0⟩ x = 0 := if_neg (by simp only; omega)
      have q2 : spL ⟨l, x0, 0⟩ x = twh (upt x) l 0 := by unfold spL; rw [if_pos q0]
      have k4 := cstep ⟨l, x0, 0⟩ cQ x hP0
      obtain ⟨y, j, q3⟩ := spP_eta l x0 0 x
      rw [q0, q2, q3] at k4
      have hOW := hI.w
      have hO0 := hI.z
      generalize twh (upt x) l 0 = W at *
      refine xcal (σ := [.whole 4, .whole 5]) (nl := []) (k4) ?_
      rintro v h' ⟨c4, rfl, rfl⟩ hcaps
      refine xret ?_
      repeat' (first | (fail_if_success (with_reducible refine xstp ?_)); first | ((with_reducible refine And.intro (fun (hb : _ = true) => ?_) (fun (hb : _ = false) => ?_)) <;> replace hb := xnC hb <;> (try first | exact xfC | exact bff hb (by assumption) | exact bff (by assumption) hb)) | ((fail_if_success (with_reducible first | refine xgon ?_ | intro _)); (conv => whnf); (fail_if_success (fail_if_success (with_reducible first | refine xstp ?_ | refine xgon ?_ | intro _)))))
      refine xcal (σ := [.whole 6, .whole 7]) (nl := []) (csameP true true O W cO c4 W.length (by omega) (Nat.le_refl _)) ?_
      rw [List.take_length]
      rintro v h' ⟨rfl, rfl⟩ hcaps
      rcases Nat.eq_zero_or_pos U.length with hU0 | hU0
      · have hO := hO0 hU0
        subst hO
        rcases Nat.eq_zero_or_pos W.length with hW0 | hW0
        · have : W = [] := List.eq_nil_of_length_eq_zero hW0
          subst this
          rw [decide_eq_true (p := ([] : List Rc) = []) rfl]
          refine xret ?_
          repeat' (first | (fail_if_success (with_reducible refine xstp ?_)); first | ((with_reducible refine And.intro (fun (hb : _ = true) => ?_) (fun (hb : _ = false) => ?_)) <;> replace hb := xnC hb <;> (try first | exact xfC | exact bff hb (by assumption) | exact bff (by assumption) hb)) | ((fail_if_success (with_reducible first | refine xgon ?_ | intro _)); (conv => whnf); (fail_if_success (fail_if_success (with_reducible first | refine xstp ?_ | refine xgon ?_ | intro _)))))
          · skip
            refine xcal (σ := []) (nl := []) (cawake42) ?_
            rintro v h' ⟨rfl, rfl⟩ hcaps
            refine xret ?_
            repeat' (first | (fail_if_success (with_reducible refine xstp ?_)); first | ((fail_if_success (with_reducible first | refine xgon ?_ | intro _)); (conv => whnf); (fail_if_success (fail_if_success (with_reducible first | refine xstp ?_ | refine xgon ?_ | intro _)))))
            refine FinK.mk ⟨[0, 1], _, _, ⟨rfl, rfl⟩, ?_⟩
            (repeat' first | refine And.intro ?_ ?_ | exact xeC | fail)
          · exact absurd hb (by decide)
        · rw [decide_eq_false (p := ([] : List Rc) = W) (fun q => by rw [← q] at hW0; exact absurd hW0 (Nat.lt_irrefl 0))]
          refine xret ?_
          repeat' (first | (fail_if_success (with_reducible refine xstp ?_)); first | ((with_reducible refine And.intro (fun (hb : _ = true) => ?_) (fun (hb : _ = false) => ?_)) <;> replace hb := xnC hb <;> (try first | exact xfC | exact bff hb (by assumption) | exact bff (by assumption) hb)) | ((fail_if_success (with_reducible first | refine xgon ?_ | intro _)); (conv => whnf); (fail_if_success (fail_if_success (with_reducible first | refine xstp ?_ | refine xgon ?_ | intro _)))))
          · skip
            refine xcal (σ := []) (nl := []) (cawake42) ?_
            rintro v h' ⟨rfl, rfl⟩ hcaps
            refine xret ?_
            repeat' (first | (fail_if_success (with_reducible refine xstp ?_)); first | ((fail_if_success (with_reducible first | refine xgon ?_ | intro _)); (conv => whnf); (fail_if_success (fail_if_success (with_reducible first | refine xstp ?_ | refine xgon ?_ | intro _)))))
            refine FinK.mk ⟨[0, 1], _, _, ⟨rfl, rfl⟩, ?_⟩
            (repeat' first | refine And.intro ?_ ?_ | exact xeC | fail)
          · rw [decide_eq_false (by omega)] at hb
            exact absurd hb (by decide)
      · have hO := hOW hU0
        subst hO
        rw [decide_eq_true (p := O = O) rfl]
        refine xret ?_
        repeat' (first | (fail_if_success (with_reducible refine xstp ?_)); first | ((with_reducible refine And.intro (fun (hb : _ = true) => ?_) (fun (hb : _ = false) => ?_)) <;> replace hb := xnC hb <;> (try first | exact xfC | exact bff hb (by assumption) | exact bff (by assumption) hb)) | ((fail_if_success (with_reducible first | refine xgon ?_ | intro _)); (conv => whnf); (fail_if_success (fail_if_success (with_reducible first | refine xstp ?_ | refine xgon ?_ | intro _)))))
        refine xcal (σ := []) (nl := []) (cawake42) ?_
        rintro v h' ⟨rfl, rfl⟩ hcaps
        refine xret ?_
        repeat' (first | (fail_if_success (with_reducible refine xstp ?_)); first | ((fail_if_success (with_reducible first | refine xgon ?_ | intro _)); (conv => whnf); (fail_if_success (fail_if_success (with_reducible first | refine xstp ?_ | refine xgon ?_ | intro _)))))
        refine FinK.mk ⟨[0, 1], _, _, ⟨rfl, rfl⟩, ?_⟩
        (repeat' first | refine And.intro ?_ ?_ | exact xeC | fail)
  · generalize wtE 300 l = e at *
    generalize wtS 300 l = s at *
    refine xcal (σ := [.whole 0]) (nl := []) (k1) ?_
    rintro v h' ⟨rfl, rfl⟩ hcaps
    refine xret ?_
    repeat' (first | (fail_if_success (with_reducible refine xstp ?_)); first | ((with_reducible refine And.intro (fun (hb : _ = true) => ?_) (fun (hb : _ = false) => ?_)) <;> replace hb := xnC hb <;> (try first | exact xfC | exact bff hb (by assumption) | exact bff (by assumption) hb)) | ((fail_if_success (with_reducible first | refine xgon ?_ | intro _)); (conv => whnf); (fail_if_success (fail_if_success (with_reducible first | refine xstp ?_ | refine xgon ?_ | intro _)))))
    refine xcal (σ := []) (nl := []) (cawake42) ?_
    rintro v h' ⟨rfl, rfl⟩ hcaps
    refine xret ?_
    repeat' (first | (fail_if_success (with_reducible refine xstp ?_)); first | ((fail_if_success (with_reducible first | refine xgon ?_ | intro _)); (conv => whnf); (fail_if_success (fail_if_success (with_reducible first | refine xstp ?_ | refine xgon ?_ | intro _)))))
    refine FinK.mk ⟨[0, 1], _, _, ⟨rfl, rfl⟩, ?_⟩
    (repeat' first | refine And.intro ?_ ?_ | exact xeC | fail)
end Go.Proofs.YtenompgpjlbelaaGreatDoor


namespace Go.Proofs.YtenompgpjlbelaaGreatDoor
open Go.X Go.RowKit
set_option linter.unusedVariables false
theorem ft_Rc {l : List C} (h : FT [.i .i64, .s, .s] l) : ∃ x : Rc, l = encR x ∧ True := by
  obtain ⟨a, _, rfl, ha, h1⟩ := FT_i h
  obtain ⟨b, _, rfl, hb, h2⟩ := FT_s h1
  obtain ⟨c, _, rfl, hc, h3⟩ := FT_s h2
  obtain rfl := FT_nil h3
  exact ⟨⟨a, b.data.toList, c.data.toList⟩, by unfold encR; simp only [mkS_of], trivial⟩
theorem recs_view {W : World} {v : Value} (k : VK W (.sl [.i .i64, .s, .s]) v) (e : ∀ a n c, v = .slice (some a) n c → a.spot = none) :
    ∃ (A : Nat × Nat × Fl) (l : List Rc) (c : Nat), l.length ≤ 9223372036854775807 ∧ (∀ β f x, β f x = A → (C.sl f x 3 0 l.length c).ren β = v) ∧ ∀ β, (rcR false l c).holds β W A := by
  obtain ⟨A, n, c, g, hv, hh, hn, hc, hnc, hg⟩ := row_view (by rfl) k e
  obtain ⟨l, hl, hge, hp⟩ := list_of encR (Pr := fun _ => True) (fun i hi => ft_Rc (hg i hi))
  subst hl
  exact ⟨A, l, c, by unfold maxLen at hn; omega, hv, fun β => holds_row_congr (hh _ _) hge⟩
end Go.Proofs.YtenompgpjlbelaaGreatDoor


namespace Go.Proofs.YtenompgpjlbelaaGreatDoor
open Go.X Go.RowKit
set_option linter.unusedVariables false
theorem two_read {β : Nm} {W : World} {ck ck' : Ck} (h : ck.holds β W (β 0 0)) (ho : ck.owned = false) (h' : ck'.holds β W (β 1 0)) (ho' : ck'.owned = false) : Fits β [.one ck, .one ck'] W ∧ ∀ f x, (Go.X.get [.one ck, .one ck'] f x).owned = false := by
  have hno := get_ones_own (h := [ck, ck']) (by
    intro q hq
    rcases List.mem_cons.1 hq with rfl | hq
    · exact ho
    · rw [List.mem_singleton.1 hq]; exact ho')
  exact ⟨fits_read (get_ones (h := [ck, ck']) (fun f q hf => by
    match f, hf with
    | 0, hf => cases hf; exact h
    | 1, hf => cases hf; exact h'
    | f + 2, hf => simp at hf)) hno, hno⟩
def nm2 (A B : Nat × Nat × Fl) : Nm := fun f _ => if f = 0 then A else B
theorem ft_Mv {l : List C} (h : FT [.i .i64, .i .i64, .i .i64, .i .i64] l) : ∃ x : Mv, l = encMv x ∧ True := by
  obtain ⟨a, _, rfl, _, h1⟩ := FT_i h
  obtain ⟨b, _, rfl, _, h2⟩ := FT_i h1
  obtain ⟨c, _, rfl, _, h3⟩ := FT_i h2
  obtain ⟨d, _, rfl, _, h4⟩ := FT_i h3
  obtain rfl := FT_nil h4
  exact ⟨⟨a, b, c, d⟩, rfl, trivial⟩
theorem ft_U {l : List C} (h : FT [.i .u16] l) : ∃ u : Nat, l = encU u ∧ u < 65536 := by
  obtain ⟨a, _, rfl, ha, h1⟩ := FT_i h
  obtain rfl := FT_nil h1
  have e1 : IntKind.u16.min = 0 := by decide
  have e2 : IntKind.u16.max = 65535 := by decide
  rw [e1, e2] at ha
  obtain ⟨u, rfl⟩ : ∃ u : Nat, a = (u : Int) := ⟨a.toNat, by omega⟩
  exact ⟨u, rfl, by omega⟩
theorem walk_PlayerSteps (W : World) (v0 : Value) (k0 : VK W (.sl [.i .i64, .s, .s]) v0) (e0 : ∀ a n c, v0 = .slice (some a) n c → a.spot = none)
    (v1 : Value) (k1 : VK W (.sl [.i .i64, .i .i64, .i .i64, .i .i64]) v1) (e1 : ∀ a n c, v1 = .slice (some a) n c → a.spot = none) :
    Calls Tryz.prog 6 #[v0, v1] W fun e W' => e = .returned (.bool true) ∧ Below W.heap.size W W' := by
  obtain ⟨A, l, c, hl, hv, hh⟩ := recs_view k0 e0
  obtain ⟨B, n, d, g, hv1, hh1, hn, hc, hnc, hg⟩ := row_view (by rfl) k1 e1
  obtain ⟨M, hM, hge, _⟩ := list_of encMv (Pr := fun _ => True) (fun i hi => ft_Mv (hg i hi))
  subst hM
  have hm : maxLen ≤ 9223372036854775807 := by unfold maxLen; omega
  obtain ⟨hf, hno⟩ := two_read (β := nm2 A B) (W := W) (ck := rcR false l c) (ck' := mvR false M d) (hh _) rfl (holds_row_congr (hh1 _ _) hge) rfl
  have hw0 : C.ren (nm2 A B) (.sl 0 0 3 0 l.length c) = v0 := hv (nm2 A B) 0 0 rfl
  have hw1 : C.ren (nm2 A B) (.sl 1 0 4 0 M.length d) = v1 := hv1 (nm2 A B) 1 0 rfl
  have := glue ((lsteps false false l c M d hl (by omega)).mono' fun v h q => q.1) hf hno
  simp only [List.map_cons, List.map_nil, T.ren, hw0, hw1] at this
  exact this
theorem walk_PlayerDivides (W : World) (v0 : Value) (k0 : VK W (.sl [.i .i64, .s, .s]) v0) (e0 : ∀ a n c, v0 = .slice (some a) n c → a.spot = none)
    (v1 : Value) (k1 : VK W (.sl [.i .u16]) v1) (e1 : ∀ a n c, v1 = .slice (some a) n c → a.spot = none) :
    Calls Tryz.prog 5 #[v0, v1] W fun e W' => e = .returned (.bool true) ∧ Below W.heap.size W W' := by
  obtain ⟨A, l, c, hl, hv, hh⟩ := recs_view k0 e0
  obtain ⟨B, n, d, g, hv1, hh1, hn, hc, hnc, hg⟩ := row_view (by rfl) k1 e1
  obtain ⟨U, hU, hge, hu⟩ := list_of encU (Pr := fun u => u < 65536) (fun i hi => ft_U (hg i hi))
  subst hU
  have hm : maxLen ≤ 9223372036854775807 := by unfold maxLen; omega
  obtain ⟨hf, hno⟩ := two_read (β := nm2 A B) (W := W) (ck := rcR false l c) (ck' := tsR false U d) (hh _) rfl (holds_row_congr (hh1 _ _) hge) rfl
  have hw0 : C.ren (nm2 A B) (.sl 0 0 3 0 l.length c) = v0 := hv (nm2 A B) 0 0 rfl
  have hw1 : C.ren (nm2 A B) (.sl 1 0 1 0 U.length d) = v1 := hv1 (nm2 A B) 1 0 rfl
  have := glue ((ldivides false false l c U d hl (by omega) (fun i hi => hu _ (mem_getD hi))).mono' fun v h q => q.1) hf hno
  simp only [List.map_cons, List.map_nil, T.ren, hw0, hw1] at this
  exact this
end Go.Proofs.YtenompgpjlbelaaGreatDoor

