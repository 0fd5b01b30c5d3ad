/- Part 7 of the texts that a walk of this program rests on: an abstract machine, its soundness, contracts of functions. No statement of the seat is proved in this file. -/
import Derived.Test.YtkjkbpnhocjenaaVF6
namespace Go.Proofs.Ytkjkbpnhocjenaa
open Go.X
set_option linter.unusedSimpArgs false
set_option linter.unusedVariables false
open P4
open P5
theorem rH41gD0 {σ : List Sg} {H h' : List Fam} {v : T} {K : T → List Fam → Prop} {H' : List Fam} {v' : T} {N : Nat} (hk : K v' H') (hN : H.length = N := by (try simp only [↓List.length_cons, ↓List.length_nil, Nat.reduceAdd]) <;> rfl) (h : givesF σ N H σ h' = some H' := by (try simp (maxSteps := 1000000) only [givesF, setF, updF, Fam.zeroth, Fam.rk, Ck.rk, C.rk, E.rk, T.rk, key, List.map_cons, List.map_nil, List.cons_append, List.nil_append, List.length_cons, List.length_nil, Option.map_some, Option.bind_some, Nat.reduceAdd, Nat.zero_add, Nat.add_zero, Nat.add_sub_cancel_left, Int.toNat_natCast, reps, List.all_cons, List.all_nil, C.flat, List.append_eq, Bool.not_true, Bool.and_true, Bool.or_false, Bool.or_self, Bool.not_false, List.append_nil, Bool.and_self, ↓trG_rk]) <;> rfl) (hv : v.rk σ N = v' := by (try simp only [givesF, setF, updF, Fam.zeroth, Fam.rk, Ck.rk, C.rk, E.rk, T.rk, key, List.map_cons, List.map_nil, List.cons_append, List.nil_append, List.length_cons, List.length_nil, Option.map_some, Option.bind_some, Nat.reduceAdd, Nat.zero_add, Nat.add_zero, Nat.add_sub_cancel_left, Int.toNat_natCast, reps, List.all_cons, List.all_nil, C.flat, List.append_eq, Bool.not_true, Bool.and_true, Bool.or_false, Bool.or_self, Bool.not_false, List.append_nil, Bool.and_self, ↓trG_rk]) <;> rfl) : RetG σ H h' v K := ret_mk3 hN h hv hk
theorem cH41gD1 {P : Program} {F : Nat} {args : List T} {H : List Fam} {K : T → List Fam → Prop} {σ : List Sg} {nl : List Fam} {args0 : List T} {h0 : List Fam} {Q : T → List Fam → Prop} {H2 H1 : List Fam} {N n : Nat} (hc : Ctr P F args0 h0 Q) (hk : ∀ v h', Q v h' → capsP h' → RetG σ H2 h' v K) (hap : apart σ = true := by rfl) (hnl : nl.all nilB = true := by rfl) (h1 : H ++ nl = H1 := by first | exact List.append_nil _ | ((try simp only [List.cons_append, List.nil_append]) <;> rfl)) (hN : H1.length = N := by (try simp only [↓List.length_cons, ↓List.length_nil, Nat.reduceAdd]) <;> rfl) (hn : H.length = n := by (try simp only [↓List.length_cons, ↓List.length_nil, Nat.reduceAdd]) <;> rfl) (hH : givesF σ N H1 σ h0 = some H2 := by (try simp (maxSteps := 1000000) only [givesF, setF, updF, Fam.zeroth, Fam.rk, Ck.rk, C.rk, E.rk, T.rk, key, List.map_cons, List.map_nil, List.cons_append, List.nil_append, List.length_cons, List.length_nil, Option.map_some, Option.bind_some, Nat.reduceAdd, Nat.zero_add, Nat.add_zero, Nat.add_sub_cancel_left, Int.toNat_natCast, reps, List.all_cons, List.all_nil, C.flat, List.append_eq, Bool.not_true, Bool.and_true, Bool.or_false, Bool.or_self, Bool.not_false, List.append_nil, Bool.and_self, ↓trG_rk]) <;> rfl) (hle : leS n H1 σ N σ h0 (belsK N (h0.map (Fam.rk σ N)) (argsK n args (args0.map (T.rk σ N)) True)) := by repeat' first | refine And.intro ?_ ?_ | exact xeC | fail) : CallK P F args H K := CallK.mk3 hc hap hnl h1 hN hn hH hle hk
set_option maxRecDepth 10000 in
set_option maxHeartbeats 16000000 in
theorem cReadR (b : Bg) (X : List Er) (c : Nat) (t : List UInt8) (fr un : Int) (hB : BOk b) (hl : b.s.length ≤ 100000) (hX : ers X = b.L) :
    Ctr Try.prog 29 [.c (.p 0 0 0), .c (.s (mkS t)), .c (.i .i64 fr), .c (.i .i64 un)] (rbH b X c)
      fun v h => ∃ c', v = .t [.c (.sl 3 0 3 0 (readB b t fr un).1.length c'), .c (.i .i64 ((readB b t fr un).2 : Nat))] ∧ h = rbH b X c ++ [.one (rcR true (readB b t fr un).1 c')] := by
  have hLl : b.L.length = X.length := by rw [← hX]; exact List.length_map _
  have hgk : ∀ i, b.L.getD i default = (X.getD i default).e := fun i => by rw [← hX, getErs]
  have hn := hB.n
  have hlen := hB.len
  refine Ctr.mk' tbv mixed Try.func29 rfl rfl rfl (fun _ _ => by kernel_rfl) (by kernel_rfl) (by rfl) (by rfl) (by (repeat' first | refine And.intro ?_ ?_ | exact xeC | fail) <;> exact xmT) ?_
  repeat' (first | (fail_if_success (with_reducible refine xstp ?_)); first | ((with_reducible refine And.intro (fun (hb : _ = true) => ?_) (fun (hb : _ = false) => ?_)) <;> replace hb := xnC hb <;> (try first | exact xfC | exact bff hb (by assumption) | exact bff (by assumption) hb)) | (with_reducible refine Both.mk ?_ ?_) | ((with_reducible refine And.intro ?_ ?_); focus exact xoC) | ((with_reducible refine Or.inl ⟨?_, ?_, ?_⟩); (focus rfl); focus exact xaC) | ((with_reducible refine xwB ?_ ?_); focus exact xaC) | ((with_reducible refine xwC ?_ ?_); focus exact xaC) | ((with_reducible refine xwD ?_ ?_); focus exact xaC) | ((with_reducible refine xwE ?_ ?_); focus exact xaC) | (with_reducible intro hc; (try simp only [capsP, and_true] at hc); (try exact xfC)) | ((fail_if_success (with_reducible first | refine xgon ?_ | intro _)); (conv => whnf); (fail_if_success (fail_if_success (with_reducible first | refine xstp ?_ | refine Both.mk ?_ ?_ | refine xgon ?_ | intro _)))))
  refine LoopK.mk' {p : Nat × List Rc × Nat // RdI b t fr un p.1 p.2.1}
    (fun ⟨(i, O, c1), _⟩ => ⟨[(0, .c (.p 0 0 0)), (1, .c (.s (mkS t))), (2, .c (.i .i64 fr)), (3, .c (.i .i64 un)), (10, .c (.sl 3 0 3 0 O.length c1)), (11, .c (.i .i64 (i : Nat)))],
      [.one (rbC b 1 X.length c), .one (erR 2 X c), .many (trG X), .one (rcR true O c1)]⟩) (fun p => X.length - p.1.1)
    ⟨⟨(0, [], 0), RdI.init b t fr un⟩, [0, 1, 2, 99], ?_⟩ ?_
  · (repeat' first | refine And.intro ?_ ?_ | exact xeC | fail)
    all_goals first
      | exact xmT
      | (intro i hi; exact absurd hi (Nat.not_lt_zero i))
      | skip
  rintro ⟨⟨i, O, c1⟩, hI⟩
  simp only at hI
  have hil := hI.le
  have hOl := hI.len
  have e2 : 0 + ((i : Nat) : Int).toNat = i := by omega
  rcases Nat.lt_or_ge i X.length with hlt | hge
  · have g1 : ixG trC X i = tlR true (X.getD i default).e.T (X.getD i default).cap := ixG_at hlt
    have hTl := (hB.sz (b.L.getD i default) (by rw [getD_at (by omega)]; exact List.getElem_mem _)).1
    rw [hgk] at hTl
    have hof := offE_le hB (i := i) (by omega)
    have hsk : skipE (b.L.getD i default) t fr un ↔ ¬ hasT (X.getD i default).e t ∨ ((X.getD i default).e.la : Int) < fr ∨ un ≤ ((X.getD i default).e.fi : Int) := by rw [hgk]; exact Iff.rfl
    have hset : ∀ ck, ck = ixG trC X i → (fun y => if y = i then ck else if y = i then ck else trG X y) = trG X := fun ck h => by
      funext y
      by_cases e : y = i
      · rw [if_pos e, h, e]
      · rw [if_neg e, if_neg e]
    repeat' (first | (fail_if_success (with_reducible refine xstp ?_)); first | ((with_reducible refine And.intro (fun (hb : _ = true) => ?_) (fun (hb : _ = false) => ?_)) <;> replace hb := xnC hb <;> (try first | exact xfC | exact bff hb (by assumption) | exact bff (by assumption) hb)) | (with_reducible refine Both.mk ?_ ?_) | ((with_reducible refine And.intro ?_ ?_); focus exact xoC) | ((with_reducible refine Or.inl ⟨?_, ?_, ?_⟩); (focus rfl); focus exact xaC) | ((with_reducible refine xwB ?_ ?_); focus exact xaC) | ((with_reducible refine xwC ?_ ?_); focus exact xaC) | ((with_reducible refine xwD ?_ ?_); focus exact xaC) | ((with_reducible refine xwE ?_ ?_); focus exact xaC) | (with_reducible intro hc; (try simp only [capsP, and_true] at hc); (try exact xfC)) | ((fail_if_success (with_reducible first | refine xgon ?_ | intro _)); (conv => whnf); (fail_if_success (fail_if_success (with_reducible first | refine xstp ?_ | refine Both.mk ?_ ?_ | refine xgon ?_ | intro _)))))
    rw [e2]
    by_cases hm : hasT (X.getD i default).e t
    · refine cH41gD1 (σ := [.mem 2 i]) (nl := []) (chas true (X.getD i default).e (X.getD i default).cap t hTl) ?_ (hle := by (repeat' first | refine And.intro ?_ ?_ | exact xeC | fail) <;> (first | (refine ManyK.mk ⟨_, g1, ?_⟩ <;> (repeat' first | refine And.intro ?_ ?_ | exact xeC | fail)) | exact xmT))
      rw [decide_eq_true (p := hasT (X.getD i default).e t) hm]
      rintro v h' ⟨rfl, rfl⟩ hcaps
      refine rH41gD0 ?_
      rw [hset _ g1.symm]
      repeat' (first | (fail_if_success (with_reducible refine xstp ?_)); first | ((with_reducible refine And.intro (fun (hb : _ = true) => ?_) (fun (hb : _ = false) => ?_)) <;> replace hb := xnC hb <;> (try first | exact xfC | exact bff hb (by assumption) | exact bff (by assumption) hb)) | (with_reducible refine Both.mk ?_ ?_) | ((with_reducible refine And.intro ?_ ?_); focus exact xoC) | ((with_reducible refine Or.inl ⟨?_, ?_, ?_⟩); (focus rfl); focus exact xaC) | ((with_reducible refine xwB ?_ ?_); focus exact xaC) | ((with_reducible refine xwC ?_ ?_); focus exact xaC) | ((with_reducible refine xwD ?_ ?_); focus exact xaC) | ((with_reducible refine xwE ?_ ?_); focus exact xaC) | (with_reducible intro hc; (try simp only [capsP, and_true] at hc); (try exact xfC)) | ((fail_if_success (with_reducible first | refine xgon ?_ | intro _)); (conv => whnf); (fail_if_success (fail_if_success (with_reducible first | refine xstp ?_ | refine Both.mk ?_ ?_ | refine xgon ?_ | intro _)))))
      · skip
        refine ⟨⟨(i + 1, O, c1), hI.skip hB (by omega) (hsk.2 (.inr (.inl (by omega))))⟩, [0, 1, 2, 3], by simp only; omega, ?_⟩
        (repeat' first | refine And.intro ?_ ?_ | exact xeC | fail)
        all_goals exact xmT
      · skip
        refine ⟨⟨(i + 1, O, c1), hI.skip hB (by omega) (hsk.2 (.inr (.inr (by omega))))⟩, [0, 1, 2, 3], by simp only; omega, ?_⟩
        (repeat' first | refine And.intro ?_ ?_ | exact xeC | fail)
        all_goals exact xmT
      have hns : ¬ skipE (b.L.getD i default) t fr un := fun q => by
        rcases hsk.1 q with q | q | q
        · exact q hm
        · omega
        · omega
      clear hsk
      refine cH41gD1 (σ := [.whole 0, .whole 1, .whole 2]) (nl := []) (cchunkR b X c i hB hl hX hlt) ?_ (hle := by (repeat' first | refine And.intro ?_ ?_ | exact xeC | fail) <;> exact xmT)
      rintro v h' ⟨c3, rfl, rfl⟩ hcaps
      refine rH41gD0 ?_
      repeat' (first | (fail_if_success (with_reducible refine xstp ?_)); first | ((with_reducible refine And.intro (fun (hb : _ = true) => ?_) (fun (hb : _ = false) => ?_)) <;> replace hb := xnC hb <;> (try first | exact xfC | exact bff hb (by assumption) | exact bff (by assumption) hb)) | (with_reducible refine Both.mk ?_ ?_) | ((with_reducible refine And.intro ?_ ?_); focus exact xoC) | ((with_reducible refine Or.inl ⟨?_, ?_, ?_⟩); (focus rfl); focus exact xaC) | ((with_reducible refine xwB ?_ ?_); focus exact xaC) | ((with_reducible refine xwC ?_ ?_); focus exact xaC) | ((with_reducible refine xwD ?_ ?_); focus exact xaC) | ((with_reducible refine xwE ?_ ?_); focus exact xaC) | (with_reducible intro hc; (try simp only [capsP, and_true] at hc); (try exact xfC)) | ((fail_if_success (with_reducible first | refine xgon ?_ | intro _)); (conv => whnf); (fail_if_success (fail_if_success (with_reducible first | refine xstp ?_ | refine Both.mk ?_ ?_ | refine xgon ?_ | intro _)))))
      · have hE : chE b i ≠ 0 := by omega
        rw [hI.err (by omega) hns hE]
        refine FinK.mk ⟨[0, 1, 2, 99], _, _, ⟨0, rfl, rfl⟩, ?_⟩
        (repeat' first | refine And.intro ?_ ?_ | exact xeC | fail)
        all_goals exact xmT
      have hE : chE b i = 0 := by omega
      have hcL := chL_len b i
      have hgo := hI.go hB (by omega) hns hE
      generalize chL b i = L at *
      refine LoopK.mk' {p : Nat × Nat // p.1 ≤ L.length}
        (fun ⟨(j, c2), _⟩ => ⟨[(0, .c (.p 0 0 0)), (1, .c (.s (mkS t))), (2, .c (.i .i64 fr)), (3, .c (.i .i64 un)), (10, .c (.sl 3 0 3 0 (O ++ selR t fr un (L.take j)).length c2)), (11, .c (.i .i64 (i : Nat))), (12, .c (.sl 4 0 3 0 L.length c3)), (14, .c (.i .i64 (j : Nat)))],
          [.one (rbC b 1 X.length c), .one (erR 2 X c), .many (trG X), .one (rcR true (O ++ selR t fr un (L.take j)) c2), .one (rcR true L c3)]⟩) (fun p => L.length - p.1.1)
        ⟨⟨(0, c1), Nat.zero_le _⟩, [0, 1, 2, 3, 4], ?_⟩ ?_
      · (repeat' first | refine And.intro ?_ ?_ | exact xeC | fail)
        all_goals first
          | exact xmT
          | (rw [selR_0]; done)
          | (rw [selR_0]; exact Nat.le_refl _)
          | (rw [selR_0]; intro i hi; rfl)
          | skip
      rintro ⟨⟨j, c2⟩, hj⟩
      simp only at hj
      have hselj := selR_le t fr un (L.take j)
      rw [List.length_take] at hselj
      have hOb : (O ++ selR t fr un (L.take j)).length ≤ 200000000 := by rw [List.length_append]; omega
      have e3 : 0 + ((j : Nat) : Int).toNat = j := by omega
      rcases Nat.lt_or_ge j L.length with hjl | hjg
      · have hts := selR_snoc t fr un (L.take j) (L.getD j default)
        rw [← take_snocG L hjl] at hts
        repeat' (first | (fail_if_success (with_reducible refine xstp ?_)); first | ((with_reducible refine And.intro (fun (hb : _ = true) => ?_) (fun (hb : _ = false) => ?_)) <;> replace hb := xnC hb <;> (try first | exact xfC | exact bff hb (by assumption) | exact bff (by assumption) hb)) | (with_reducible refine Both.mk ?_ ?_) | ((with_reducible refine And.intro ?_ ?_); focus exact xoC) | ((with_reducible refine Or.inl ⟨?_, ?_, ?_⟩); (focus rfl); focus exact xaC) | ((with_reducible refine xwB ?_ ?_); focus exact xaC) | ((with_reducible refine xwC ?_ ?_); focus exact xaC) | ((with_reducible refine xwD ?_ ?_); focus exact xaC) | ((with_reducible refine xwE ?_ ?_); focus exact xaC) | (with_reducible intro hc; (try simp only [capsP, and_true] at hc); (try exact xfC)) | ((fail_if_success (with_reducible first | refine xgon ?_ | intro _)); (conv => whnf); (fail_if_success (fail_if_success (with_reducible first | refine xstp ?_ | refine Both.mk ?_ ?_ | refine xgon ?_ | intro _)))))
        · skip
          rename_i c4
          rw [e3]
          rw [if_pos ⟨(.inl (mkS_nil.1 (by assumption))), by omega, by omega⟩] at hts
          refine ⟨⟨(j + 1, c4), hjl⟩, [0, 1, 2, 6, 4], by simp only; omega, ?_⟩
          simp only [hts, ← List.append_assoc]
          (repeat' first | refine And.intro ?_ ?_ | exact xeC | fail)
          all_goals first
            | exact xmT
            | skip
          all_goals first | omega | (simp only [List.length_append, List.length_singleton]; done) | (rw [List.length_append, List.length_singleton]; omega) | (intro i hi; (first | refine app_rowG _ _ _ _ ?_ i hi | refine app_row _ _ _ ?_ i hi); first | rfl | (simp only [Int.toNat_natCast, Nat.zero_add]; rfl))
        · skip
          rw [if_neg (fun q => by omega), List.append_nil] at hts
          refine ⟨⟨(j + 1, c2), hjl⟩, [0, 1, 2, 3, 4], by simp only; omega, ?_⟩
          simp only [hts]
          (repeat' first | refine And.intro ?_ ?_ | exact xeC | fail)
          all_goals first
            | exact xmT
            | skip
        · skip
          rw [if_neg (fun q => by omega), List.append_nil] at hts
          refine ⟨⟨(j + 1, c2), hjl⟩, [0, 1, 2, 3, 4], by simp only; omega, ?_⟩
          simp only [hts]
          (repeat' first | refine And.intro ?_ ?_ | exact xeC | fail)
          all_goals first
            | exact xmT
            | skip
        · skip
          rename_i c4
          rw [e3]
          rw [if_pos ⟨(.inr (mkS_inj.1 (by assumption))), by omega, by omega⟩] at hts
          refine ⟨⟨(j + 1, c4), hjl⟩, [0, 1, 2, 6, 4], by simp only; omega, ?_⟩
          simp only [hts, ← List.append_assoc]
          (repeat' first | refine And.intro ?_ ?_ | exact xeC | fail)
          all_goals first
            | exact xmT
            | skip
          all_goals first | omega | (simp only [List.length_append, List.length_singleton]; done) | (rw [List.length_append, List.length_singleton]; omega) | (intro i hi; (first | refine app_rowG _ _ _ _ ?_ i hi | refine app_row _ _ _ ?_ i hi); first | rfl | (simp only [Int.toNat_natCast, Nat.zero_add]; rfl))
        · skip
          rw [if_neg (fun q => by omega), List.append_nil] at hts
          refine ⟨⟨(j + 1, c2), hjl⟩, [0, 1, 2, 3, 4], by simp only; omega, ?_⟩
          simp only [hts]
          (repeat' first | refine And.intro ?_ ?_ | exact xeC | fail)
          all_goals first
            | exact xmT
            | skip
        · skip
          rw [if_neg (fun q => by omega), List.append_nil] at hts
          refine ⟨⟨(j + 1, c2), hjl⟩, [0, 1, 2, 3, 4], by simp only; omega, ?_⟩
          simp only [hts]
          (repeat' first | refine And.intro ?_ ?_ | exact xeC | fail)
          all_goals first
            | exact xmT
            | skip
        · rename_i h5
          rw [if_neg (fun q => q.1.elim (fun h => h5 (mkS_nil.2 h)) (fun h => hb (by rw [h]))), List.append_nil] at hts
          refine ⟨⟨(j + 1, c2), hjl⟩, [0, 1, 2, 3, 4], by simp only; omega, ?_⟩
          simp only [hts]
          (repeat' first | refine And.intro ?_ ?_ | exact xeC | fail)
          all_goals first
            | exact xmT
            | skip
      · obtain rfl : j = L.length := by omega
        repeat' (first | (fail_if_success (with_reducible refine xstp ?_)); first | ((with_reducible refine And.intro (fun (hb : _ = true) => ?_) (fun (hb : _ = false) => ?_)) <;> replace hb := xnC hb <;> (try first | exact xfC | exact bff hb (by assumption) | exact bff (by assumption) hb)) | (with_reducible refine Both.mk ?_ ?_) | ((with_reducible refine And.intro ?_ ?_); focus exact xoC) | ((with_reducible refine Or.inl ⟨?_, ?_, ?_⟩); (focus rfl); focus exact xaC) | ((with_reducible refine xwB ?_ ?_); focus exact xaC) | ((with_reducible refine xwC ?_ ?_); focus exact xaC) | ((with_reducible refine xwD ?_ ?_); focus exact xaC) | ((with_reducible refine xwE ?_ ?_); focus exact xaC) | (with_reducible intro hc; (try simp only [capsP, and_true] at hc); (try exact xfC)) | ((fail_if_success (with_reducible first | refine xgon ?_ | intro _)); (conv => whnf); (fail_if_success (fail_if_success (with_reducible first | refine xstp ?_ | refine Both.mk ?_ ?_ | refine xgon ?_ | intro _)))))
        rw [List.take_length]
        refine ⟨⟨(i + 1, O ++ selR t fr un L, c2), hgo⟩, [0, 1, 2, 3], by simp only; omega, ?_⟩
        (repeat' first | refine And.intro ?_ ?_ | exact xeC | fail)
        all_goals first
          | exact xmT
          | skip
    · refine cH41gD1 (σ := [.mem 2 i]) (nl := []) (chas true (X.getD i default).e (X.getD i default).cap t hTl) ?_ (hle := by (repeat' first | refine And.intro ?_ ?_ | exact xeC | fail) <;> (first | (refine ManyK.mk ⟨_, g1, ?_⟩ <;> (repeat' first | refine And.intro ?_ ?_ | exact xeC | fail)) | exact xmT))
      rw [decide_eq_false (p := hasT (X.getD i default).e t) hm]
      rintro v h' ⟨rfl, rfl⟩ hcaps
      refine rH41gD0 ?_
      rw [hset _ g1.symm]
      repeat' (first | (fail_if_success (with_reducible refine xstp ?_)); first | ((with_reducible refine And.intro (fun (hb : _ = true) => ?_) (fun (hb : _ = false) => ?_)) <;> replace hb := xnC hb <;> (try first | exact xfC | exact bff hb (by assumption) | exact bff (by assumption) hb)) | (with_reducible refine Both.mk ?_ ?_) | ((with_reducible refine And.intro ?_ ?_); focus exact xoC) | ((with_reducible refine Or.inl ⟨?_, ?_, ?_⟩); (focus rfl); focus exact xaC) | ((with_reducible refine xwB ?_ ?_); focus exact xaC) | ((with_reducible refine xwC ?_ ?_); focus exact xaC) | ((with_reducible refine xwD ?_ ?_); focus exact xaC) | ((with_reducible refine xwE ?_ ?_); focus exact xaC) | (with_reducible intro hc; (try simp only [capsP, and_true] at hc); (try exact xfC)) | ((fail_if_success (with_reducible first | refine xgon ?_ | intro _)); (conv => whnf); (fail_if_success (fail_if_success (with_reducible first | refine xstp ?_ | refine Both.mk ?_ ?_ | refine xgon ?_ | intro _)))))
      refine ⟨⟨(i + 1, O, c1), hI.skip hB (by omega) (hsk.2 (.inl hm))⟩, [0, 1, 2, 3], by simp only; omega, ?_⟩
      (repeat' first | refine And.intro ?_ ?_ | exact xeC | fail)
      all_goals exact xmT
  · obtain rfl : i = X.length := by omega
    repeat' (first | (fail_if_success (with_reducible refine xstp ?_)); first | ((with_reducible refine And.intro (fun (hb : _ = true) => ?_) (fun (hb : _ = false) => ?_)) <;> replace hb := xnC hb <;> (try first | exact xfC | exact bff hb (by assumption) | exact bff (by assumption) hb)) | (with_reducible refine Both.mk ?_ ?_) | ((with_reducible refine And.intro ?_ ?_); focus exact xoC) | ((with_reducible refine Or.inl ⟨?_, ?_, ?_⟩); (focus rfl); focus exact xaC) | ((with_reducible refine xwB ?_ ?_); focus exact xaC) | ((with_reducible refine xwC ?_ ?_); focus exact xaC) | ((with_reducible refine xwD ?_ ?_); focus exact xaC) | ((with_reducible refine xwE ?_ ?_); focus exact xaC) | (with_reducible intro hc; (try simp only [capsP, and_true] at hc); (try exact xfC)) | ((fail_if_success (with_reducible first | refine xgon ?_ | intro _)); (conv => whnf); (fail_if_success (fail_if_success (with_reducible first | refine xstp ?_ | refine Both.mk ?_ ?_ | refine xgon ?_ | intro _)))))
    rw [(show readB b t fr un = (O, 0) from RdI.fin (by rw [hLl]; exact hI))]
    refine FinK.mk ⟨[0, 1, 2, 3], _, _, ⟨c1, rfl, rfl⟩, ?_⟩
    (repeat' first | refine And.intro ?_ ?_ | exact xeC | fail)
    all_goals exact xmT
set_option maxRecDepth 10000 in
theorem cAllR (b : Bg) (X : List Er) (c : Nat) (hB : BOk b) (hl : b.s.length ≤ 100000) (hX : ers X = b.L) :
    Ctr Try.prog 32 [.c (.p 0 0 0)] (rbH b X c)
      fun v h => ∃ c', v = .t [.c (.sl 3 0 3 0 (readB b [] 0 1099511627777).1.length c'), .c (.i .i64 ((readB b [] 0 1099511627777).2 : Nat))] ∧ h = rbH b X c ++ [.one (rcR true (readB b [] 0 1099511627777).1 c')] := by
  refine Ctr.mk' tbv mixed Try.func32 rfl rfl rfl (fun _ _ => by kernel_rfl) (by kernel_rfl) (by rfl) (by rfl) (by (repeat' first | refine And.intro ?_ ?_ | exact xeC | fail) <;> exact xmT) ?_
  repeat' (first | (fail_if_success (with_reducible refine xstp ?_)); first | ((with_reducible refine And.intro (fun (hb : _ = true) => ?_) (fun (hb : _ = false) => ?_)) <;> replace hb := xnC hb <;> (try first | exact xfC | exact bff hb (by assumption) | exact bff (by assumption) hb)) | (with_reducible refine Both.mk ?_ ?_) | ((with_reducible refine And.intro ?_ ?_); focus exact xoC) | ((with_reducible refine Or.inl ⟨?_, ?_, ?_⟩); (focus rfl); focus exact xaC) | ((with_reducible refine xwB ?_ ?_); focus exact xaC) | ((with_reducible refine xwC ?_ ?_); focus exact xaC) | ((with_reducible refine xwD ?_ ?_); focus exact xaC) | ((with_reducible refine xwE ?_ ?_); focus exact xaC) | (with_reducible intro hc; (try simp only [capsP, and_true] at hc); (try exact xfC)) | ((fail_if_success (with_reducible first | refine xgon ?_ | intro _)); (conv => whnf); (fail_if_success (fail_if_success (with_reducible first | refine xstp ?_ | refine Both.mk ?_ ?_ | refine xgon ?_ | intro _)))))
  refine cH41gD1 (σ := [.whole 0, .whole 1, .whole 2]) (nl := []) (cReadR b X c [] 0 1099511627777 hB hl hX) ?_ (hle := by (repeat' first | refine And.intro ?_ ?_ | exact xeC | fail) <;> exact xmT)
  rintro v h' ⟨c3, rfl, rfl⟩ hcaps
  refine rH41gD0 ?_
  repeat' (first | (fail_if_success (with_reducible refine xstp ?_)); first | ((with_reducible refine And.intro (fun (hb : _ = true) => ?_) (fun (hb : _ = false) => ?_)) <;> replace hb := xnC hb <;> (try first | exact xfC | exact bff hb (by assumption) | exact bff (by assumption) hb)) | (with_reducible refine Both.mk ?_ ?_) | ((with_reducible refine And.intro ?_ ?_); focus exact xoC) | ((with_reducible refine Or.inl ⟨?_, ?_, ?_⟩); (focus rfl); focus exact xaC) | ((with_reducible refine xwB ?_ ?_); focus exact xaC) | ((with_reducible refine xwC ?_ ?_); focus exact xaC) | ((with_reducible refine xwD ?_ ?_); focus exact xaC) | ((with_reducible refine xwE ?_ ?_); focus exact xaC) | (with_reducible intro hc; (try simp only [capsP, and_true] at hc); (try exact xfC)) | ((fail_if_success (with_reducible first | refine xgon ?_ | intro _)); (conv => whnf); (fail_if_success (fail_if_success (with_reducible first | refine xstp ?_ | refine Both.mk ?_ ?_ | refine xgon ?_ | intro _)))))
  refine FinK.mk ⟨[0, 1, 2, 3], _, _, ⟨c3, rfl, rfl⟩, ?_⟩
  (repeat' first | refine And.intro ?_ ?_ | exact xeC | fail)
  all_goals exact xmT
end Go.Proofs.Ytkjkbpnhocjenaa
namespace Go.Proofs.Ytkjkbpnhocjenaa
open Go.X
set_option linter.unusedSimpArgs false
set_option linter.unusedVariables false
open P4
open P5
theorem rH41gE0 {σ : List Sg} {H h' : List Fam} {v : T} {K : T → List Fam → Prop} {H' : List Fam} {v' : T} {N : Nat} (hk : K v' H') (hN : H.length = N := by (try simp only [↓List.length_cons, ↓List.length_nil, Nat.reduceAdd]) <;> rfl) (h : givesF σ N H σ h' = some H' := by (try simp (maxSteps := 1000000) only [givesF, setF, updF, Fam.zeroth, Fam.rk, Ck.rk, C.rk, E.rk, T.rk, key, List.map_cons, List.map_nil, List.cons_append, List.nil_append, List.length_cons, List.length_nil, Option.map_some, Option.bind_some, Nat.reduceAdd, Nat.zero_add, Nat.add_zero, Nat.add_sub_cancel_left, Int.toNat_natCast, reps, List.all_cons, List.all_nil, C.flat, List.append_eq, Bool.not_true, Bool.and_true, Bool.or_false, Bool.or_self, Bool.not_false, List.append_nil, Bool.and_self, ↓trG_rk]) <;> rfl) (hv : v.rk σ N = v' := by (try simp only [givesF, setF, updF, Fam.zeroth, Fam.rk, Ck.rk, C.rk, E.rk, T.rk, key, List.map_cons, List.map_nil, List.cons_append, List.nil_append, List.length_cons, List.length_nil, Option.map_some, Option.bind_some, Nat.reduceAdd, Nat.zero_add, Nat.add_zero, Nat.add_sub_cancel_left, Int.toNat_natCast, reps, List.all_cons, List.all_nil, C.flat, List.append_eq, Bool.not_true, Bool.and_true, Bool.or_false, Bool.or_self, Bool.not_false, List.append_nil, Bool.and_self, ↓trG_rk]) <;> rfl) : RetG σ H h' v K := ret_mk3 hN h hv hk
theorem cH41gE1 {P : Program} {F : Nat} {args : List T} {H : List Fam} {K : T → List Fam → Prop} {σ : List Sg} {nl : List Fam} {args0 : List T} {h0 : List Fam} {Q : T → List Fam → Prop} {H2 H1 : List Fam} {N n : Nat} (hc : Ctr P F args0 h0 Q) (hk : ∀ v h', Q v h' → capsP h' → RetG σ H2 h' v K) (hap : apart σ = true := by rfl) (hnl : nl.all nilB = true := by rfl) (h1 : H ++ nl = H1 := by first | exact List.append_nil _ | ((try simp only [List.cons_append, List.nil_append]) <;> rfl)) (hN : H1.length = N := by (try simp only [↓List.length_cons, ↓List.length_nil, Nat.reduceAdd]) <;> rfl) (hn : H.length = n := by (try simp only [↓List.length_cons, ↓List.length_nil, Nat.reduceAdd]) <;> rfl) (hH : givesF σ N H1 σ h0 = some H2 := by (try simp (maxSteps := 1000000) only [givesF, setF, updF, Fam.zeroth, Fam.rk, Ck.rk, C.rk, E.rk, T.rk, key, List.map_cons, List.map_nil, List.cons_append, List.nil_append, List.length_cons, List.length_nil, Option.map_some, Option.bind_some, Nat.reduceAdd, Nat.zero_add, Nat.add_zero, Nat.add_sub_cancel_left, Int.toNat_natCast, reps, List.all_cons, List.all_nil, C.flat, List.append_eq, Bool.not_true, Bool.and_true, Bool.or_false, Bool.or_self, Bool.not_false, List.append_nil, Bool.and_self, ↓trG_rk]) <;> rfl) (hle : leS n H1 σ N σ h0 (belsK N (h0.map (Fam.rk σ N)) (argsK n args (args0.map (T.rk σ N)) True)) := by repeat' first | refine And.intro ?_ ?_ | exact xeC | fail) : CallK P F args H K := CallK.mk3 hc hap hnl h1 hN hn hH hle hk
set_option maxRecDepth 10000 in
set_option maxHeartbeats 16000000 in
theorem cNextR (b : Bg) (X : List Er) (c : Nat) (at' : Int) (hB : BOk b) (hl : b.s.length ≤ 100000) (hX : ers X = b.L) :
    Ctr Try.prog 34 [.c (.p 0 0 0), .c (.i .i64 at')] (rbH b X c)
      fun v h => v = optR (nxB b at') ∧ h = rbH b X c := by
  have hLl : b.L.length = X.length := by rw [← hX]; exact List.length_map _
  have hgk : ∀ i, b.L.getD i default = (X.getD i default).e := fun i => by rw [← hX, getErs]
  have hn := hB.n
  have hlen := hB.len
  refine Ctr.mk' tbv mixed Try.func34 rfl rfl rfl (fun _ _ => by kernel_rfl) (by kernel_rfl) (by rfl) (by rfl) (by (repeat' first | refine And.intro ?_ ?_ | exact xeC | fail) <;> exact xmT) ?_
  repeat' (first | (fail_if_success (with_reducible refine xstp ?_)); first | ((with_reducible refine And.intro (fun (hb : _ = true) => ?_) (fun (hb : _ = false) => ?_)) <;> replace hb := xnC hb <;> (try first | exact xfC | exact bff hb (by assumption) | exact bff (by assumption) hb)) | (with_reducible refine Both.mk ?_ ?_) | ((with_reducible refine And.intro ?_ ?_); focus exact xoC) | ((with_reducible refine Or.inl ⟨?_, ?_, ?_⟩); (focus rfl); focus exact xaC) | ((with_reducible refine xwB ?_ ?_); focus exact xaC) | ((with_reducible refine xwC ?_ ?_); focus exact xaC) | ((with_reducible refine xwD ?_ ?_); focus exact xaC) | ((with_reducible refine xwE ?_ ?_); focus exact xaC) | (with_reducible intro hc; (try simp only [capsP, and_true] at hc); (try exact xfC)) | ((fail_if_success (with_reducible first | refine xgon ?_ | intro _)); (conv => whnf); (fail_if_success (fail_if_success (with_reducible first | refine xstp ?_ | refine Both.mk ?_ ?_ | refine xgon ?_ | intro _)))))
  refine LoopK.mk' {i : Nat // i ≤ X.length ∧ nxB b at' = nxF b at' (X.length - i) i}
    (fun ⟨i, _⟩ => ⟨[(0, .c (.p 0 0 0)), (1, .c (.i .i64 at')), (4, .c (.p 3 0 0)), (6, .c (.i .i64 (i : Nat)))],
      [.one (rbC b 1 X.length c), .one (erR 2 X c), .many (trG X), .one (.cells true [.i .i64 0, .s (mkS []), .s (mkS [])])]⟩) (fun p => X.length - p.1)
    ⟨⟨0, Nat.zero_le _, by rw [nxB_eq, hLl]; rfl⟩, [0, 1, 2, 3], ?_⟩ ?_
  · (repeat' first | refine And.intro ?_ ?_ | exact xeC | fail)
    all_goals first
      | exact xmT
      | skip
  rintro ⟨i, hil, hI⟩
  have e2 : 0 + ((i : Nat) : Int).toNat = i := by omega
  rcases Nat.lt_or_ge i X.length with hlt | hge
  · have hof := offE_le hB (i := i) (by omega)
    rw [show X.length - i = (X.length - (i + 1)) + 1 by omega, nxF, hgk] at hI
    repeat' (first | (fail_if_success (with_reducible refine xstp ?_)); first | ((with_reducible refine And.intro (fun (hb : _ = true) => ?_) (fun (hb : _ = false) => ?_)) <;> replace hb := xnC hb <;> (try first | exact xfC | exact bff hb (by assumption) | exact bff (by assumption) hb)) | (with_reducible refine Both.mk ?_ ?_) | ((with_reducible refine And.intro ?_ ?_); focus exact xoC) | ((with_reducible refine Or.inl ⟨?_, ?_, ?_⟩); (focus rfl); focus exact xaC) | ((with_reducible refine xwB ?_ ?_); focus exact xaC) | ((with_reducible refine xwC ?_ ?_); focus exact xaC) | ((with_reducible refine xwD ?_ ?_); focus exact xaC) | ((with_reducible refine xwE ?_ ?_); focus exact xaC) | (with_reducible intro hc; (try simp only [capsP, and_true] at hc); (try exact xfC)) | ((fail_if_success (with_reducible first | refine xgon ?_ | intro _)); (conv => whnf); (fail_if_success (fail_if_success (with_reducible first | refine xstp ?_ | refine Both.mk ?_ ?_ | refine xgon ?_ | intro _)))))
    · rw [if_pos (by assumption)] at hI
      refine ⟨⟨i + 1, hlt, hI⟩, [0, 1, 2, 3], by simp only; omega, ?_⟩
      (repeat' first | refine And.intro ?_ ?_ | exact xeC | fail)
      all_goals exact xmT
    · rw [if_neg (by omega)] at hI
      refine cH41gE1 (σ := [.whole 0, .whole 1, .whole 2]) (nl := []) (cchunkR b X c i hB hl hX hlt) ?_ (hle := by (repeat' first | refine And.intro ?_ ?_ | exact xeC | fail) <;> exact xmT)
      rintro v h' ⟨c3, rfl, rfl⟩ hcaps
      refine rH41gE0 ?_
      have hcL := chL_len b i
      have hcE : chE b i ≠ 0 → chL b i = [] := fun h => if_neg h
      have hla := fun h => chL_la (b := b) (k := i) h
      rw [hgk] at hla
      generalize chL b i = L at *
      generalize chE b i = er at *
      repeat' (first | (fail_if_success (with_reducible refine xstp ?_)); first | ((with_reducible refine And.intro (fun (hb : _ = true) => ?_) (fun (hb : _ = false) => ?_)) <;> replace hb := xnC hb <;> (try first | exact xfC | exact bff hb (by assumption) | exact bff (by assumption) hb)) | (with_reducible refine Both.mk ?_ ?_) | ((with_reducible refine And.intro ?_ ?_); focus exact xoC) | ((with_reducible refine Or.inl ⟨?_, ?_, ?_⟩); (focus rfl); focus exact xaC) | ((with_reducible refine xwB ?_ ?_); focus exact xaC) | ((with_reducible refine xwC ?_ ?_); focus exact xaC) | ((with_reducible refine xwD ?_ ?_); focus exact xaC) | ((with_reducible refine xwE ?_ ?_); focus exact xaC) | (with_reducible intro hc; (try simp only [capsP, and_true] at hc); (try exact xfC)) | ((fail_if_success (with_reducible first | refine xgon ?_ | intro _)); (conv => whnf); (fail_if_success (fail_if_success (with_reducible first | refine xstp ?_ | refine Both.mk ?_ ?_ | refine xgon ?_ | intro _)))))
      refine LoopK.mk' {j : Nat // j ≤ L.length ∧ ∀ k, k < j → (L.getD k default).at_ < at'}
        (fun ⟨j, _⟩ => ⟨[(1, .c (.i .i64 at')), (4, .c (.p 3 0 0)), (7, .c (.sl 4 0 3 0 L.length c3)), (8, .c (.i .i64 (er : Nat))), (9, .c (.i .i64 (j : Nat)))],
          [.one (rbC b 1 X.length c), .one (erR 2 X c), .many (trG X), .one (.cells true [.i .i64 0, .s (mkS []), .s (mkS [])]), .one (rcR true L c3)]⟩) (fun p => L.length - p.1)
        ⟨⟨0, Nat.zero_le _, fun k hk => absurd hk (Nat.not_lt_zero k)⟩, [0, 1, 2, 3, 4], ?_⟩ ?_
      · (repeat' first | refine And.intro ?_ ?_ | exact xeC | fail)
        all_goals first
          | exact xmT
          | skip
      rintro ⟨j, hj, hno⟩
      have e3 : 0 + ((j : Nat) : Int).toNat = j := by omega
      repeat' (first | (fail_if_success (with_reducible refine xstp ?_)); first | ((with_reducible refine And.intro (fun (hb : _ = true) => ?_) (fun (hb : _ = false) => ?_)) <;> replace hb := xnC hb <;> (try first | exact xfC | exact bff hb (by assumption) | exact bff (by assumption) hb)) | (with_reducible refine Both.mk ?_ ?_) | ((with_reducible refine And.intro ?_ ?_); focus exact xoC) | ((with_reducible refine Or.inl ⟨?_, ?_, ?_⟩); (focus rfl); focus exact xaC) | ((with_reducible refine xwB ?_ ?_); focus exact xaC) | ((with_reducible refine xwC ?_ ?_); focus exact xaC) | ((with_reducible refine xwD ?_ ?_); focus exact xaC) | ((with_reducible refine xwE ?_ ?_); focus exact xaC) | (with_reducible intro hc; (try simp only [capsP, and_true] at hc); (try exact xfC)) | ((fail_if_success (with_reducible first | refine xgon ?_ | intro _)); (conv => whnf); (fail_if_success (fail_if_success (with_reducible first | refine xstp ?_ | refine Both.mk ?_ ?_ | refine xgon ?_ | intro _)))))
      · rw [e3, hI, find_at (show j < L.length by omega) (fun k hk => decide_eq_false (by have := hno k hk; omega)) (decide_eq_true hb)]
        refine FinK.mk ⟨[0, 1, 2], _, _, ⟨rfl, rfl⟩, ?_⟩
        (repeat' first | refine And.intro ?_ ?_ | exact xeC | fail)
        all_goals exact xmT
      · refine ⟨⟨j + 1, by omega, fun k hk => ?_⟩, [0, 1, 2, 3, 4], by simp only; omega, ?_⟩
        · rcases Nat.lt_or_ge k j with q | q
          · exact hno k q
          · obtain rfl : k = j := by omega
            exact hb
        · (repeat' first | refine And.intro ?_ ?_ | exact xeC | fail)
          all_goals exact xmT
      · exfalso
        have hl2 := hla (by omega)
        have := hno (L.length - 1) (by omega)
        omega
      · rw [hI, hcE (by omega)]
        refine FinK.mk ⟨[0, 1, 2], _, _, ⟨rfl, rfl⟩, ?_⟩
        (repeat' first | refine And.intro ?_ ?_ | exact xeC | fail)
        all_goals exact xmT
  · obtain rfl : i = X.length := by omega
    repeat' (first | (fail_if_success (with_reducible refine xstp ?_)); first | ((with_reducible refine And.intro (fun (hb : _ = true) => ?_) (fun (hb : _ = false) => ?_)) <;> replace hb := xnC hb <;> (try first | exact xfC | exact bff hb (by assumption) | exact bff (by assumption) hb)) | (with_reducible refine Both.mk ?_ ?_) | ((with_reducible refine And.intro ?_ ?_); focus exact xoC) | ((with_reducible refine Or.inl ⟨?_, ?_, ?_⟩); (focus rfl); focus exact xaC) | ((with_reducible refine xwB ?_ ?_); focus exact xaC) | ((with_reducible refine xwC ?_ ?_); focus exact xaC) | ((with_reducible refine xwD ?_ ?_); focus exact xaC) | ((with_reducible refine xwE ?_ ?_); focus exact xaC) | (with_reducible intro hc; (try simp only [capsP, and_true] at hc); (try exact xfC)) | ((fail_if_success (with_reducible first | refine xgon ?_ | intro _)); (conv => whnf); (fail_if_success (fail_if_success (with_reducible first | refine xstp ?_ | refine Both.mk ?_ ?_ | refine xgon ?_ | intro _)))))
    rw [hI, Nat.sub_self]
    refine FinK.mk ⟨[0, 1, 2], _, _, ⟨rfl, rfl⟩, ?_⟩
    (repeat' first | refine And.intro ?_ ?_ | exact xeC | fail)
    all_goals exact xmT
end Go.Proofs.Ytkjkbpnhocjenaa
namespace Go.Proofs.Ytkjkbpnhocjenaa
open Go.X
set_option linter.unusedSimpArgs false
set_option linter.unusedVariables false
open P4
open P5
theorem xmO {p : Prop} (h : p := by first | exact xmC2 | exact xmT | fail) : p := h
theorem spn_shape (b : Bg) : ∃ (p1 p2 : Int), spnB b = .t [.c (.i .i64 p1), .c (.i .i64 p2), .c .ff] ∨ spnB b = .t [.c (.i .i64 p1), .c (.i .i64 p2), .c .tt] := by
  by_cases h0 : b.L.length = 0
  · exact ⟨0, 0, .inl (if_pos h0)⟩
  · exact ⟨_, _, .inr (if_neg h0)⟩
theorem opt_shape (o : Option Rc) : ∃ (r : Rc) (k : Bool), optR o = .t [.a (encR r), .c (.b k)] := by
  cases o with
  | none => exact ⟨⟨0, [], []⟩, false, rfl⟩
  | some r => exact ⟨r, true, rfl⟩
theorem rdB_len {b : Bg} (hB : BOk b) (t : List UInt8) (fr un : Int) : ∀ n k, k + n ≤ b.L.length → (rdB b t fr un n k).1.length + offE b k ≤ offE b (k + n)
  | 0, k, _ => by simp [rdB]
  | n + 1, k, h => by
    have ih := rdB_len hB t fr un n (k + 1) (by omega)
    have ho := offE_le hB (i := k) (by omega)
    have hs := offE_succ b k
    have hc := chL_len b k
    have hse := selR_le t fr un (chL b k)
    rw [show k + 1 + n = k + (n + 1) by omega] at ih
    unfold rdB
    split
    · omega
    · split
      · simp only [List.length_nil]; omega
      · split
        · simp only [List.length_append]; omega
        · simp only [List.length_nil]; omega
theorem read_len {b : Bg} (hB : BOk b) (t : List UInt8) (fr un : Int) : (readB b t fr un).1.length ≤ 100000000 := by
  have h := rdB_len hB t fr un b.L.length 0 (by omega)
  have h2 : offE b (0 + b.L.length) = b.ix := by unfold offE; rw [if_neg (by omega)]
  have := hB.ix
  have := hB.len
  unfold readB
  omega
theorem rH41gF0 {σ : List Sg} {H h' : List Fam} {v : T} {K : T → List Fam → Prop} {H' : List Fam} {v' : T} {N : Nat} (hk : K v' H') (hN : H.length = N := by (try simp only [↓List.length_cons, ↓List.length_nil, Nat.reduceAdd]) <;> rfl) (h : givesF σ N H σ h' = some H' := by (try simp (maxSteps := 1000000) only [givesF, setF, updF, Fam.zeroth, Fam.rk, Ck.rk, C.rk, E.rk, T.rk, key, List.map_cons, List.map_nil, List.cons_append, List.nil_append, List.length_cons, List.length_nil, Option.map_some, Option.bind_some, Nat.reduceAdd, Nat.zero_add, Nat.add_zero, Nat.add_sub_cancel_left, Int.toNat_natCast, reps, List.all_cons, List.all_nil, C.flat, List.append_eq, Bool.not_true, Bool.and_true, Bool.or_false, Bool.or_self, Bool.not_false, List.append_nil, Bool.and_self, ↓tpG_rk, ↓cnG_rk, ↓trG_rk]) <;> rfl) (hv : v.rk σ N = v' := by (try simp only [givesF, setF, updF, Fam.zeroth, Fam.rk, Ck.rk, C.rk, E.rk, T.rk, key, List.map_cons, List.map_nil, List.cons_append, List.nil_append, List.length_cons, List.length_nil, Option.map_some, Option.bind_some, Nat.reduceAdd, Nat.zero_add, Nat.add_zero, Nat.add_sub_cancel_left, Int.toNat_natCast, reps, List.all_cons, List.all_nil, C.flat, List.append_eq, Bool.not_true, Bool.and_true, Bool.or_false, Bool.or_self, Bool.not_false, List.append_nil, Bool.and_self, ↓tpG_rk, ↓cnG_rk, ↓trG_rk]) <;> rfl) : RetG σ H h' v K := ret_mk3 hN h hv hk
theorem rH41gF1 {σ : List Sg} {H h' : List Fam} {v : T} {K : T → List Fam → Prop} {H' : List Fam} {v' : T} {N : Nat} (hk : K v' H') (hN : H.length = N := by (try simp only [↓List.length_cons, ↓List.length_nil, Nat.reduceAdd]) <;> rfl) (h : givesF σ N H σ h' = some H' := by (try simp (maxSteps := 1000000) only [givesF, setF, updF, Fam.zeroth, Fam.rk, Ck.rk, C.rk, E.rk, T.rk, key, List.map_cons, List.map_nil, List.cons_append, List.nil_append, List.length_cons, List.length_nil, Option.map_some, Option.bind_some, Nat.reduceAdd, Nat.zero_add, Nat.add_zero, Nat.add_sub_cancel_left, Int.toNat_natCast, reps, List.all_cons, List.all_nil, C.flat, List.append_eq, Bool.not_true, Bool.and_true, Bool.or_false, Bool.or_self, Bool.not_false, List.append_nil, Bool.and_self, ↓tpG_rk, ↓cnG_rk, ↓trG_rk, encEp_rk0]) <;> rfl) (hv : v.rk σ N = v' := by (try simp only [givesF, setF, updF, Fam.zeroth, Fam.rk, Ck.rk, C.rk, E.rk, T.rk, key, List.map_cons, List.map_nil, List.cons_append, List.nil_append, List.length_cons, List.length_nil, Option.map_some, Option.bind_some, Nat.reduceAdd, Nat.zero_add, Nat.add_zero, Nat.add_sub_cancel_left, Int.toNat_natCast, reps, List.all_cons, List.all_nil, C.flat, List.append_eq, Bool.not_true, Bool.and_true, Bool.or_false, Bool.or_self, Bool.not_false, List.append_nil, Bool.and_self, ↓tpG_rk, ↓cnG_rk, ↓trG_rk, encEp_rk0]) <;> rfl) : RetG σ H h' v K := ret_mk3 hN h hv hk
theorem rH41gF2 {σ : List Sg} {H h' : List Fam} {v : T} {K : T → List Fam → Prop} {H' : List Fam} {v' : T} {N : Nat} (hk : K v' H') (hN : H.length = N := by (try simp only [↓List.length_cons, ↓List.length_nil, Nat.reduceAdd]) <;> rfl) (h : givesF σ N H σ h' = some H' := by (try simp (maxSteps := 1000000) only [givesF, setF, updF, Fam.zeroth, Fam.rk, Ck.rk, C.rk, E.rk, T.rk, key, List.map_cons, List.map_nil, List.cons_append, List.nil_append, List.length_cons, List.length_nil, Option.map_some, Option.bind_some, Nat.reduceAdd, Nat.zero_add, Nat.add_zero, Nat.add_sub_cancel_left, Int.toNat_natCast, reps, List.all_cons, List.all_nil, C.flat, List.append_eq, Bool.not_true, Bool.and_true, Bool.or_false, Bool.or_self, Bool.not_false, List.append_nil, Bool.and_self, ↓tpG_rk, ↓cnG_rk, ↓trG_rk, encEr_rk0]) <;> rfl) (hv : v.rk σ N = v' := by (try simp only [givesF, setF, updF, Fam.zeroth, Fam.rk, Ck.rk, C.rk, E.rk, T.rk, key, List.map_cons, List.map_nil, List.cons_append, List.nil_append, List.length_cons, List.length_nil, Option.map_some, Option.bind_some, Nat.reduceAdd, Nat.zero_add, Nat.add_zero, Nat.add_sub_cancel_left, Int.toNat_natCast, reps, List.all_cons, List.all_nil, C.flat, List.append_eq, Bool.not_true, Bool.and_true, Bool.or_false, Bool.or_self, Bool.not_false, List.append_nil, Bool.and_self, ↓tpG_rk, ↓cnG_rk, ↓trG_rk, encEr_rk0]) <;> rfl) : RetG σ H h' v K := ret_mk3 hN h hv hk
theorem rH41gF3 {σ : List Sg} {H h' : List Fam} {v : T} {K : T → List Fam → Prop} {H' : List Fam} {v' : T} {N : Nat} (hk : K v' H') (hN : H.length = N := by (try simp only [↓List.length_cons, ↓List.length_nil, Nat.reduceAdd]) <;> rfl) (h : givesF σ N H σ h' = some H' := by (try simp (maxSteps := 1000000) only [givesF, setF, updF, Fam.zeroth, Fam.rk, Ck.rk, C.rk, E.rk, T.rk, key, List.map_cons, List.map_nil, List.cons_append, List.nil_append, List.length_cons, List.length_nil, Option.map_some, Option.bind_some, Nat.reduceAdd, Nat.zero_add, Nat.add_zero, Nat.add_sub_cancel_left, Int.toNat_natCast, reps, List.all_cons, List.all_nil, C.flat, List.append_eq, Bool.not_true, Bool.and_true, Bool.or_false, Bool.or_self, Bool.not_false, List.append_nil, Bool.and_self, ↓tpG_rk, ↓cnG_rk, ↓trG_rk, encR]) <;> rfl) (hv : v.rk σ N = v' := by (try simp only [givesF, setF, updF, Fam.zeroth, Fam.rk, Ck.rk, C.rk, E.rk, T.rk, key, List.map_cons, List.map_nil, List.cons_append, List.nil_append, List.length_cons, List.length_nil, Option.map_some, Option.bind_some, Nat.reduceAdd, Nat.zero_add, Nat.add_zero, Nat.add_sub_cancel_left, Int.toNat_natCast, reps, List.all_cons, List.all_nil, C.flat, List.append_eq, Bool.not_true, Bool.and_true, Bool.or_false, Bool.or_self, Bool.not_false, List.append_nil, Bool.and_self, ↓tpG_rk, ↓cnG_rk, ↓trG_rk, encR]) <;> rfl) : RetG σ H h' v K := ret_mk3 hN h hv hk
theorem cH41gF4 {P : Program} {F : Nat} {args : List T} {H : List Fam} {K : T → List Fam → Prop} {σ : List Sg} {nl : List Fam} {args0 : List T} {h0 : List Fam} {Q : T → List Fam → Prop} {H2 H1 : List Fam} {N n : Nat} (hc : Ctr P F args0 h0 Q) (hk : ∀ v h', Q v h' → capsP h' → RetG σ H2 h' v K) (hap : apart σ = true := by rfl) (hnl : nl.all nilB = true := by rfl) (h1 : H ++ nl = H1 := by first | exact List.append_nil _ | ((try simp only [List.cons_append, List.nil_append]) <;> rfl)) (hN : H1.length = N := by (try simp only [↓List.length_cons, ↓List.length_nil, Nat.reduceAdd]) <;> rfl) (hn : H.length = n := by (try simp only [↓List.length_cons, ↓List.length_nil, Nat.reduceAdd]) <;> rfl) (hH : givesF σ N H1 σ h0 = some H2 := by (try simp (maxSteps := 1000000) only [givesF, setF, updF, Fam.zeroth, Fam.rk, Ck.rk, C.rk, E.rk, T.rk, key, List.map_cons, List.map_nil, List.cons_append, List.nil_append, List.length_cons, List.length_nil, Option.map_some, Option.bind_some, Nat.reduceAdd, Nat.zero_add, Nat.add_zero, Nat.add_sub_cancel_left, Int.toNat_natCast, reps, List.all_cons, List.all_nil, C.flat, List.append_eq, Bool.not_true, Bool.and_true, Bool.or_false, Bool.or_self, Bool.not_false, List.append_nil, Bool.and_self, ↓tpG_rk, ↓cnG_rk, ↓trG_rk]) <;> rfl) (hle : leS n H1 σ N σ h0 (belsK N (h0.map (Fam.rk σ N)) (argsK n args (args0.map (T.rk σ N)) True)) := by repeat' first | refine And.intro ?_ ?_ | exact xeC | fail) : CallK P F args H K := CallK.mk3 hc hap hnl h1 hN hn hH hle hk
set_option maxRecDepth 10000 in
set_option maxHeartbeats 16000000 in
theorem copens (l t : List UInt8) (fr un : Int) (hl : l.length ≤ 140737488355328) (ht : t.length ≤ 140737488355328) :
    Ctr Try.prog 5 [.c (.s (mkS l)), .c (.s (mkS t)), .c (.i .i64 fr), .c (.i .i64 un)] [] fun v h => v = .c .tt := by
  have hz : (mkS l).size = l.length := rfl
  have hz2 : (mkS t).size = t.length := rfl
  refine Ctr.mk' tbv mixed Try.func5 rfl rfl rfl (fun _ _ => by kernel_rfl) (by kernel_rfl) (by rfl) (by rfl) (by (repeat' first | refine And.intro ?_ ?_ | exact xeC | fail)) ?_
  repeat' (first | (fail_if_success (with_reducible refine xstp ?_)); first | ((with_reducible refine And.intro (fun (hb : _ = true) => ?_) (fun (hb : _ = false) => ?_)) <;> replace hb := xnC hb <;> (try first | exact xfC | exact bff hb (by assumption) | exact bff (by assumption) hb)) | (with_reducible refine Both.mk ?_ ?_) | ((with_reducible refine And.intro ?_ ?_); focus exact xoC) | ((with_reducible refine Or.inl ⟨?_, ?_, ?_⟩); (focus rfl); focus exact xaC) | ((with_reducible refine xwB ?_ ?_); focus exact xaC) | ((with_reducible refine xwC ?_ ?_); focus exact xaC) | ((with_reducible refine xwD ?_ ?_); focus exact xaC) | ((with_reducible refine xwE ?_ ?_); focus exact xaC) | (with_reducible intro hc; (try simp only [capsP, and_true] at hc); (try exact xfC)) | ((fail_if_success (with_reducible first | refine xgon ?_ | intro _)); (conv => whnf); (fail_if_success (fail_if_success (with_reducible first | refine xstp ?_ | refine Both.mk ?_ ?_ | refine xgon ?_ | intro _)))))
  · skip
    refine cH41gF4 (σ := []) (nl := []) (cawake) ?_
    rintro v h' ⟨rfl, rfl⟩ hcaps
    refine rH41gF0 ?_
    repeat' (first | (fail_if_success (with_reducible refine xstp ?_)); first | ((with_reducible refine And.intro (fun (hb : _ = true) => ?_) (fun (hb : _ = false) => ?_)) <;> replace hb := xnC hb <;> (try first | exact xfC | exact bff hb (by assumption) | exact bff (by assumption) hb)) | (with_reducible refine Both.mk ?_ ?_) | ((with_reducible refine And.intro ?_ ?_); focus exact xoC) | ((with_reducible refine Or.inl ⟨?_, ?_, ?_⟩); (focus rfl); focus exact xaC) | ((with_reducible refine xwB ?_ ?_); focus exact xaC) | ((with_reducible refine xwC ?_ ?_); focus exact xaC) | ((with_reducible refine xwD ?_ ?_); focus exact xaC) | ((with_reducible refine xwE ?_ ?_); focus exact xaC) | (with_reducible intro hc; (try simp only [capsP, and_true] at hc); (try exact xfC)) | ((fail_if_success (with_reducible first | refine xgon ?_ | intro _)); (conv => whnf); (fail_if_success (fail_if_success (with_reducible first | refine xstp ?_ | refine Both.mk ?_ ?_ | refine xgon ?_ | intro _)))))
    refine FinK.mk ⟨[], _, [], rfl, ?_⟩
    (repeat' first | refine And.intro ?_ ?_ | exact xeC | fail)
  · skip
    refine cH41gF4 (σ := []) (nl := []) (cawake) ?_
    rintro v h' ⟨rfl, rfl⟩ hcaps
    refine rH41gF0 ?_
    repeat' (first | (fail_if_success (with_reducible refine xstp ?_)); first | ((with_reducible refine And.intro (fun (hb : _ = true) => ?_) (fun (hb : _ = false) => ?_)) <;> replace hb := xnC hb <;> (try first | exact xfC | exact bff hb (by assumption) | exact bff (by assumption) hb)) | (with_reducible refine Both.mk ?_ ?_) | ((with_reducible refine And.intro ?_ ?_); focus exact xoC) | ((with_reducible refine Or.inl ⟨?_, ?_, ?_⟩); (focus rfl); focus exact xaC) | ((with_reducible refine xwB ?_ ?_); focus exact xaC) | ((with_reducible refine xwC ?_ ?_); focus exact xaC) | ((with_reducible refine xwD ?_ ?_); focus exact xaC) | ((with_reducible refine xwE ?_ ?_); focus exact xaC) | (with_reducible intro hc; (try simp only [capsP, and_true] at hc); (try exact xfC)) | ((fail_if_success (with_reducible first | refine xgon ?_ | intro _)); (conv => whnf); (fail_if_success (fail_if_success (with_reducible first | refine xstp ?_ | refine Both.mk ?_ ?_ | refine xgon ?_ | intro _)))))
    refine FinK.mk ⟨[], _, [], rfl, ?_⟩
    (repeat' first | refine And.intro ?_ ?_ | exact xeC | fail)
  have hOs : (bgO l).s = l := by simp only [bgO]
  have hBo := fun h => BOk.of (l := l) h (by omega)
  generalize hE : bgE l = er at *
  refine cH41gF4 (σ := []) (nl := []) (cOpenB l (by omega)) ?_
  rw [hE]
  rintro v h' hq hcaps
  rcases hq with ⟨hn, rfl, rfl⟩ | ⟨h0, X, c, hX, rfl, rfl⟩
  · refine rH41gF0 ?_
    repeat' (first | (fail_if_success (with_reducible refine xstp ?_)); first | ((with_reducible refine And.intro (fun (hb : _ = true) => ?_) (fun (hb : _ = false) => ?_)) <;> replace hb := xnC hb <;> (try first | exact xfC | exact bff hb (by assumption) | exact bff (by assumption) hb)) | (with_reducible refine Both.mk ?_ ?_) | ((with_reducible refine And.intro ?_ ?_); focus exact xoC) | ((with_reducible refine Or.inl ⟨?_, ?_, ?_⟩); (focus rfl); focus exact xaC) | ((with_reducible refine xwB ?_ ?_); focus exact xaC) | ((with_reducible refine xwC ?_ ?_); focus exact xaC) | ((with_reducible refine xwD ?_ ?_); focus exact xaC) | ((with_reducible refine xwE ?_ ?_); focus exact xaC) | (with_reducible intro hc; (try simp only [capsP, and_true] at hc); (try exact xfC)) | ((fail_if_success (with_reducible first | refine xgon ?_ | intro _)); (conv => whnf); (fail_if_success (fail_if_success (with_reducible first | refine xstp ?_ | refine Both.mk ?_ ?_ | refine xgon ?_ | intro _)))))
    refine cH41gF4 (σ := []) (nl := []) (cOpenRef l (by omega)) ?_
    rw [hE]
    rintro v h' hq hcaps
    rcases hq with ⟨_, rfl, rfl⟩ | ⟨hq, _⟩
    · refine rH41gF0 ?_
      repeat' (first | (fail_if_success (with_reducible refine xstp ?_)); first | ((with_reducible refine And.intro (fun (hb : _ = true) => ?_) (fun (hb : _ = false) => ?_)) <;> replace hb := xnC hb <;> (try first | exact xfC | exact bff hb (by assumption) | exact bff (by assumption) hb)) | (with_reducible refine Both.mk ?_ ?_) | ((with_reducible refine And.intro ?_ ?_); focus exact xoC) | ((with_reducible refine Or.inl ⟨?_, ?_, ?_⟩); (focus rfl); focus exact xaC) | ((with_reducible refine xwB ?_ ?_); focus exact xaC) | ((with_reducible refine xwC ?_ ?_); focus exact xaC) | ((with_reducible refine xwD ?_ ?_); focus exact xaC) | ((with_reducible refine xwE ?_ ?_); focus exact xaC) | (with_reducible intro hc; (try simp only [capsP, and_true] at hc); (try exact xfC)) | ((fail_if_success (with_reducible first | refine xgon ?_ | intro _)); (conv => whnf); (fail_if_success (fail_if_success (with_reducible first | refine xstp ?_ | refine Both.mk ?_ ?_ | refine xgon ?_ | intro _)))))
      refine cH41gF4 (σ := []) (nl := []) (cawake) ?_
      rintro v h' ⟨rfl, rfl⟩ hcaps
      refine rH41gF0 ?_
      repeat' (first | (fail_if_success (with_reducible refine xstp ?_)); first | ((with_reducible refine And.intro (fun (hb : _ = true) => ?_) (fun (hb : _ = false) => ?_)) <;> replace hb := xnC hb <;> (try first | exact xfC | exact bff hb (by assumption) | exact bff (by assumption) hb)) | (with_reducible refine Both.mk ?_ ?_) | ((with_reducible refine And.intro ?_ ?_); focus exact xoC) | ((with_reducible refine Or.inl ⟨?_, ?_, ?_⟩); (focus rfl); focus exact xaC) | ((with_reducible refine xwB ?_ ?_); focus exact xaC) | ((with_reducible refine xwC ?_ ?_); focus exact xaC) | ((with_reducible refine xwD ?_ ?_); focus exact xaC) | ((with_reducible refine xwE ?_ ?_); focus exact xaC) | (with_reducible intro hc; (try simp only [capsP, and_true] at hc); (try exact xfC)) | ((fail_if_success (with_reducible first | refine xgon ?_ | intro _)); (conv => whnf); (fail_if_success (fail_if_success (with_reducible first | refine xstp ?_ | refine Both.mk ?_ ?_ | refine xgon ?_ | intro _)))))
      refine FinK.mk ⟨[], _, [], rfl, ?_⟩
      (repeat' first | refine And.intro ?_ ?_ | exact xeC | fail)
    · exact absurd hq hn
  refine rH41gF1 ?_
  repeat' (first | (fail_if_success (with_reducible refine xstp ?_)); first | ((with_reducible refine And.intro (fun (hb : _ = true) => ?_) (fun (hb : _ = false) => ?_)) <;> replace hb := xnC hb <;> (try first | exact xfC | exact bff hb (by assumption) | exact bff (by assumption) hb)) | (with_reducible refine Both.mk ?_ ?_) | ((with_reducible refine And.intro ?_ ?_); focus exact xoC) | ((with_reducible refine Or.inl ⟨?_, ?_, ?_⟩); (focus rfl); focus exact xaC) | ((with_reducible refine xwB ?_ ?_); focus exact xaC) | ((with_reducible refine xwC ?_ ?_); focus exact xaC) | ((with_reducible refine xwD ?_ ?_); focus exact xaC) | ((with_reducible refine xwE ?_ ?_); focus exact xaC) | (with_reducible intro hc; (try simp only [capsP, and_true] at hc); (try exact xfC)) | ((fail_if_success (with_reducible first | refine xgon ?_ | intro _)); (conv => whnf); (fail_if_success (fail_if_success (with_reducible first | refine xstp ?_ | refine Both.mk ?_ ?_ | refine xgon ?_ | intro _)))))
  refine cH41gF4 (σ := []) (nl := []) (cOpenRef l (by omega)) ?_ (hle := by (repeat' first | refine And.intro ?_ ?_ | exact xeC | fail) <;> exact xmO)
  rw [hE]
  rintro v h' hq hcaps
  rcases hq with ⟨hq, _⟩ | ⟨_, Y, d, hY, rfl, rfl⟩
  · exact absurd h0 hq
  have hB := hBo h0
  generalize bgO l = b at *
  have hs : b.s.length ≤ 100000 := by rw [hOs]; omega
  refine rH41gF2 ?_
  repeat' (first | (fail_if_success (with_reducible refine xstp ?_)); first | ((with_reducible refine And.intro (fun (hb : _ = true) => ?_) (fun (hb : _ = false) => ?_)) <;> replace hb := xnC hb <;> (try first | exact xfC | exact bff hb (by assumption) | exact bff (by assumption) hb)) | (with_reducible refine Both.mk ?_ ?_) | ((with_reducible refine And.intro ?_ ?_); focus exact xoC) | ((with_reducible refine Or.inl ⟨?_, ?_, ?_⟩); (focus rfl); focus exact xaC) | ((with_reducible refine xwB ?_ ?_); focus exact xaC) | ((with_reducible refine xwC ?_ ?_); focus exact xaC) | ((with_reducible refine xwD ?_ ?_); focus exact xaC) | ((with_reducible refine xwE ?_ ?_); focus exact xaC) | (with_reducible intro hc; (try simp only [capsP, and_true] at hc); (try exact xfC)) | ((fail_if_success (with_reducible first | refine xgon ?_ | intro _)); (conv => whnf); (fail_if_success (fail_if_success (with_reducible first | refine xstp ?_ | refine Both.mk ?_ ?_ | refine xgon ?_ | intro _)))))
  have hU := top_len hB
  have hR1 := read_len hB t fr un
  have hR2 := read_len hB [] 0 1099511627777
  obtain ⟨p1, p2, hsp⟩ := spn_shape b
  obtain ⟨r, kk, hop⟩ := opt_shape (nxB b fr)
  rcases hsp with hsp | hsp
  all_goals (
    refine cH41gF4 (σ := [.whole 0, .whole 1, .whole 2, .whole 3]) (nl := []) (cSpan b X c hB hX) ?_ (hle := by (repeat' first | refine And.intro ?_ ?_ | exact xeC | fail) <;> exact xmO)
    rw [hsp]
    rintro v h' ⟨rfl, rfl⟩ hcaps
    refine rH41gF1 ?_
    repeat' (first | (fail_if_success (with_reducible refine xstp ?_)); first | ((with_reducible refine And.intro (fun (hb : _ = true) => ?_) (fun (hb : _ = false) => ?_)) <;> replace hb := xnC hb <;> (try first | exact xfC | exact bff hb (by assumption) | exact bff (by assumption) hb)) | (with_reducible refine Both.mk ?_ ?_) | ((with_reducible refine And.intro ?_ ?_); focus exact xoC) | ((with_reducible refine Or.inl ⟨?_, ?_, ?_⟩); (focus rfl); focus exact xaC) | ((with_reducible refine xwB ?_ ?_); focus exact xaC) | ((with_reducible refine xwC ?_ ?_); focus exact xaC) | ((with_reducible refine xwD ?_ ?_); focus exact xaC) | ((with_reducible refine xwE ?_ ?_); focus exact xaC) | (with_reducible intro hc; (try simp only [capsP, and_true] at hc); (try exact xfC)) | ((fail_if_success (with_reducible first | refine xgon ?_ | intro _)); (conv => whnf); (fail_if_success (fail_if_success (with_reducible first | refine xstp ?_ | refine Both.mk ?_ ?_ | refine xgon ?_ | intro _)))))
    refine cH41gF4 (σ := [.whole 4, .whole 5, .whole 6]) (nl := []) (cSpanRef b Y d hB hY) ?_ (hle := by (repeat' first | refine And.intro ?_ ?_ | exact xeC | fail) <;> exact xmO)
    rw [hsp]
    rintro v h' ⟨rfl, rfl⟩ hcaps
    refine rH41gF2 ?_
    repeat' (first | (fail_if_success (with_reducible refine xstp ?_)); first | ((with_reducible refine And.intro (fun (hb : _ = true) => ?_) (fun (hb : _ = false) => ?_)) <;> replace hb := xnC hb <;> (try first | exact xfC | exact bff hb (by assumption) | exact bff (by assumption) hb)) | (with_reducible refine Both.mk ?_ ?_) | ((with_reducible refine And.intro ?_ ?_); focus exact xoC) | ((with_reducible refine Or.inl ⟨?_, ?_, ?_⟩); (focus rfl); focus exact xaC) | ((with_reducible refine xwB ?_ ?_); focus exact xaC) | ((with_reducible refine xwC ?_ ?_); focus exact xaC) | ((with_reducible refine xwD ?_ ?_); focus exact xaC) | ((with_reducible refine xwE ?_ ?_); focus exact xaC) | (with_reducible intro hc; (try simp only [capsP, and_true] at hc); (try exact xfC)) | ((fail_if_success (with_reducible first | refine xgon ?_ | intro _)); (conv => whnf); (fail_if_success (fail_if_success (with_reducible first | refine xstp ?_ | refine Both.mk ?_ ?_ | refine xgon ?_ | intro _)))))
    refine cH41gF4 (σ := [.whole 0, .whole 1, .whole 2, .whole 3]) (nl := []) (cTopics b X c hB hX) ?_ (hle := by (repeat' first | refine And.intro ?_ ?_ | exact xeC | fail) <;> exact xmO)
    rintro v h' ⟨c1, rfl, rfl⟩ hcaps
    refine rH41gF0 ?_
    repeat' (first | (fail_if_success (with_reducible refine xstp ?_)); first | ((with_reducible refine And.intro (fun (hb : _ = true) => ?_) (fun (hb : _ = false) => ?_)) <;> replace hb := xnC hb <;> (try first | exact xfC | exact bff hb (by assumption) | exact bff (by assumption) hb)) | (with_reducible refine Both.mk ?_ ?_) | ((with_reducible refine And.intro ?_ ?_); focus exact xoC) | ((with_reducible refine Or.inl ⟨?_, ?_, ?_⟩); (focus rfl); focus exact xaC) | ((with_reducible refine xwB ?_ ?_); focus exact xaC) | ((with_reducible refine xwC ?_ ?_); focus exact xaC) | ((with_reducible refine xwD ?_ ?_); focus exact xaC) | ((with_reducible refine xwE ?_ ?_); focus exact xaC) | (with_reducible intro hc; (try simp only [capsP, and_true] at hc); (try exact xfC)) | ((fail_if_success (with_reducible first | refine xgon ?_ | intro _)); (conv => whnf); (fail_if_success (fail_if_success (with_reducible first | refine xstp ?_ | refine Both.mk ?_ ?_ | refine xgon ?_ | intro _)))))
    refine cH41gF4 (σ := [.whole 4, .whole 5, .whole 6]) (nl := []) (cTopicsRef b Y d hB hY) ?_ (hle := by (repeat' first | refine And.intro ?_ ?_ | exact xeC | fail) <;> exact xmO)
    rintro v h' ⟨d1, rfl, rfl⟩ hcaps
    refine rH41gF0 ?_
    repeat' (first | (fail_if_success (with_reducible refine xstp ?_)); first | ((with_reducible refine And.intro (fun (hb : _ = true) => ?_) (fun (hb : _ = false) => ?_)) <;> replace hb := xnC hb <;> (try first | exact xfC | exact bff hb (by assumption) | exact bff (by assumption) hb)) | (with_reducible refine Both.mk ?_ ?_) | ((with_reducible refine And.intro ?_ ?_); focus exact xoC) | ((with_reducible refine Or.inl ⟨?_, ?_, ?_⟩); (focus rfl); focus exact xaC) | ((with_reducible refine xwB ?_ ?_); focus exact xaC) | ((with_reducible refine xwC ?_ ?_); focus exact xaC) | ((with_reducible refine xwD ?_ ?_); focus exact xaC) | ((with_reducible refine xwE ?_ ?_); focus exact xaC) | (with_reducible intro hc; (try simp only [capsP, and_true] at hc); (try exact xfC)) | ((fail_if_success (with_reducible first | refine xgon ?_ | intro _)); (conv => whnf); (fail_if_success (fail_if_success (with_reducible first | refine xstp ?_ | refine Both.mk ?_ ?_ | refine xgon ?_ | intro _)))))
    refine cH41gF4 (σ := [.whole 7, .whole 8]) (nl := []) (ctexts true true (topB b) (topB b) c1 d1 (by omega)) ?_ (hle := by (repeat' first | refine And.intro ?_ ?_ | exact xeC | fail) <;> exact xmO)
    rw [decide_eq_true (p := topB b = topB b) rfl]
    rintro v h' ⟨rfl, rfl⟩ hcaps
    refine rH41gF0 ?_
    repeat' (first | (fail_if_success (with_reducible refine xstp ?_)); first | ((with_reducible refine And.intro (fun (hb : _ = true) => ?_) (fun (hb : _ = false) => ?_)) <;> replace hb := xnC hb <;> (try first | exact xfC | exact bff hb (by assumption) | exact bff (by assumption) hb)) | (with_reducible refine Both.mk ?_ ?_) | ((with_reducible refine And.intro ?_ ?_); focus exact xoC) | ((with_reducible refine Or.inl ⟨?_, ?_, ?_⟩); (focus rfl); focus exact xaC) | ((with_reducible refine xwB ?_ ?_); focus exact xaC) | ((with_reducible refine xwC ?_ ?_); focus exact xaC) | ((with_reducible refine xwD ?_ ?_); focus exact xaC) | ((with_reducible refine xwE ?_ ?_); focus exact xaC) | (with_reducible intro hc; (try simp only [capsP, and_true] at hc); (try exact xfC)) | ((fail_if_success (with_reducible first | refine xgon ?_ | intro _)); (conv => whnf); (fail_if_success (fail_if_success (with_reducible first | refine xstp ?_ | refine Both.mk ?_ ?_ | refine xgon ?_ | intro _)))))
    refine cH41gF4 (σ := [.whole 0, .whole 1, .whole 2, .whole 3]) (nl := []) (cCount b X c t hB hX) ?_ (hle := by (repeat' first | refine And.intro ?_ ?_ | exact xeC | fail) <;> exact xmO)
    rintro v h' ⟨rfl, rfl⟩ hcaps
    refine rH41gF0 ?_
    repeat' (first | (fail_if_success (with_reducible refine xstp ?_)); first | ((with_reducible refine And.intro (fun (hb : _ = true) => ?_) (fun (hb : _ = false) => ?_)) <;> replace hb := xnC hb <;> (try first | exact xfC | exact bff hb (by assumption) | exact bff (by assumption) hb)) | (with_reducible refine Both.mk ?_ ?_) | ((with_reducible refine And.intro ?_ ?_); focus exact xoC) | ((with_reducible refine Or.inl ⟨?_, ?_, ?_⟩); (focus rfl); focus exact xaC) | ((with_reducible refine xwB ?_ ?_); focus exact xaC) | ((with_reducible refine xwC ?_ ?_); focus exact xaC) | ((with_reducible refine xwD ?_ ?_); focus exact xaC) | ((with_reducible refine xwE ?_ ?_); focus exact xaC) | (with_reducible intro hc; (try simp only [capsP, and_true] at hc); (try exact xfC)) | ((fail_if_success (with_reducible first | refine xgon ?_ | intro _)); (conv => whnf); (fail_if_success (fail_if_success (with_reducible first | refine xstp ?_ | refine Both.mk ?_ ?_ | refine xgon ?_ | intro _)))))
    refine cH41gF4 (σ := [.whole 4, .whole 5, .whole 6]) (nl := []) (cCountRef b Y d t hB hY) ?_ (hle := by (repeat' first | refine And.intro ?_ ?_ | exact xeC | fail) <;> exact xmO)
    rintro v h' ⟨rfl, rfl⟩ hcaps
    refine rH41gF0 ?_
    repeat' (first | (fail_if_success (with_reducible refine xstp ?_)); first | ((with_reducible refine And.intro (fun (hb : _ = true) => ?_) (fun (hb : _ = false) => ?_)) <;> replace hb := xnC hb <;> (try first | exact xfC | exact bff hb (by assumption) | exact bff (by assumption) hb)) | (with_reducible refine Both.mk ?_ ?_) | ((with_reducible refine And.intro ?_ ?_); focus exact xoC) | ((with_reducible refine Or.inl ⟨?_, ?_, ?_⟩); (focus rfl); focus exact xaC) | ((with_reducible refine xwB ?_ ?_); focus exact xaC) | ((with_reducible refine xwC ?_ ?_); focus exact xaC) | ((with_reducible refine xwD ?_ ?_); focus exact xaC) | ((with_reducible refine xwE ?_ ?_); focus exact xaC) | (with_reducible intro hc; (try simp only [capsP, and_true] at hc); (try exact xfC)) | ((fail_if_success (with_reducible first | refine xgon ?_ | intro _)); (conv => whnf); (fail_if_success (fail_if_success (with_reducible first | refine xstp ?_ | refine Both.mk ?_ ?_ | refine xgon ?_ | intro _)))))
    refine cH41gF4 (σ := [.whole 0, .whole 1, .whole 2, .whole 3]) (nl := []) (cCount b X c [] hB hX) ?_ (hle := by (repeat' first | refine And.intro ?_ ?_ | exact xeC | fail) <;> exact xmO)
    rintro v h' ⟨rfl, rfl⟩ hcaps
    refine rH41gF0 ?_
    repeat' (first | (fail_if_success (with_reducible refine xstp ?_)); first | ((with_reducible refine And.intro (fun (hb : _ = true) => ?_) (fun (hb : _ = false) => ?_)) <;> replace hb := xnC hb <;> (try first | exact xfC | exact bff hb (by assumption) | exact bff (by assumption) hb)) | (with_reducible refine Both.mk ?_ ?_) | ((with_reducible refine And.intro ?_ ?_); focus exact xoC) | ((with_reducible refine Or.inl ⟨?_, ?_, ?_⟩); (focus rfl); focus exact xaC) | ((with_reducible refine xwB ?_ ?_); focus exact xaC) | ((with_reducible refine xwC ?_ ?_); focus exact xaC) | ((with_reducible refine xwD ?_ ?_); focus exact xaC) | ((with_reducible refine xwE ?_ ?_); focus exact xaC) | (with_reducible intro hc; (try simp only [capsP, and_true] at hc); (try exact xfC)) | ((fail_if_success (with_reducible first | refine xgon ?_ | intro _)); (conv => whnf); (fail_if_success (fail_if_success (with_reducible first | refine xstp ?_ | refine Both.mk ?_ ?_ | refine xgon ?_ | intro _)))))
    refine cH41gF4 (σ := [.whole 4, .whole 5, .whole 6]) (nl := []) (cCountRef b Y d [] hB hY) ?_ (hle := by (repeat' first | refine And.intro ?_ ?_ | exact xeC | fail) <;> exact xmO)
    rintro v h' ⟨rfl, rfl⟩ hcaps
    refine rH41gF0 ?_
    repeat' (first | (fail_if_success (with_reducible refine xstp ?_)); first | ((with_reducible refine And.intro (fun (hb : _ = true) => ?_) (fun (hb : _ = false) => ?_)) <;> replace hb := xnC hb <;> (try first | exact xfC | exact bff hb (by assumption) | exact bff (by assumption) hb)) | (with_reducible refine Both.mk ?_ ?_) | ((with_reducible refine And.intro ?_ ?_); focus exact xoC) | ((with_reducible refine Or.inl ⟨?_, ?_, ?_⟩); (focus rfl); focus exact xaC) | ((with_reducible refine xwB ?_ ?_); focus exact xaC) | ((with_reducible refine xwC ?_ ?_); focus exact xaC) | ((with_reducible refine xwD ?_ ?_); focus exact xaC) | ((with_reducible refine xwE ?_ ?_); focus exact xaC) | (with_reducible intro hc; (try simp only [capsP, and_true] at hc); (try exact xfC)) | ((fail_if_success (with_reducible first | refine xgon ?_ | intro _)); (conv => whnf); (fail_if_success (fail_if_success (with_reducible first | refine xstp ?_ | refine Both.mk ?_ ?_ | refine xgon ?_ | intro _)))))
    refine cH41gF4 (σ := [.whole 0, .whole 1, .whole 2, .whole 3]) (nl := []) (cRead b X c t fr un hB hX) ?_ (hle := by (repeat' first | refine And.intro ?_ ?_ | exact xeC | fail) <;> exact xmO)
    rintro v h' ⟨c2, rfl, rfl⟩ hcaps
    refine rH41gF0 ?_
    repeat' (first | (fail_if_success (with_reducible refine xstp ?_)); first | ((with_reducible refine And.intro (fun (hb : _ = true) => ?_) (fun (hb : _ = false) => ?_)) <;> replace hb := xnC hb <;> (try first | exact xfC | exact bff hb (by assumption) | exact bff (by assumption) hb)) | (with_reducible refine Both.mk ?_ ?_) | ((with_reducible refine And.intro ?_ ?_); focus exact xoC) | ((with_reducible refine Or.inl ⟨?_, ?_, ?_⟩); (focus rfl); focus exact xaC) | ((with_reducible refine xwB ?_ ?_); focus exact xaC) | ((with_reducible refine xwC ?_ ?_); focus exact xaC) | ((with_reducible refine xwD ?_ ?_); focus exact xaC) | ((with_reducible refine xwE ?_ ?_); focus exact xaC) | (with_reducible intro hc; (try simp only [capsP, and_true] at hc); (try exact xfC)) | ((fail_if_success (with_reducible first | refine xgon ?_ | intro _)); (conv => whnf); (fail_if_success (fail_if_success (with_reducible first | refine xstp ?_ | refine Both.mk ?_ ?_ | refine xgon ?_ | intro _)))))
    refine cH41gF4 (σ := [.whole 4, .whole 5, .whole 6]) (nl := []) (cReadR b Y d t fr un hB hs hY) ?_ (hle := by (repeat' first | refine And.intro ?_ ?_ | exact xeC | fail) <;> exact xmO)
    rintro v h' ⟨d2, rfl, rfl⟩ hcaps
    refine rH41gF0 ?_
    repeat' (first | (fail_if_success (with_reducible refine xstp ?_)); first | ((with_reducible refine And.intro (fun (hb : _ = true) => ?_) (fun (hb : _ = false) => ?_)) <;> replace hb := xnC hb <;> (try first | exact xfC | exact bff hb (by assumption) | exact bff (by assumption) hb)) | (with_reducible refine Both.mk ?_ ?_) | ((with_reducible refine And.intro ?_ ?_); focus exact xoC) | ((with_reducible refine Or.inl ⟨?_, ?_, ?_⟩); (focus rfl); focus exact xaC) | ((with_reducible refine xwB ?_ ?_); focus exact xaC) | ((with_reducible refine xwC ?_ ?_); focus exact xaC) | ((with_reducible refine xwD ?_ ?_); focus exact xaC) | ((with_reducible refine xwE ?_ ?_); focus exact xaC) | (with_reducible intro hc; (try simp only [capsP, and_true] at hc); (try exact xfC)) | ((fail_if_success (with_reducible first | refine xgon ?_ | intro _)); (conv => whnf); (fail_if_success (fail_if_success (with_reducible first | refine xstp ?_ | refine Both.mk ?_ ?_ | refine xgon ?_ | intro _)))))
    refine cH41gF4 (σ := [.whole 9, .whole 10]) (nl := []) (cSame true true (readB b t fr un).1 (readB b t fr un).1 c2 d2 (readB b t fr un).1.length (by omega) (Nat.le_refl _)) ?_
    rw [decide_eq_true (p := (readB b t fr un).1 = (readB b t fr un).1.take (readB b t fr un).1.length) (by rw [List.take_length])]
    rintro v h' ⟨rfl, rfl⟩ hcaps
    refine rH41gF0 ?_
    repeat' (first | (fail_if_success (with_reducible refine xstp ?_)); first | ((with_reducible refine And.intro (fun (hb : _ = true) => ?_) (fun (hb : _ = false) => ?_)) <;> replace hb := xnC hb <;> (try first | exact xfC | exact bff hb (by assumption) | exact bff (by assumption) hb)) | (with_reducible refine Both.mk ?_ ?_) | ((with_reducible refine And.intro ?_ ?_); focus exact xoC) | ((with_reducible refine Or.inl ⟨?_, ?_, ?_⟩); (focus rfl); focus exact xaC) | ((with_reducible refine xwB ?_ ?_); focus exact xaC) | ((with_reducible refine xwC ?_ ?_); focus exact xaC) | ((with_reducible refine xwD ?_ ?_); focus exact xaC) | ((with_reducible refine xwE ?_ ?_); focus exact xaC) | (with_reducible intro hc; (try simp only [capsP, and_true] at hc); (try exact xfC)) | ((fail_if_success (with_reducible first | refine xgon ?_ | intro _)); (conv => whnf); (fail_if_success (fail_if_success (with_reducible first | refine xstp ?_ | refine Both.mk ?_ ?_ | refine xgon ?_ | intro _)))))
    refine cH41gF4 (σ := [.whole 0, .whole 1, .whole 2, .whole 3]) (nl := []) (cAll b X c hB hX) ?_ (hle := by (repeat' first | refine And.intro ?_ ?_ | exact xeC | fail) <;> exact xmO)
    rintro v h' ⟨c3, rfl, rfl⟩ hcaps
    refine rH41gF0 ?_
    repeat' (first | (fail_if_success (with_reducible refine xstp ?_)); first | ((with_reducible refine And.intro (fun (hb : _ = true) => ?_) (fun (hb : _ = false) => ?_)) <;> replace hb := xnC hb <;> (try first | exact xfC | exact bff hb (by assumption) | exact bff (by assumption) hb)) | (with_reducible refine Both.mk ?_ ?_) | ((with_reducible refine And.intro ?_ ?_); focus exact xoC) | ((with_reducible refine Or.inl ⟨?_, ?_, ?_⟩); (focus rfl); focus exact xaC) | ((with_reducible refine xwB ?_ ?_); focus exact xaC) | ((with_reducible refine xwC ?_ ?_); focus exact xaC) | ((with_reducible refine xwD ?_ ?_); focus exact xaC) | ((with_reducible refine xwE ?_ ?_); focus exact xaC) | (with_reducible intro hc; (try simp only [capsP, and_true] at hc); (try exact xfC)) | ((fail_if_success (with_reducible first | refine xgon ?_ | intro _)); (conv => whnf); (fail_if_success (fail_if_success (with_reducible first | refine xstp ?_ | refine Both.mk ?_ ?_ | refine xgon ?_ | intro _)))))
    refine cH41gF4 (σ := [.whole 4, .whole 5, .whole 6]) (nl := []) (cAllR b Y d hB hs hY) ?_ (hle := by (repeat' first | refine And.intro ?_ ?_ | exact xeC | fail) <;> exact xmO)
    rintro v h' ⟨d3, rfl, rfl⟩ hcaps
    refine rH41gF0 ?_
    repeat' (first | (fail_if_success (with_reducible refine xstp ?_)); first | ((with_reducible refine And.intro (fun (hb : _ = true) => ?_) (fun (hb : _ = false) => ?_)) <;> replace hb := xnC hb <;> (try first | exact xfC | exact bff hb (by assumption) | exact bff (by assumption) hb)) | (with_reducible refine Both.mk ?_ ?_) | ((with_reducible refine And.intro ?_ ?_); focus exact xoC) | ((with_reducible refine Or.inl ⟨?_, ?_, ?_⟩); (focus rfl); focus exact xaC) | ((with_reducible refine xwB ?_ ?_); focus exact xaC) | ((with_reducible refine xwC ?_ ?_); focus exact xaC) | ((with_reducible refine xwD ?_ ?_); focus exact xaC) | ((with_reducible refine xwE ?_ ?_); focus exact xaC) | (with_reducible intro hc; (try simp only [capsP, and_true] at hc); (try exact xfC)) | ((fail_if_success (with_reducible first | refine xgon ?_ | intro _)); (conv => whnf); (fail_if_success (fail_if_success (with_reducible first | refine xstp ?_ | refine Both.mk ?_ ?_ | refine xgon ?_ | intro _)))))
    refine cH41gF4 (σ := [.whole 0, .whole 1, .whole 2, .whole 3]) (nl := []) (cNext b X c fr hB hX) ?_ (hle := by (repeat' first | refine And.intro ?_ ?_ | exact xeC | fail) <;> exact xmO)
    rw [hop]
    rintro v h' ⟨rfl, rfl⟩ hcaps
    refine rH41gF3 ?_
    repeat' (first | (fail_if_success (with_reducible refine xstp ?_)); first | ((with_reducible refine And.intro (fun (hb : _ = true) => ?_) (fun (hb : _ = false) => ?_)) <;> replace hb := xnC hb <;> (try first | exact xfC | exact bff hb (by assumption) | exact bff (by assumption) hb)) | (with_reducible refine Both.mk ?_ ?_) | ((with_reducible refine And.intro ?_ ?_); focus exact xoC) | ((with_reducible refine Or.inl ⟨?_, ?_, ?_⟩); (focus rfl); focus exact xaC) | ((with_reducible refine xwB ?_ ?_); focus exact xaC) | ((with_reducible refine xwC ?_ ?_); focus exact xaC) | ((with_reducible refine xwD ?_ ?_); focus exact xaC) | ((with_reducible refine xwE ?_ ?_); focus exact xaC) | (with_reducible intro hc; (try simp only [capsP, and_true] at hc); (try exact xfC)) | ((fail_if_success (with_reducible first | refine xgon ?_ | intro _)); (conv => whnf); (fail_if_success (fail_if_success (with_reducible first | refine xstp ?_ | refine Both.mk ?_ ?_ | refine xgon ?_ | intro _)))))
    refine cH41gF4 (σ := [.whole 4, .whole 5, .whole 6]) (nl := []) (cNextR b Y d fr hB hs hY) ?_ (hle := by (repeat' first | refine And.intro ?_ ?_ | exact xeC | fail) <;> exact xmO)
    rw [hop]
    rintro v h' ⟨rfl, rfl⟩ hcaps
    refine rH41gF3 ?_
    repeat' (first | (fail_if_success (with_reducible refine xstp ?_)); first | ((with_reducible refine And.intro (fun (hb : _ = true) => ?_) (fun (hb : _ = false) => ?_)) <;> replace hb := xnC hb <;> (try first | exact xfC | exact bff hb (by assumption) | exact bff (by assumption) hb)) | (with_reducible refine Both.mk ?_ ?_) | ((with_reducible refine And.intro ?_ ?_); focus exact xoC) | ((with_reducible refine Or.inl ⟨?_, ?_, ?_⟩); (focus rfl); focus exact xaC) | ((with_reducible refine xwB ?_ ?_); focus exact xaC) | ((with_reducible refine xwC ?_ ?_); focus exact xaC) | ((with_reducible refine xwD ?_ ?_); focus exact xaC) | ((with_reducible refine xwE ?_ ?_); focus exact xaC) | (with_reducible intro hc; (try simp only [capsP, and_true] at hc); (try exact xfC)) | ((fail_if_success (with_reducible first | refine xgon ?_ | intro _)); (conv => whnf); (fail_if_success (fail_if_success (with_reducible first | refine xstp ?_ | refine Both.mk ?_ ?_ | refine xgon ?_ | intro _)))))
    refine cH41gF4 (σ := [.whole 11, .whole 12]) (nl := []) (cSame true true (readB b [] 0 1099511627777).1 (readB b [] 0 1099511627777).1 c3 d3 (readB b [] 0 1099511627777).1.length (by omega) (Nat.le_refl _)) ?_
    rw [decide_eq_true (p := (readB b [] 0 1099511627777).1 = (readB b [] 0 1099511627777).1.take (readB b [] 0 1099511627777).1.length) (by rw [List.take_length])]
    rintro v h' ⟨rfl, rfl⟩ hcaps
    refine rH41gF0 ?_
    repeat' (first | (fail_if_success (with_reducible refine xstp ?_)); first | ((with_reducible refine And.intro (fun (hb : _ = true) => ?_) (fun (hb : _ = false) => ?_)) <;> replace hb := xnC hb <;> (try first | exact xfC | exact bff hb (by assumption) | exact bff (by assumption) hb)) | (with_reducible refine Both.mk ?_ ?_) | ((with_reducible refine And.intro ?_ ?_); focus exact xoC) | ((with_reducible refine Or.inl ⟨?_, ?_, ?_⟩); (focus rfl); focus exact xaC) | ((with_reducible refine xwB ?_ ?_); focus exact xaC) | ((with_reducible refine xwC ?_ ?_); focus exact xaC) | ((with_reducible refine xwD ?_ ?_); focus exact xaC) | ((with_reducible refine xwE ?_ ?_); focus exact xaC) | (with_reducible intro hc; (try simp only [capsP, and_true] at hc); (try exact xfC)) | ((fail_if_success (with_reducible first | refine xgon ?_ | intro _)); (conv => whnf); (fail_if_success (fail_if_success (with_reducible first | refine xstp ?_ | refine Both.mk ?_ ?_ | refine xgon ?_ | intro _)))))
    refine cH41gF4 (σ := []) (nl := []) (cawake) ?_
    rintro v h' ⟨rfl, rfl⟩ hcaps
    refine rH41gF0 ?_
    repeat' (first | (fail_if_success (with_reducible refine xstp ?_)); first | ((with_reducible refine And.intro (fun (hb : _ = true) => ?_) (fun (hb : _ = false) => ?_)) <;> replace hb := xnC hb <;> (try first | exact xfC | exact bff hb (by assumption) | exact bff (by assumption) hb)) | (with_reducible refine Both.mk ?_ ?_) | ((with_reducible refine And.intro ?_ ?_); focus exact xoC) | ((with_reducible refine Or.inl ⟨?_, ?_, ?_⟩); (focus rfl); focus exact xaC) | ((with_reducible refine xwB ?_ ?_); focus exact xaC) | ((with_reducible refine xwC ?_ ?_); focus exact xaC) | ((with_reducible refine xwD ?_ ?_); focus exact xaC) | ((with_reducible refine xwE ?_ ?_); focus exact xaC) | (with_reducible intro hc; (try simp only [capsP, and_true] at hc); (try exact xfC)) | ((fail_if_success (with_reducible first | refine xgon ?_ | intro _)); (conv => whnf); (fail_if_success (fail_if_success (with_reducible first | refine xstp ?_ | refine Both.mk ?_ ?_ | refine xgon ?_ | intro _)))))
    refine FinK.mk ⟨[], _, [], rfl, ?_⟩
    (repeat' first | refine And.intro ?_ ?_ | exact xeC | fail)
    )
end Go.Proofs.Ytkjkbpnhocjenaa
namespace Go.Proofs.Ytkjkbpnhocjenaa
open Go.X Go.RowKit
set_option linter.unusedVariables false
theorem nil_read (β : Nm) (W : World) : Fits β [] W ∧ ∀ f x, (Go.X.get [] f x).owned = false := by
  have h : ∀ f x, Go.X.get [] f x = .no := fun f x => by simp [Go.X.get]
  have hno : ∀ f x, (Go.X.get [] f x).owned = false := fun f x => by rw [h]; rfl
  exact ⟨fits_read (fun f x => by rw [h]; trivial) hno, hno⟩
theorem walk_BagOpens (W : World) (a0 : ByteArray) (s0 : a0.size ≤ 140737488351232) (a1 : ByteArray) (s1 : a1.size ≤ 140737488351232) (a2 : Int) (w2 : (Lit.int .i64 a2).wf = true) (a3 : Int) (w3 : (Lit.int .i64 a3).wf = true) :
    Calls Try.prog 5 #[.string a0, .string a1, .int .i64 a2, .int .i64 a3] W fun e W' => e = .returned (.bool true) ∧ Below W.heap.size W W' := by
  obtain ⟨hf, hno⟩ := nil_read (fun _ _ => (0, 0, .nil)) W
  have := glue (copens a0.data.toList a1.data.toList a2 a3 (by rw [P4.size_len]; omega) (by rw [P4.size_len]; omega)) hf hno
  rw [mkS_of, mkS_of] at this
  simp only [List.map_cons, List.map_nil, T.ren] at this
  exact this
end Go.Proofs.Ytkjkbpnhocjenaa
