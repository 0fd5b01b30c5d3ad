/- Part 5 of the texts that a walk of this program rests on: an abstract machine, its soundness, contracts of functions. No statement of the seat is proved in this file. -/
import Derived.Test.YtenompgpjlbelaaDoorW4
import Derived.WalkKit
import Derived.WalkSpells
import Derived.WalkLawsBesides
import Derived.Handy
import Derived.Lib.Hide
import Derived.Lib.BufferRead
import Derived.Laws.IdiomStrings
import Derived.Test.YtenompgpjlbelaaDoorRows
import Derived.Deep.RegionWith
import Derived.Shelf.LaysM
import Derived.Shelf.Strconv.Itoa3
import Derived.Lib.LaidTab
import Derived.Stop.LaidErr
import Derived.LaidMore
namespace Go.Proofs.YtenompgpjlbelaaDoor
open Go.X
set_option linter.unusedSimpArgs false
set_option linter.unusedVariables false
open P4
open P5
structure BOk (b : Bg) : Prop where
  len : b.s.length ≤ 100000000
  ix : b.ix ≤ b.s.length
  ord : ordE b.L b.ix
  n : b.L.length ≤ 1000000000
  flat : (flatT b).length ≤ 1300000
  sz : ∀ y ∈ b.L, y.T.length ≤ 1000000000 ∧ ∀ t ∈ y.T, t.1.length ≤ 40 ∧ t.2 ≤ 1099511627776
theorem BOk.at {b : Bg} (h : BOk b) {k : Nat} (hk : k < b.L.length) : okE1 b.L b.ix k ∧ (b.L.getD k default).off ≤ endE b k ∧ endE b k ≤ b.s.length ∧ (b.L.getD k default).T.length ≤ 1000000000 ∧ ∀ t ∈ (b.L.getD k default).T, t.1.length ≤ 40 ∧ t.2 ≤ 1099511627776 := by
  have h1 := h.ord.2 k hk
  have h2 := h.sz (b.L.getD k default) (by rw [getD_at hk]; exact List.getElem_mem _)
  have h3 := h.ix
  refine ⟨h1, ?_, ?_, h2.1, h2.2⟩
  · unfold endE
    split
    · rename_i h4
      have := (h.ord.2 (k + 1) h4).1.2.1 (by omega)
      rw [Nat.add_sub_cancel] at this
      omega
    · have := h1.1.2.2
      omega
  · unfold endE
    split
    · rename_i h4
      have := (h.ord.2 (k + 1) h4).1.2.2
      omega
    · exact h3
theorem chE_eq {b : Bg} {k : Nat} {xs : List UInt8} {xe : Nat} {R : List Rc} (hx : chX b k = (xs, xe)) (hR : recL (mkS xs) = R) :
    chE b k = (if xe ≠ 0 then xe else if 0 < R.length ∧ (R.getD 0 default).at_ = (b.L.getD k default).fi ∧ (R.getD (R.length - 1) default).at_ = (b.L.getD k default).la ∧ tal R = (b.L.getD k default).T then 0 else 2) ∧ chL b k = if chE b k = 0 then R else [] := by
  have h1 : chR1 b k = R := by unfold chR1; rw [hx]; exact hR
  have h2 : chOk b k ↔ (0 < R.length ∧ (R.getD 0 default).at_ = (b.L.getD k default).fi ∧ (R.getD (R.length - 1) default).at_ = (b.L.getD k default).la ∧ tal R = (b.L.getD k default).T) := by unfold chOk; rw [h1]
  refine ⟨?_, ?_⟩
  · unfold chE
    rw [hx]
    simp only
    by_cases h3 : xe ≠ 0
    · rw [if_pos h3, if_pos h3]
    · rw [if_neg h3, if_neg h3]
      by_cases h4 : chOk b k
      · rw [if_pos h4, if_pos (h2.1 h4)]
      · rw [if_neg h4, if_neg (fun q => h4 (h2.2 q))]
  · unfold chL
    rw [h1]
theorem recF_len {s : ByteArray} : ∀ (n a : Nat) (la : Int) (L : List Rc), a ≤ s.size → recF s n a la = some L → L.length ≤ s.size - a
  | 0, a, la, L, _, h => by simp [recF] at h
  | n + 1, a, la, L, ha, h => by
    unfold recF at h
    split at h
    · cases h; simp
    · split at h
      · rename_i ho
        have h1 := rdPl_pos ho.1
        have h2 := rdPl_mono (e := 0) ha
        cases hq : recF s n (rdPl s a 0).2.1 ((rdAt s a 0).1 : Nat) with
        | none => rw [hq] at h; cases h
        | some M =>
          rw [hq] at h
          cases h
          have := recF_len n _ _ M h2.2.1 hq
          simp only [List.length_cons]
          omega
      · cases h
theorem recL_len (s : ByteArray) : (recL s).length ≤ s.size := by
  unfold recL
  split
  · cases hq : recP s (rdU s 0 0).2.1 0 with
    | none => simp
    | some L =>
      have h1 := rdU_le (s := s) (a := 0) (e := 0) (Nat.zero_le _)
      have := recF_len _ _ _ L h1.1 hq
      simp only [Option.getD_some]
      omega
  · simp
theorem mpR_set {M : List Me} {b : Nat} (hb : b < M.length) {t : List UInt8} {n : Nat} {z : Int} (hz : z = (n : Nat)) (j : Nat) (_ : j < (M.set b ((M.getD b default).1, t, n)).length) :
    (if j = b then ((M.getD b default).1, Key.s (mkS t), E.c (.i .i64 z)) else ((M.getD j default).1, Key.s (mkS (M.getD j default).2.1), E.c (.i .i64 ((M.getD j default).2.2 : Nat)))) =
      (((M.set b ((M.getD b default).1, t, n)).getD j default).1, Key.s (mkS ((M.set b ((M.getD b default).1, t, n)).getD j default).2.1), E.c (.i .i64 (((M.set b ((M.getD b default).1, t, n)).getD j default).2.2 : Nat))) := by
  subst hz
  rw [getD_set _ _ _ _ hb]
  by_cases e : j = b
  · subst e; rw [if_pos rfl, if_pos rfl]
  · rw [if_neg e, if_neg e]
theorem mpR_new {M : List Me} {ck : Nat} {t : List UInt8} {n : Nat} (j : Nat) (hj : j < (M ++ [(ck, t, n)]).length) :
    (if j = M.length then (ck, Key.s (mkS t), E.c (.i .i64 (n : Nat))) else ((M.getD j default).1, Key.s (mkS (M.getD j default).2.1), E.c (.i .i64 ((M.getD j default).2.2 : Nat)))) =
      (((M ++ [(ck, t, n)]).getD j default).1, Key.s (mkS ((M ++ [(ck, t, n)]).getD j default).2.1), E.c (.i .i64 (((M ++ [(ck, t, n)]).getD j default).2.2 : Nat))) := by
  rw [getD_sn hj]
  by_cases e : j = M.length
  · subst e; rw [if_pos rfl, if_pos rfl]
  · rw [if_neg e, if_neg e]
theorem sk_s (x y : ByteArray) : (Key.s x).sk (Key.s y) = true := rfl
theorem mpR_cut {M : List Me} {a : Nat} (ha : a < M.length) {x : Nat × Key × E} (j : Nat) :
    (if j < a then (if j = a then x else ((M.getD j default).1, Key.s (mkS (M.getD j default).2.1), E.c (.i .i64 ((M.getD j default).2.2 : Nat)))) else (if j + 1 = a then x else ((M.getD (j + 1) default).1, Key.s (mkS (M.getD (j + 1) default).2.1), E.c (.i .i64 ((M.getD (j + 1) default).2.2 : Nat))))) =
      (((M.take a ++ M.drop (a + 1)).getD j default).1, Key.s (mkS ((M.take a ++ M.drop (a + 1)).getD j default).2.1), E.c (.i .i64 (((M.take a ++ M.drop (a + 1)).getD j default).2.2 : Nat))) := by
  rw [getD_cut M ha]
  by_cases h : j < a
  · rw [if_pos h, if_pos h, if_neg (by omega)]
  · rw [if_neg h, if_neg h, if_neg (by omega)]
theorem rH42ybN0 {σ : List Sg} {H h' : List Fam} {v : T} {K : T → List Fam → Prop} {H' : List Fam} {v' : T} {N : Nat} (hk : K v' H') (hN : H.length = N := by (try simp only [↓List.length_cons, ↓List.length_nil, Nat.reduceAdd]) <;> rfl) (h : givesF σ N H σ h' = some H' := by (try simp (maxSteps := 1000000) only [givesF, setF, updF, Fam.zeroth, Fam.rk, Ck.rk, C.rk, E.rk, T.rk, key, List.map_cons, List.map_nil, List.cons_append, List.nil_append, List.length_cons, List.length_nil, Option.map_some, Option.bind_some, Nat.reduceAdd, Nat.zero_add, Nat.add_zero, Nat.add_sub_cancel_left, Int.toNat_natCast, reps, List.all_cons, List.all_nil, C.flat, List.append_eq, Bool.not_true, Bool.and_true, Bool.or_false, Bool.or_self, Bool.not_false, List.append_nil, Bool.and_self, ↓tpG_rk, ↓cnG_rk]) <;> rfl) (hv : v.rk σ N = v' := by (try simp only [givesF, setF, updF, Fam.zeroth, Fam.rk, Ck.rk, C.rk, E.rk, T.rk, key, List.map_cons, List.map_nil, List.cons_append, List.nil_append, List.length_cons, List.length_nil, Option.map_some, Option.bind_some, Nat.reduceAdd, Nat.zero_add, Nat.add_zero, Nat.add_sub_cancel_left, Int.toNat_natCast, reps, List.all_cons, List.all_nil, C.flat, List.append_eq, Bool.not_true, Bool.and_true, Bool.or_false, Bool.or_self, Bool.not_false, List.append_nil, Bool.and_self, ↓tpG_rk, ↓cnG_rk]) <;> rfl) : RetG σ H h' v K := ret_mk3 hN h hv hk
theorem cH42ybN1 {P : Program} {F : Nat} {args : List T} {H : List Fam} {K : T → List Fam → Prop} {σ : List Sg} {nl : List Fam} {args0 : List T} {h0 : List Fam} {Q : T → List Fam → Prop} {H2 H1 : List Fam} {N n : Nat} (hc : Ctr P F args0 h0 Q) (hk : ∀ v h', Q v h' → capsP h' → RetG σ H2 h' v K) (hap : apart σ = true := by rfl) (hnl : nl.all nilB = true := by rfl) (h1 : H ++ nl = H1 := by first | exact List.append_nil _ | ((try simp only [List.cons_append, List.nil_append]) <;> rfl)) (hN : H1.length = N := by (try simp only [↓List.length_cons, ↓List.length_nil, Nat.reduceAdd]) <;> rfl) (hn : H.length = n := by (try simp only [↓List.length_cons, ↓List.length_nil, Nat.reduceAdd]) <;> rfl) (hH : givesF σ N H1 σ h0 = some H2 := by (try simp (maxSteps := 1000000) only [givesF, setF, updF, Fam.zeroth, Fam.rk, Ck.rk, C.rk, E.rk, T.rk, key, List.map_cons, List.map_nil, List.cons_append, List.nil_append, List.length_cons, List.length_nil, Option.map_some, Option.bind_some, Nat.reduceAdd, Nat.zero_add, Nat.add_zero, Nat.add_sub_cancel_left, Int.toNat_natCast, reps, List.all_cons, List.all_nil, C.flat, List.append_eq, Bool.not_true, Bool.and_true, Bool.or_false, Bool.or_self, Bool.not_false, List.append_nil, Bool.and_self, ↓tpG_rk, ↓cnG_rk]) <;> rfl) (hle : leS n H1 σ N σ h0 (belsK N (h0.map (Fam.rk σ N)) (argsK n args (args0.map (T.rk σ N)) True)) := by repeat' first | refine And.intro ?_ ?_ | exact xeC | fail) : CallK P F args H K := CallK.mk3 hc hap hnl h1 hN hn hH hle hk
set_option maxRecDepth 10000 in
set_option maxHeartbeats 16000000 in
theorem cchunk (b : Bg) (X : List Ep) (c k : Nat) (hb : BOk b) (hX : es X = b.L) (hk : k < X.length) :
    Ctr Tryd.prog 72 [.c (.p 0 0 0), .c (.i .i64 (k : Nat))] (bagH b X c)
      fun v h => ∃ c', v = .t [.c (.sl 4 0 3 0 (chL b k).length c'), .c (.i .i64 (chE b k : Nat))] ∧ h = bagH b X c ++ [.one (rcR true (chL b k) c')] := by
  have hLl : b.L.length = X.length := by rw [← hX]; exact List.length_map _
  have hbk := hb.at (k := k) (by omega)
  have hgk : ∀ i, b.L.getD i default = (X.getD i default).e := fun i => by rw [← hX, getEs]
  rw [hgk] at hbk
  have hn := hb.n
  have hlen := hb.len
  have hz : (mkS b.s).size = b.s.length := rfl
  have e2 : 0 + ((k : Nat) : Int).toNat = k := by omega
  have e3 : 0 + (((k : Nat) : Int) + 1).toNat = k + 1 := by omega
  have hend : endE b k = if k + 1 < X.length then (X.getD (k + 1) default).e.off else b.ix := by unfold endE; rw [hLl, hgk]
  have hoff : (X.getD k default).e.off ≤ b.s.length := by omega
  refine Ctr.mk' tbv mixed Tryd.func72 rfl rfl rfl (fun _ _ => by kernel_rfl) (by kernel_rfl) (by rfl) (by rfl) (by (repeat' first | refine And.intro ?_ ?_ | exact xeC | fail) <;> exact xmC2) ?_
  generalize hxx : chX b k = x
  obtain ⟨xs, xe⟩ := x
  generalize hR : recL (mkS xs) = R
  obtain ⟨hE1, hL1⟩ := chE_eq hxx hR
  rw [hgk] at hE1
  have hxx2 : exaL ((b.s.take (endE b k)).drop (X.getD k default).e.off) = (xs, xe) := by rw [← hgk]; exact hxx
  have hxl := exaL_len ((b.s.take (endE b k)).drop (X.getD k default).e.off)
  rw [hxx2, List.length_drop, List.length_take] at hxl
  simp only at hxl
  have hof2 : k + 1 < X.length → (X.getD (0 + ((k : Nat) : Int).toNat) default).e.off ≤ (X.getD (0 + (((k : Nat) : Int) + 1).toNat) default).e.off ∧ (X.getD (0 + (((k : Nat) : Int) + 1).toNat) default).e.off ≤ b.s.length := fun h => by
    rw [e2, e3]; rw [if_pos h] at hend; omega
  have hof3 : ¬ k + 1 < X.length → (X.getD (0 + ((k : Nat) : Int).toNat) default).e.off ≤ b.ix ∧ b.ix ≤ b.s.length := fun h => by
    rw [e2]; rw [if_neg h] at hend; omega
  have hext : ∀ a d, (mkS b.s).extract a d = mkS ((b.s.take d).drop a) := fun a d => mkS_ext _ _ _
  have hXl := ixG_at (ck := tpC) hk
  have g1 : ixG tpC X k = stR true ((X.getD k default).e.T.map Prod.fst) (X.getD k default).c1 := ixG_at hk
  have g2 : ixG cnC X k = ntR true ((X.getD k default).e.T.map Prod.snd) (X.getD k default).c2 := ixG_at hk
  have hB : ((b.s.take (endE b k)).drop (X.getD k default).e.off).length ≤ 100000000 := by rw [List.length_drop, List.length_take]; omega
  have hTk := hbk.2.2.2.1
  have hTs := okTs_srt (by have := hbk.1.2.2; rw [hgk] at this; exact this)
  have hTc := hbk.2.2.2.2
  repeat' (first | (fail_if_success (with_reducible refine xstp ?_)); first | ((with_reducible refine And.intro (fun (hb : _ = true) => ?_) (fun (hb : _ = false) => ?_)) <;> replace hb := xnC hb <;> (try first | exact xfC | exact bff hb (by assumption) | exact bff (by assumption) hb)) | ((with_reducible refine And.intro ?_ ?_); focus exact xoC) | ((with_reducible refine OvK.fit ?_ ?_); focus exact xoC) | (with_reducible intro hc; (try simp only [capsP, and_true] at hc); (try exact xfC)) | ((fail_if_success (with_reducible first | refine xgon ?_ | intro _)); (conv => whnf); (fail_if_success (fail_if_success (with_reducible first | refine xstp ?_ | refine xgon ?_ | intro _)))))
  all_goals (
    first
      | (rw [e2, e3, Int.toNat_natCast, Int.toNat_natCast, hext, ← (show endE b k = (X.getD (k + 1) default).e.off by rw [hend, if_pos (by omega)])]; done)
      | (rw [e2, Int.toNat_natCast, Int.toNat_natCast, hext, ← (show endE b k = b.ix by rw [hend, if_neg (by omega)])]; done)
      | rw [e2, e3, Int.toNat_natCast, Int.toNat_natCast, hext, ← (show endE b k = (X.getD (k + 1) default).e.off by rw [hend, if_pos (by omega)])]
      | rw [e2, Int.toNat_natCast, Int.toNat_natCast, hext, ← (show endE b k = b.ix by rw [hend, if_neg (by omega)])]
    refine cH42ybN1 (σ := []) (nl := []) (cexa ((b.s.take (endE b k)).drop (X.getD k default).e.off) hB) ?_ (hle := by (repeat' first | refine And.intro ?_ ?_ | exact xeC | fail) <;> exact xmC2)
    rintro v h' ⟨rfl, rfl⟩ hcaps
    rw [hxx2]
    refine rH42ybN0 ?_
    repeat' (first | (fail_if_success (with_reducible refine xstp ?_)); first | ((with_reducible refine And.intro (fun (hb : _ = true) => ?_) (fun (hb : _ = false) => ?_)) <;> replace hb := xnC hb <;> (try first | exact xfC | exact bff hb (by assumption) | exact bff (by assumption) hb)) | ((fail_if_success (with_reducible first | refine xgon ?_ | intro _)); (conv => whnf); (fail_if_success (fail_if_success (with_reducible first | refine xstp ?_ | refine xgon ?_ | intro _)))))
    · rw [if_pos (by omega)] at hE1
      have hL : chL b k = [] := by rw [hL1, if_neg (by omega)]
      rw [hL, hE1]
      refine FinK.mk ⟨[0, 1, 2, 3, 99], _, _, ⟨0, rfl, rfl⟩, ?_⟩
      (repeat' first | refine And.intro ?_ ?_ | exact xeC | fail)
      all_goals first
        | exact xmC2
        | skip
    rw [if_neg (by omega)] at hE1
    refine cH42ybN1 (σ := []) (nl := []) (crecs (mkS xs) (by show xs.length ≤ _; omega)) ?_ (hle := by (repeat' first | refine And.intro ?_ ?_ | exact xeC | fail) <;> exact xmC2)
    rintro v h' ⟨c3, rfl, rfl⟩ hcaps
    rw [hR]
    refine rH42ybN0 ?_
    have hRl : R.length ≤ 100000000 := by rw [← hR]; have := recL_len (mkS xs); have : (mkS xs).size = xs.length := rfl; omega
    have e4 : 0 < R.length → 0 + ((R.length : Int) - 1).toNat = R.length - 1 := fun h => by omega
    repeat' (first | (fail_if_success (with_reducible refine xstp ?_)); first | ((with_reducible refine And.intro (fun (hb : _ = true) => ?_) (fun (hb : _ = false) => ?_)) <;> replace hb := xnC hb <;> (try first | exact xfC | exact bff hb (by assumption) | exact bff (by assumption) hb)) | ((with_reducible refine And.intro ?_ ?_); focus exact xoC) | ((with_reducible refine OvK.fit ?_ ?_); focus exact xoC) | ((fail_if_success (with_reducible first | refine xgon ?_ | intro _)); (conv => whnf); (fail_if_success (fail_if_success (with_reducible first | refine xstp ?_ | refine xgon ?_ | intro _)))))
    · skip
      have hE : chE b k = 2 := by rw [hE1, if_neg (fun q => hb q.1)]
      have hL : chL b k = [] := by rw [hL1, if_neg (by rw [hE]; decide)]
      rw [hE, hL]
      refine FinK.mk ⟨[0, 1, 2, 3, 99], _, _, ⟨0, rfl, rfl⟩, ?_⟩
      (repeat' first | refine And.intro ?_ ?_ | exact xeC | fail)
      all_goals first
        | exact xmC2
        | skip
    · skip
      have hE : chE b k = 2 := by rw [hE1, if_neg (fun q => hb q.2.1)]
      have hL : chL b k = [] := by rw [hL1, if_neg (by rw [hE]; decide)]
      rw [hE, hL]
      refine FinK.mk ⟨[0, 1, 2, 3, 99], _, _, ⟨0, rfl, rfl⟩, ?_⟩
      (repeat' first | refine And.intro ?_ ?_ | exact xeC | fail)
      all_goals first
        | exact xmC2
        | skip
    · skip
      have hE : chE b k = 2 := by rw [hE1, if_neg (fun q => hb (by rw [show ((R.length : Int) - 1).toNat = R.length - 1 by omega]; exact q.2.2.1))]
      have hL : chL b k = [] := by rw [hL1, if_neg (by rw [hE]; decide)]
      rw [hE, hL]
      refine FinK.mk ⟨[0, 1, 2, 3, 99], _, _, ⟨0, rfl, rfl⟩, ?_⟩
      (repeat' first | refine And.intro ?_ ?_ | exact xeC | fail)
      all_goals first
        | exact xmC2
        | skip
    have hel : (R.getD (R.length - 1) default).at_ = (X.getD k default).e.la := by rw [show ((R.length : Int) - 1).toNat = R.length - 1 by omega] at hb; exact hb
    rename_i hfi
    have hE2 : chE b k = if tal R = (X.getD k default).e.T then 0 else 2 := by
      rw [hE1]
      by_cases hq : tal R = (X.getD k default).e.T
      · rw [if_pos ⟨by assumption, hfi, hel, hq⟩, if_pos hq]
      · rw [if_neg (fun q => hq q.2.2.2), if_neg hq]
    clear hE1
    refine LoopK.mk' {j : Nat // j ≤ (X.getD k default).e.T.length}
      (fun ⟨j, _⟩ => ⟨[(6, .c (.p 4 0 0)), (10, .c (.sl 5 0 3 0 R.length c3)), (12, .c (.mp 6 0)), (92, .c (.sl 2 k 1 0 (X.getD k default).e.T.length (X.getD k default).c1)), (93, .c (.i .i64 ((X.getD k default).e.T.length : Nat))), (94, .c (.i .i64 (j : Nat)))],
        [.one (bgC b 1 X.length c), .one (epR 2 3 X c), .many (tpG X), .many (cnG X), .one (.cells true (encEp 2 3 X k)), .one (rcR true R c3), .one (mpR j (mpU (X.getD k default).e.T j))]⟩) (fun j => (X.getD k default).e.T.length - j.1)
      ⟨⟨0, Nat.zero_le _⟩, [0, 1, 2, 3, 4, 5, 6], ?_⟩ ?_
    · (repeat' first | refine And.intro ?_ ?_ | exact xeC | fail)
      all_goals first
        | exact xmC2
        | (intro i hi; exact absurd hi (Nat.not_lt_zero i))
        | skip
    rintro ⟨j, hj⟩
    have hm1 : ((X.getD k default).e.T.map Prod.fst).length = (X.getD k default).e.T.length := List.length_map _
    have hm2 : ((X.getD k default).e.T.map Prod.snd).length = (X.getD k default).e.T.length := List.length_map _
    have e5 : 0 + ((j : Nat) : Int).toNat = j := by omega
    have hml := mpU_len (X.getD k default).e.T j
    have hmx : ∀ i, i < j → (mpU (X.getD k default).e.T j).getD i default = (i, ((X.getD k default).e.T.getD i default).1, ((X.getD k default).e.T.getD i default).2) := fun i hi => mpU_at hi
    rcases Nat.lt_or_ge j (X.getD k default).e.T.length with hjl | hjg
    · skip
      repeat' (first | (fail_if_success (with_reducible refine xstp ?_)); first | ((with_reducible refine And.intro (fun (hb : _ = true) => ?_) (fun (hb : _ = false) => ?_)) <;> replace hb := xnC hb <;> (try first | exact xfC | exact bff hb (by assumption) | exact bff (by assumption) hb)) | (with_reducible intro hc; (try simp only [capsP, and_true] at hc); (try exact xfC)) | ((fail_if_success (with_reducible first | refine xgon ?_ | intro _)); (conv => whnf); (fail_if_success (fail_if_success (with_reducible first | refine xstp ?_ | refine xgon ?_ | intro _)))))
      all_goals try (first | refine ManyK.mk ⟨_, g1, ?_⟩ | refine ManyK.mk ⟨_, g2, ?_⟩)
      all_goals (
        repeat' (first | (fail_if_success (with_reducible refine xstp ?_)); first | ((with_reducible refine And.intro ?_ ?_); focus exact xoC) | ((fail_if_success (with_reducible first | refine xgon ?_ | intro _)); (conv => whnf); (fail_if_success (fail_if_success (with_reducible first | refine xstp ?_ | refine xgon ?_ | intro _)))))
        )
      all_goals try (first | refine ManyK.mk ⟨_, g1, ?_⟩ | refine ManyK.mk ⟨_, g2, ?_⟩)
      all_goals (
        repeat' (first | (fail_if_success (with_reducible refine xstp ?_)); first | ((with_reducible refine And.intro ?_ ?_); focus exact xoC) | ((fail_if_success (with_reducible first | refine xgon ?_ | intro _)); (conv => whnf); (fail_if_success (fail_if_success (with_reducible first | refine xstp ?_ | refine xgon ?_ | intro _)))))
        )
      all_goals try (first | refine ManyK.mk ⟨_, g1, ?_⟩ | refine ManyK.mk ⟨_, g2, ?_⟩)
      all_goals (
        repeat' (first | (fail_if_success (with_reducible refine xstp ?_)); first | ((with_reducible refine And.intro ?_ ?_); focus exact xoC) | ((fail_if_success (with_reducible first | refine xgon ?_ | intro _)); (conv => whnf); (fail_if_success (fail_if_success (with_reducible first | refine xstp ?_ | refine xgon ?_ | intro _)))))
        )
      all_goals try (first | refine ManyK.mk ⟨_, g1, ?_⟩ | refine ManyK.mk ⟨_, g2, ?_⟩)
      all_goals (
        repeat' (first | (fail_if_success (with_reducible refine xstp ?_)); first | (with_reducible refine Both.mk ?_ ?_) | ((with_reducible refine And.intro ?_ ?_); focus exact xoC) | ((with_reducible refine OvK.fit ?_ ?_); focus exact xoC) | (with_reducible intro hc; (try simp only [capsP, and_true] at hc); (try exact xfC)) | ((fail_if_success (with_reducible first | refine xgon ?_ | intro _)); (conv => whnf); (fail_if_success (fail_if_success (with_reducible first | refine xstp ?_ | refine Both.mk ?_ ?_ | refine xgon ?_ | intro _)))))
        )
      all_goals rw [e5, getFst] at hc
      · rename_i a ha
        exfalso
        rw [hml] at ha
        rw [hmx a ha] at hc
        have h1 := mpU_ne hTs.1 (k := j + 1) hjl a j ha (by rw [mpU_len]; omega)
        rw [mpU_at (by omega), mpU_at (by omega)] at h1
        exact h1 (mkS_inj.1 (Key.s.inj hc))
      · rw [e5, getFst, getSnd]
        refine ⟨⟨j + 1, hjl⟩, [0, 1, 2, 3, 4, 5, 6], by simp only; omega, ?_⟩
        simp only [mpU_succ]
        (repeat' first | refine And.intro ?_ ?_ | exact xeC | fail)
        all_goals first
          | exact xmC2
          | exact mpR_new
          | (simp; done)
          | skip
    · obtain rfl : j = (X.getD k default).e.T.length := by omega
      repeat' (first | (fail_if_success (with_reducible refine xstp ?_)); first | ((with_reducible refine And.intro (fun (hb : _ = true) => ?_) (fun (hb : _ = false) => ?_)) <;> replace hb := xnC hb <;> (try first | exact xfC | exact bff hb (by assumption) | exact bff (by assumption) hb)) | (with_reducible intro hc; (try simp only [capsP, and_true] at hc); (try exact xfC)) | ((fail_if_success (with_reducible first | refine xgon ?_ | intro _)); (conv => whnf); (fail_if_success (fail_if_success (with_reducible first | refine xstp ?_ | refine xgon ?_ | intro _)))))
      have hD0 := DOk.init hTs.1 hTs.2
      refine LoopK.mk' {p : Nat × Nat × List Me // p.1 ≤ R.length ∧ DOk p.2.2 (X.getD k default).e.T (R.take p.1) ∧ ∀ a, a < p.2.2.length → (p.2.2.getD a default).2.2 ≤ 1099511627776}
        (fun ⟨(i, ck, M), _⟩ => ⟨[(10, .c (.sl 4 0 3 0 R.length c3)), (12, .c (.mp 5 0)), (107, .c (.sl 4 0 3 0 R.length c3)), (108, .c (.i .i64 (R.length : Nat))), (109, .c (.i .i64 (i : Nat)))],
          [.one (bgC b 1 X.length c), .one (epR 2 3 X c), .many (tpG X), .many (cnG X), .one (rcR true R c3), .one (mpR ck M)]⟩) (fun p => R.length - p.1.1)
        ⟨⟨(0, (X.getD k default).e.T.length, mpU (X.getD k default).e.T (X.getD k default).e.T.length), Nat.zero_le _, hD0, fun a ha => ?_⟩, [0, 1, 2, 3, 5, 6], ?_⟩ ?_
      · have ha : a < (X.getD k default).e.T.length := by rw [← hml]; exact ha
        show ((mpU _ _).getD a default).2.2 ≤ _
        rw [hmx a ha]
        exact (hTc _ (by rw [getD_at ha]; exact List.getElem_mem _)).2
      · (repeat' first | refine And.intro ?_ ?_ | exact xeC | fail)
        all_goals first
          | exact xmC2
          | skip
      rintro ⟨⟨i, ck, M⟩, hi, hD, hMb⟩
      simp only at hi hD hMb
      have e6 : 0 + ((i : Nat) : Int).toNat = i := by omega
      rcases Nat.lt_or_ge i R.length with hil | hig
      · have hts := take_snocG R hil
        repeat' (first | (fail_if_success (with_reducible refine xstp ?_)); first | ((with_reducible refine And.intro (fun (hb : _ = true) => ?_) (fun (hb : _ = false) => ?_)) <;> replace hb := xnC hb <;> (try first | exact xfC | exact bff hb (by assumption) | exact bff (by assumption) hb)) | (with_reducible refine Both.mk ?_ ?_) | ((with_reducible refine And.intro ?_ ?_); focus exact xoC) | (with_reducible intro hc; (try simp only [capsP, and_true] at hc); (try exact xfC)) | ((fail_if_success (with_reducible first | refine xgon ?_ | intro _)); (conv => whnf); (fail_if_success (fail_if_success (with_reducible first | refine xstp ?_ | refine Both.mk ?_ ?_ | refine xgon ?_ | intro _)))))
        · rename_i a ha
          rw [e6] at hc
          have hka := mkS_inj.1 (Key.s.inj hc)
          have hc0 := hc
          clear hc
          have hva := hD.va a ha
          have hvm := hMb a ha
          have same : ∀ d, d < M.length → Key.s (mkS (M.getD d default).2.1) = Key.s (mkS (R.getD i default).tp) → d = a := fun d hd hq => by
            have hkd := mkS_inj.1 (Key.s.inj hq)
            rcases (by omega : d < a ∨ a < d ∨ d = a) with h | h | h
            · exact absurd (hkd.trans hka.symm) (hD.ne d a h ha)
            · exact absurd (hka.trans hkd.symm) (hD.ne a d h hd)
            · exact h
          repeat' (first | (fail_if_success (with_reducible refine xstp ?_)); first | ((with_reducible refine And.intro (fun (hb : _ = true) => ?_) (fun (hb : _ = false) => ?_)) <;> replace hb := xnC hb <;> (try first | exact xfC | exact bff hb (by assumption) | exact bff (by assumption) hb)) | (with_reducible refine Both.mk ?_ ?_) | ((with_reducible refine And.intro ?_ ?_); focus exact xoC) | ((with_reducible refine OvK.fit ?_ ?_); focus exact xoC) | (with_reducible intro hc; (try simp only [capsP, and_true] at hc); (try exact xfC)) | ((fail_if_success (with_reducible first | refine xgon ?_ | intro _)); (conv => whnf); (fail_if_success (fail_if_success (with_reducible first | refine xstp ?_ | refine Both.mk ?_ ?_ | refine xgon ?_ | intro _)))))
          · rename_i a2 ha2
            rw [e6] at hc
            obtain rfl := same a2 ha2 hc
            clear hc
            have hv1 : (M.getD a2 default).2.2 = 1 := by omega
            rw [e6]
            refine And.intro (fun j hj => ?_) (Both.mk ?_ ?_)
            · show (if j = a2 then _ else _ : Nat × Key × E).2.1.sk _ = true
              split <;> exact sk_s _ _
            · intro d hd hq
              obtain rfl : d = a2 := by
                by_cases h : d = a2
                · exact h
                · refine same d hd ?_
                  have hq2 : (if d = a2 then _ else _ : Nat × Key × E).2.1 = _ := hq
                  rw [if_neg h] at hq2
                  exact hq2
              repeat' (first | (fail_if_success (with_reducible refine xstp ?_)); first | ((with_reducible refine OvK.fit ?_ ?_); focus exact xoC) | ((fail_if_success (with_reducible first | refine xgon ?_ | intro _)); (conv => whnf); (fail_if_success (fail_if_success (with_reducible first | refine xstp ?_ | refine xgon ?_ | intro _)))))
              have hD' := hD.del (r := R.getD i default) ha2 hka hv1
              rw [← hts] at hD'
              have hcl := cut_len M ha2
              refine ⟨⟨(i + 1, ck, M.take d ++ M.drop (d + 1)), hil, hD', fun x hx => ?_⟩, [0, 1, 2, 3, 4, 5], by simp only; omega, ?_⟩
              · have hx : x < (M.take d ++ M.drop (d + 1)).length := hx
                show ((M.take d ++ M.drop (d + 1)).getD x default).2.2 ≤ _
                rw [hcl] at hx
                rw [getD_cut M ha2]
                split
                · exact hMb x (by omega)
                · exact hMb (x + 1) (by omega)
              · (repeat' first | refine And.intro ?_ ?_ | exact xeC | fail)
                all_goals first
                  | exact xmC2
                  | omega
                  | exact fun j _ => mpR_cut ha2 j
                  | skip
            · intro hno
              exfalso
              refine hno a2 ha2 ?_
              show (if a2 = a2 then _ else _ : Nat × Key × E).2.1 = _
              rw [if_pos rfl]
          · rename_i a2 ha2
            rw [e6] at hc
            obtain rfl := same a2 ha2 hc
            clear hc
            have hv2 : 2 ≤ (M.getD a2 default).2.2 := by omega
            have hD' := hD.dec (r := R.getD i default) ha2 hka hv2
            rw [← hts] at hD'
            rw [e6]
            refine ⟨⟨(i + 1, ck, M.set a2 ((M.getD a2 default).1, (R.getD i default).tp, (M.getD a2 default).2.2 - 1)), hil, hD', fun x hx => ?_⟩, [0, 1, 2, 3, 4, 5], by simp only; omega, ?_⟩
            · have hx : x < (M.set a2 ((M.getD a2 default).1, (R.getD i default).tp, (M.getD a2 default).2.2 - 1)).length := hx
              show ((M.set a2 _).getD x default).2.2 ≤ _
              rw [List.length_set] at hx
              rw [getD_set _ _ _ _ ha2]
              split
              · simp only; omega
              · exact hMb x hx
            · (repeat' first | refine And.intro ?_ ?_ | exact xeC | fail)
              all_goals first
                | exact xmC2
                | exact List.length_set.symm
                | exact mpR_set ha2 (by omega)
                | skip
          · exact absurd (by rw [e6]; exact hc0) (hc a ha)
          · exact absurd (by rw [e6]; exact hc0) (hc a ha)
        · rw [e6] at hc
          have hne := hD.no hil (fun a ha q => hc a ha (by rw [q]))
          have hE : chE b k = 2 := by rw [hE2, if_neg hne]
          have hL : chL b k = [] := by rw [hL1, if_neg (by rw [hE]; decide)]
          rw [hE, hL]
          refine FinK.mk ⟨[0, 1, 2, 3, 99], _, _, ⟨0, rfl, rfl⟩, ?_⟩
          (repeat' first | refine And.intro ?_ ?_ | exact xeC | fail)
          all_goals first
            | exact xmC2
            | skip
      · obtain rfl : i = R.length := by omega
        rw [List.take_length] at hD
        have hf := hD.fin hTs.1 hTs.2
        repeat' (first | (fail_if_success (with_reducible refine xstp ?_)); first | ((with_reducible refine And.intro (fun (hb : _ = true) => ?_) (fun (hb : _ = false) => ?_)) <;> replace hb := xnC hb <;> (try first | exact xfC | exact bff hb (by assumption) | exact bff (by assumption) hb)) | (with_reducible intro hc; (try simp only [capsP, and_true] at hc); (try exact xfC)) | ((fail_if_success (with_reducible first | refine xgon ?_ | intro _)); (conv => whnf); (fail_if_success (fail_if_success (with_reducible first | refine xstp ?_ | refine xgon ?_ | intro _)))))
        · have hE : chE b k = 2 := by rw [hE2, if_neg (fun q => by have := hf.1 q; omega)]
          have hL : chL b k = [] := by rw [hL1, if_neg (by rw [hE]; decide)]
          rw [hE, hL]
          refine FinK.mk ⟨[0, 1, 2, 3, 99], _, _, ⟨0, rfl, rfl⟩, ?_⟩
          (repeat' first | refine And.intro ?_ ?_ | exact xeC | fail)
          all_goals first
            | exact xmC2
            | skip
        · have hE : chE b k = 0 := by rw [hE2, if_pos (hf.2 (by omega))]
          have hL : chL b k = R := by rw [hL1, if_pos hE]
          rw [hE, hL]
          refine FinK.mk ⟨[0, 1, 2, 3, 4], _, _, ⟨c3, rfl, rfl⟩, ?_⟩
          (repeat' first | refine And.intro ?_ ?_ | exact xeC | fail)
          all_goals first
            | exact xmC2
            | skip)
end Go.Proofs.YtenompgpjlbelaaDoor


namespace Go.Proofs.YtenompgpjlbelaaDoor
open Go.X
set_option linter.unusedSimpArgs false
set_option linter.unusedVariables false
open P4
open P5
theorem tlN_adv {s : ByteArray} : ∀ (k a e : Nat), a ≤ s.size → (tlN s k a e).1.length + a ≤ (tlN s k a e).2.1 + (if (tlN s k a e).2.2 = 0 then 0 else 1) ∧ ∀ t ∈ (tlN s k a e).1, t.1.length ≤ 40 ∧ t.2 ≤ 1099511627776
  | 0, a, e, h => by simp [tlN]
  | k + 1, a, e, h => by
    unfold tlN
    split
    · rename_i he
      subst he
      have h1 := rdT_mono (e := 0) (m := 40) h
      have h2 := rdAt_mono (e := (rdT s a 0 40).2.2) h1.2
      have h3 := tlN_adv k _ (rdAt s (rdT s a 0 40).2.1 (rdT s a 0 40).2.2).2.2 h2.2
      refine ⟨?_, ?_⟩
      · simp only [List.length_cons]
        by_cases hp : (rdAt s (rdT s a 0 40).2.1 (rdT s a 0 40).2.2).2.2 = 0
        · have := rdS_pos (m := 1099511627776) hp
          have e1 : (rdS s (rdT s a 0 40).2.1 (rdT s a 0 40).2.2 1099511627776).2.1 = (rdAt s (rdT s a 0 40).2.1 (rdT s a 0 40).2.2).2.1 := rfl
          have := h3.1
          omega
        · rw [tlN_stop (.inr hp)]
          simp only [List.length_nil]
          rw [if_neg hp]
          omega
      · intro t ht
        rcases List.mem_cons.1 ht with rfl | ht
        · exact ⟨rdT_len s a 0 40, by have := rdAt_le s (rdT s a 0 40).2.1 (rdT s a 0 40).2.2; simp only; omega⟩
        · exact h3.2 t ht
    · simp
theorem enN_flat {s : ByteArray} : ∀ (k a e : Nat), a ≤ s.size → ((enN s k a e).1.flatMap En.T).length ≤ 2 * (s.size - a) + 2 ∧ ∀ y ∈ (enN s k a e).1, ∀ t ∈ y.T, t.1.length ≤ 40 ∧ t.2 ≤ 1099511627776
  | 0, a, e, h => by simp [enN]
  | k + 1, a, e, h => by
    unfold enN
    split
    · rename_i he
      subst he
      have hm := sm_mono (e := 0) h
      have ht := tlN_mono (s := s) (sm4 s a 0).1 (sm4 s a 0).2.1 (sm4 s a 0).2.2 hm.2.2.2.1
      have hl := tlN_adv (s := s) (sm4 s a 0).1 (sm4 s a 0).2.1 (sm4 s a 0).2.2 hm.2.2.2.1
      have e1 : enT s a 0 = tlN s (sm4 s a 0).1 (sm4 s a 0).2.1 (sm4 s a 0).2.2 := rfl
      have e2 : (rdEn s a 0).T = (tlN s (sm4 s a 0).1 (sm4 s a 0).2.1 (sm4 s a 0).2.2).1 := rfl
      have h3 := enN_flat k (enT s a 0).2.1 (enT s a 0).2.2 (by rw [e1]; exact ht.2.1)
      refine ⟨?_, ?_⟩
      · simp only [List.flatMap_cons, List.length_append]
        rw [e2]
        by_cases hp : (enT s a 0).2.2 = 0
        · have := sm_pos (ht.2.2 (by rw [← e1]; exact hp))
          rw [e1] at h3 hp ⊢
          have h4 := hl.1
          rw [if_pos hp] at h4
          have := h3.1
          omega
        · rw [enN_stop (.inr hp)]
          rw [e1] at hp
          have h4 := hl.1
          rw [if_neg hp] at h4
          simp only [List.flatMap_nil, List.length_nil]
          omega
      · intro y hy
        rcases List.mem_cons.1 hy with rfl | hy
        · rw [e2]; exact hl.2
        · exact h3.2 y hy
    · simp
theorem ixL_flat (s : ByteArray) : ((ixL s).1.flatMap En.T).length ≤ 2 * s.size + 2 ∧ ∀ y ∈ (ixL s).1, ∀ t ∈ y.T, t.1.length ≤ 40 ∧ t.2 ≤ 1099511627776 := by
  unfold ixL
  split
  · have h1 := rdU_le (s := s) (a := 0) (e := 0) (Nat.zero_le _)
    have h2 := rdAt_mono (e := (rdU s 0 0).2.2) h1.1
    have := enN_flat (s := s) (rdAt s (rdU s 0 0).2.1 (rdU s 0 0).2.2).1 _ (rdAt s (rdU s 0 0).2.1 (rdU s 0 0).2.2).2.2 h2.2
    exact ⟨by simp only; omega, this.2⟩
  · simp
theorem bgE_ok {l : List UInt8} (h : bgE l = 0) : 18 ≤ l.length ∧ l.take 5 = magic ∧ l.drop (l.length - 5) = magic ∧ 5 ≤ bgA l ∧ bgA l ≤ l.length - 13 ∧ (bgX l).2 = 0 ∧ (ixL (mkS (bgX l).1)).2 = true ∧ ordE (ixL (mkS (bgX l).1)).1 (bgA l) := by
  unfold bgE at h
  split at h
  · cases h
  · split at h
    · cases h
    · rename_i h1 h2
      have h2 := Decidable.of_not_not h2
      split at h
      · rename_i h3
        exact absurd h h3
      · rename_i h3
        split at h
        · rename_i h4
          exact ⟨by omega, h2.1, h2.2.1, h2.2.2.1, h2.2.2.2, Decidable.of_not_not h3, h4⟩
        · cases h
theorem BOk.of {l : List UInt8} (h : bgE l = 0) (hl : l.length ≤ 640000) : BOk (bgO l) := by
  obtain ⟨h1, h2, h3, h4, h5, h6, h7, h8⟩ := bgE_ok h
  have hO := bgO_L l
  have hs : (bgO l).s = l := by simp only [bgO]
  have hi : (bgO l).ix = bgA l := by simp only [bgO]
  have hx := ixL_len (mkS (bgX l).1)
  have hf := ixL_flat (mkS (bgX l).1)
  have hbl := exaL_len ((l.take (l.length - 13)).drop (bgA l))
  rw [List.length_drop, List.length_take] at hbl
  have hbx : (bgX l).1.length ≤ 640000 := by unfold bgX; omega
  have hz : (mkS (bgX l).1).size = (bgX l).1.length := mkS_size _
  rw [hz] at hx hf
  refine ⟨by rw [hs]; omega, by rw [hs, hi]; omega, by rw [hO, hi]; exact h8, by rw [hO]; omega, ?_, fun y hy => ?_⟩
  · unfold flatT
    rw [hO]
    omega
  · rw [hO] at hy
    exact ⟨by have := (hx.2 y hy).1; omega, hf.2 y hy⟩
end Go.Proofs.YtenompgpjlbelaaDoor


namespace Go.Proofs.YtenompgpjlbelaaDoor
open Go.X
set_option linter.unusedSimpArgs false
set_option linter.unusedVariables false
open P4
open P5
end Go.Proofs.YtenompgpjlbelaaDoor


namespace Go.Proofs.YtenompgpjlbelaaDoor
open Go.X
set_option linter.unusedSimpArgs false
set_option linter.unusedVariables false
open P4
open P5
set_option maxRecDepth 10000 in
theorem cIndexS (w : Bool) (l : List (List UInt8)) (c : Nat) (t : List UInt8) (hl : l.length ≤ 1000000000) :
    Ctr Tryd.prog 94 [.c (.sl 0 0 1 0 l.length c), .c (.s (mkS t))] [.one (stR w l c)]
      fun v h => (∃ k : Nat, t ∈ l ∧ v = .c (.i .i64 (k : Nat)) ∧ h = [.one (stR w l c)]) ∨ (t ∉ l ∧ v = .c (.i .i64 (-1)) ∧ h = [.one (stR w l c)]) := by
  refine Ctr.mk' tbv mixed Tryd.func94 rfl rfl rfl (fun _ _ => by kernel_rfl) (by kernel_rfl) (by rfl) (by rfl) (by (repeat' first | refine And.intro ?_ ?_ | exact xeC | fail)) ?_
  repeat' (first | (fail_if_success (with_reducible refine xstp ?_)); first | (with_reducible intro hc; (try simp only [capsP, and_true] at hc); (try exact xfC)) | ((fail_if_success (with_reducible first | refine xgon ?_ | intro _)); (conv => whnf); (fail_if_success (fail_if_success (with_reducible first | refine xstp ?_ | refine xgon ?_ | intro _)))))
  refine LoopK.mk' {i : Nat // i ≤ l.length ∧ t ∉ l.take i}
    (fun ⟨i, _⟩ => ⟨[(0, .c (.sl 0 0 1 0 l.length c)), (1, .c (.s (mkS t))), (7, .c (.i .i64 (l.length : Nat))), (8, .c (.i .i64 (i : Nat)))], [.one (stR w l c)]⟩) (fun k => l.length - k.1)
    ⟨⟨0, Nat.zero_le _, by simp⟩, [0], ?_⟩ ?_
  · (repeat' first | refine And.intro ?_ ?_ | exact xeC | fail)
  rintro ⟨i, hi, hq⟩
  have e2 : 0 + ((i : Nat) : Int).toNat = i := by omega
  repeat' (first | (fail_if_success (with_reducible refine xstp ?_)); first | ((with_reducible refine And.intro (fun (hb : _ = true) => ?_) (fun (hb : _ = false) => ?_)) <;> replace hb := xnC hb <;> (try first | exact xfC | exact bff hb (by assumption) | exact bff (by assumption) hb)) | ((with_reducible refine And.intro ?_ ?_); focus exact xoC) | ((with_reducible refine OvK.fit ?_ ?_); focus exact xoC) | (with_reducible intro hc; (try simp only [capsP, and_true] at hc); (try exact xfC)) | ((fail_if_success (with_reducible first | refine xgon ?_ | intro _)); (conv => whnf); (fail_if_success (fail_if_success (with_reducible first | refine xstp ?_ | refine xgon ?_ | intro _)))))
  · have e : t = l.getD i default := mkS_inj.1 hb
    refine FinK.mk ⟨[0], _, _, .inl ⟨i, by rw [e, getD_at (by omega)]; exact List.getElem_mem _, rfl, rfl⟩, ?_⟩
    (repeat' first | refine And.intro ?_ ?_ | exact xeC | fail)
  · refine ⟨⟨i + 1, by omega, fun hm => ?_⟩, [0], by simp only; omega, ?_⟩
    · rw [take_snocG l (by omega), List.mem_append] at hm
      rcases hm with hm | hm
      · exact hq hm
      · exact hb (by rw [List.mem_singleton.1 hm])
    · (repeat' first | refine And.intro ?_ ?_ | exact xeC | fail)
  · obtain rfl : i = l.length := by omega
    rw [List.take_length] at hq
    refine FinK.mk ⟨[0], _, _, .inr ⟨hq, rfl, rfl⟩, ?_⟩
    (repeat' first | refine And.intro ?_ ?_ | exact xeC | fail)
theorem rH42ybW0 {σ : List Sg} {H h' : List Fam} {v : T} {K : T → List Fam → Prop} {H' : List Fam} {v' : T} {N : Nat} (hk : K v' H') (hN : H.length = N := by (try simp only [↓List.length_cons, ↓List.length_nil, Nat.reduceAdd]) <;> rfl) (h : givesF σ N H σ h' = some H' := by (try simp (maxSteps := 1000000) only [givesF, setF, updF, Fam.zeroth, Fam.rk, Ck.rk, C.rk, E.rk, T.rk, key, List.map_cons, List.map_nil, List.cons_append, List.nil_append, List.length_cons, List.length_nil, Option.map_some, Option.bind_some, Nat.reduceAdd, Nat.zero_add, Nat.add_zero, Nat.add_sub_cancel_left, Int.toNat_natCast, reps, List.all_cons, List.all_nil, C.flat, List.append_eq, Bool.not_true, Bool.and_true, Bool.or_false, Bool.or_self, Bool.not_false, List.append_nil, Bool.and_self, ↓tpG_rk, ↓cnG_rk]) <;> rfl) (hv : v.rk σ N = v' := by (try simp only [givesF, setF, updF, Fam.zeroth, Fam.rk, Ck.rk, C.rk, E.rk, T.rk, key, List.map_cons, List.map_nil, List.cons_append, List.nil_append, List.length_cons, List.length_nil, Option.map_some, Option.bind_some, Nat.reduceAdd, Nat.zero_add, Nat.add_zero, Nat.add_sub_cancel_left, Int.toNat_natCast, reps, List.all_cons, List.all_nil, C.flat, List.append_eq, Bool.not_true, Bool.and_true, Bool.or_false, Bool.or_self, Bool.not_false, List.append_nil, Bool.and_self, ↓tpG_rk, ↓cnG_rk]) <;> rfl) : RetG σ H h' v K := ret_mk3 hN h hv hk
theorem cH42ybW1 {P : Program} {F : Nat} {args : List T} {H : List Fam} {K : T → List Fam → Prop} {σ : List Sg} {nl : List Fam} {args0 : List T} {h0 : List Fam} {Q : T → List Fam → Prop} {H2 H1 : List Fam} {N n : Nat} (hc : Ctr P F args0 h0 Q) (hk : ∀ v h', Q v h' → capsP h' → RetG σ H2 h' v K) (hap : apart σ = true := by rfl) (hnl : nl.all nilB = true := by rfl) (h1 : H ++ nl = H1 := by first | exact List.append_nil _ | ((try simp only [List.cons_append, List.nil_append]) <;> rfl)) (hN : H1.length = N := by (try simp only [↓List.length_cons, ↓List.length_nil, Nat.reduceAdd]) <;> rfl) (hn : H.length = n := by (try simp only [↓List.length_cons, ↓List.length_nil, Nat.reduceAdd]) <;> rfl) (hH : givesF σ N H1 σ h0 = some H2 := by (try simp (maxSteps := 1000000) only [givesF, setF, updF, Fam.zeroth, Fam.rk, Ck.rk, C.rk, E.rk, T.rk, key, List.map_cons, List.map_nil, List.cons_append, List.nil_append, List.length_cons, List.length_nil, Option.map_some, Option.bind_some, Nat.reduceAdd, Nat.zero_add, Nat.add_zero, Nat.add_sub_cancel_left, Int.toNat_natCast, reps, List.all_cons, List.all_nil, C.flat, List.append_eq, Bool.not_true, Bool.and_true, Bool.or_false, Bool.or_self, Bool.not_false, List.append_nil, Bool.and_self, ↓tpG_rk, ↓cnG_rk]) <;> rfl) (hle : leS n H1 σ N σ h0 (belsK N (h0.map (Fam.rk σ N)) (argsK n args (args0.map (T.rk σ N)) True)) := by repeat' first | refine And.intro ?_ ?_ | exact xeC | fail) : CallK P F args H K := CallK.mk3 hc hap hnl h1 hN hn hH hle hk
set_option maxRecDepth 10000 in
theorem cContains (w : Bool) (l : List (List UInt8)) (c : Nat) (t : List UInt8) (hl : l.length ≤ 1000000000) :
    Ctr Tryd.prog 71 [.c (.sl 0 0 1 0 l.length c), .c (.s (mkS t))] [.one (stR w l c)]
      fun v h => v = .c (.b (decide (t ∈ l))) ∧ h = [.one (stR w l c)] := by
  refine Ctr.mk' tbv mixed Tryd.func71 rfl rfl rfl (fun _ _ => by kernel_rfl) (by kernel_rfl) (by rfl) (by rfl) (by (repeat' first | refine And.intro ?_ ?_ | exact xeC | fail)) ?_
  repeat' (first | (fail_if_success (with_reducible refine xstp ?_)); first | (with_reducible intro hc; (try simp only [capsP, and_true] at hc); (try exact xfC)) | ((fail_if_success (with_reducible first | refine xgon ?_ | intro _)); (conv => whnf); (fail_if_success (fail_if_success (with_reducible first | refine xstp ?_ | refine xgon ?_ | intro _)))))
  refine cH42ybW1 (σ := [.whole 0]) (nl := []) (cIndexS w l c t hl) ?_
  rintro v h' hq hcaps
  rcases hq with ⟨k, hm, rfl, rfl⟩ | ⟨hm, rfl, rfl⟩
  · refine rH42ybW0 ?_
    repeat' (first | (fail_if_success (with_reducible refine xstp ?_)); first | ((fail_if_success (with_reducible first | refine xgon ?_ | intro _)); (conv => whnf); (fail_if_success (fail_if_success (with_reducible first | refine xstp ?_ | refine xgon ?_ | intro _)))))
    rw [decide_eq_true hm]
    refine FinK.mk ⟨[0], _, _, ⟨rfl, rfl⟩, ?_⟩; (repeat' first | refine And.intro ?_ ?_ | exact xeC | fail)
    all_goals (first | exact decide_eq_true (by omega) | exact decide_eq_false (by omega) | exact (decide_eq_true (by omega)).symm | exact (decide_eq_false (by omega)).symm | exact decide_eq_decide.2 (by omega))
  · refine rH42ybW0 ?_
    repeat' (first | (fail_if_success (with_reducible refine xstp ?_)); first | ((fail_if_success (with_reducible first | refine xgon ?_ | intro _)); (conv => whnf); (fail_if_success (fail_if_success (with_reducible first | refine xstp ?_ | refine xgon ?_ | intro _)))))
    rw [decide_eq_false hm]
    refine FinK.mk ⟨[0], _, _, ⟨rfl, rfl⟩, ?_⟩; (repeat' first | refine And.intro ?_ ?_ | exact xeC | fail)
    all_goals (first | exact decide_eq_true (by omega) | exact decide_eq_false (by omega) | exact (decide_eq_true (by omega)).symm | exact (decide_eq_false (by omega)).symm | exact decide_eq_decide.2 (by omega))
def offE (b : Bg) (i : Nat) : Nat := if i < b.L.length then (b.L.getD i default).off else b.ix
theorem offE_succ (b : Bg) (i : Nat) : offE b (i + 1) = endE b i := rfl
theorem chX_len (b : Bg) (k : Nat) : (chX b k).1.length ≤ endE b k - (b.L.getD k default).off := by
  have h := exaL_len ((b.s.take (endE b k)).drop (b.L.getD k default).off)
  rw [List.length_drop, List.length_take] at h
  unfold chX
  omega
theorem chL_len (b : Bg) (k : Nat) : (chL b k).length ≤ endE b k - (b.L.getD k default).off := by
  unfold chL
  split
  · have h1 := recL_len (mkS (chX b k).1)
    have h2 := chX_len b k
    have h3 : (mkS (chX b k).1).size = (chX b k).1.length := mkS_size _
    unfold chR1
    omega
  · simp
def comb (O : List Rc) (r : List Rc × Nat) : List Rc × Nat := if r.2 = 0 then (O ++ r.1, 0) else ([], r.2)
theorem rdB_skip {b : Bg} {t : List UInt8} {fr un : Int} {n k : Nat} {O : List Rc} (h : skipE (b.L.getD k default) t fr un) : comb O (rdB b t fr un (n + 1) k) = comb O (rdB b t fr un n (k + 1)) := by
  conv => lhs; unfold rdB
  rw [if_pos h]
theorem rdB_err {b : Bg} {t : List UInt8} {fr un : Int} {n k : Nat} {O : List Rc} (h : ¬ skipE (b.L.getD k default) t fr un) (he : chE b k ≠ 0) : comb O (rdB b t fr un (n + 1) k) = ([], chE b k) := by
  conv => lhs; unfold rdB
  rw [if_neg h, if_pos he]
  unfold comb
  rw [if_neg he]
theorem rdB_go {b : Bg} {t : List UInt8} {fr un : Int} {n k : Nat} {O : List Rc} (h : ¬ skipE (b.L.getD k default) t fr un) (he : chE b k = 0) : comb O (rdB b t fr un (n + 1) k) = comb (O ++ selR t fr un (chL b k)) (rdB b t fr un n (k + 1)) := by
  conv => lhs; unfold rdB
  rw [if_neg h, if_neg (by omega)]
  unfold comb
  by_cases h2 : (rdB b t fr un n (k + 1)).2 = 0
  · rw [if_pos h2, if_pos rfl, if_pos h2, List.append_assoc]
  · rw [if_neg h2, if_neg h2, if_neg h2]
theorem selR_snoc (t : List UInt8) (fr un : Int) (l : List Rc) (r : Rc) : selR t fr un (l ++ [r]) = selR t fr un l ++ if (t = [] ∨ r.tp = t) ∧ fr ≤ r.at_ ∧ r.at_ < un then [r] else [] := by
  unfold selR
  rw [List.filter_append]
  congr 1
  by_cases h : (t = [] ∨ r.tp = t) ∧ fr ≤ r.at_ ∧ r.at_ < un
  · rw [if_pos h]; simp [h]
  · rw [if_neg h]; simp [h]
theorem selR_le (t : List UInt8) (fr un : Int) (l : List Rc) : (selR t fr un l).length ≤ l.length := List.length_filter_le _ _
theorem selR_0 (O : List Rc) (t : List UInt8) (fr un : Int) (L : List Rc) : O ++ selR t fr un (L.take 0) = O := by simp [selR]
structure RdI (b : Bg) (t : List UInt8) (fr un : Int) (i : Nat) (O : List Rc) : Prop where
  le : i ≤ b.L.length
  len : O.length ≤ offE b i
  q : readB b t fr un = comb O (rdB b t fr un (b.L.length - i) i)
theorem offE_le {b : Bg} (hb : BOk b) {i : Nat} (h : i < b.L.length) : offE b i = (b.L.getD i default).off ∧ (b.L.getD i default).off ≤ endE b i ∧ endE b i ≤ b.s.length := by
  have := hb.at h
  exact ⟨if_pos h, this.2.1, this.2.2.1⟩
theorem RdI.skip {b : Bg} {t : List UInt8} {fr un : Int} {i : Nat} {O : List Rc} (hb : BOk b) (h : RdI b t fr un i O) (hi : i < b.L.length) (hs : skipE (b.L.getD i default) t fr un) : RdI b t fr un (i + 1) O := by
  have h1 := offE_le hb hi
  have h2 := h.len
  refine ⟨hi, by rw [offE_succ]; omega, ?_⟩
  have h3 := h.q
  rw [show b.L.length - i = (b.L.length - (i + 1)) + 1 by omega, rdB_skip hs] at h3
  exact h3
theorem RdI.go {b : Bg} {t : List UInt8} {fr un : Int} {i : Nat} {O : List Rc} (hb : BOk b) (h : RdI b t fr un i O) (hi : i < b.L.length) (hs : ¬ skipE (b.L.getD i default) t fr un) (he : chE b i = 0) : RdI b t fr un (i + 1) (O ++ selR t fr un (chL b i)) := by
  have h1 := offE_le hb hi
  have h2 := h.len
  have h4 := chL_len b i
  have h5 := selR_le t fr un (chL b i)
  refine ⟨hi, by rw [offE_succ, List.length_append]; omega, ?_⟩
  have h3 := h.q
  rw [show b.L.length - i = (b.L.length - (i + 1)) + 1 by omega, rdB_go hs he] at h3
  exact h3
theorem RdI.err {b : Bg} {t : List UInt8} {fr un : Int} {i : Nat} {O : List Rc} (h : RdI b t fr un i O) (hi : i < b.L.length) (hs : ¬ skipE (b.L.getD i default) t fr un) (he : chE b i ≠ 0) : readB b t fr un = ([], chE b i) := by
  have h3 := h.q
  rw [show b.L.length - i = (b.L.length - (i + 1)) + 1 by omega, rdB_err hs he] at h3
  exact h3
theorem RdI.fin {b : Bg} {t : List UInt8} {fr un : Int} {O : List Rc} (h : RdI b t fr un b.L.length O) : readB b t fr un = (O, 0) := by
  have h3 := h.q
  rw [Nat.sub_self] at h3
  rw [h3]
  simp [comb, rdB]
theorem RdI.init (b : Bg) (t : List UInt8) (fr un : Int) : RdI b t fr un 0 [] := by
  refine ⟨Nat.zero_le _, Nat.zero_le _, ?_⟩
  unfold readB comb
  rw [Nat.sub_zero]
  by_cases h : (rdB b t fr un b.L.length 0).2 = 0
  · rw [if_pos h]
    exact Prod.ext (by simp) h
  · rw [if_neg h]
    refine Prod.ext ?_ rfl
    have : ∀ n k, (rdB b t fr un n k).2 ≠ 0 → (rdB b t fr un n k).1 = [] := by
      intro n
      induction n with
      | zero => intro k hk; simp [rdB] at hk
      | succ n ih =>
        intro k hk
        unfold rdB at hk ⊢
        split
        · rename_i hs; rw [if_pos hs] at hk; exact ih _ hk
        · rename_i hs
          rw [if_neg hs] at hk
          split
          · rfl
          · rename_i hc
            rw [if_neg hc] at hk
            split
            · rename_i h0; rw [if_pos h0] at hk; exact absurd rfl hk
            · rfl
    exact this _ _ h
set_option maxRecDepth 10000 in
set_option maxHeartbeats 16000000 in
theorem cRead (b : Bg) (X : List Ep) (c : Nat) (t : List UInt8) (fr un : Int) (hB : BOk b) (hX : es X = b.L) :
    Ctr Tryd.prog 57 [.c (.p 0 0 0), .c (.s (mkS t)), .c (.i .i64 fr), .c (.i .i64 un)] (bagH b X c)
      fun v h => ∃ c', v = .t [.c (.sl 4 0 3 0 (readB b t fr un).1.length c'), .c (.i .i64 ((readB b t fr un).2 : Nat))] ∧ h = bagH b X c ++ [.one (rcR true (readB b t fr un).1 c')] := by
  have hLl : b.L.length = X.length := by rw [← hX]; exact List.length_map _
  have hgk : ∀ i, b.L.getD i default = (X.getD i default).e := fun i => by rw [← hX, getEs]
  have hn := hB.n
  have hlen := hB.len
  refine Ctr.mk' tbv mixed Tryd.func57 rfl rfl rfl (fun _ _ => by kernel_rfl) (by kernel_rfl) (by rfl) (by rfl) (by (repeat' first | refine And.intro ?_ ?_ | exact xeC | fail) <;> exact xmC2) ?_
  repeat' (first | (fail_if_success (with_reducible refine xstp ?_)); first | (with_reducible intro hc; (try simp only [capsP, and_true] at hc); (try exact xfC)) | ((fail_if_success (with_reducible first | refine xgon ?_ | intro _)); (conv => whnf); (fail_if_success (fail_if_success (with_reducible first | refine xstp ?_ | refine xgon ?_ | intro _)))))
  refine LoopK.mk' {p : Nat × List Rc × Nat // RdI b t fr un p.1 p.2.1}
    (fun ⟨(i, O, c1), _⟩ => ⟨[(0, .c (.p 0 0 0)), (1, .c (.s (mkS t))), (2, .c (.i .i64 fr)), (3, .c (.i .i64 un)), (10, .c (.sl 4 0 3 0 O.length c1)), (22, .c (.sl 1 0 5 0 X.length c)), (23, .c (.i .i64 (X.length : Nat))), (24, .c (.i .i64 (i : Nat)))],
      [.one (bgC b 1 X.length c), .one (epR 2 3 X c), .many (tpG X), .many (cnG X), .one (rcR true O c1)]⟩) (fun p => X.length - p.1.1)
    ⟨⟨(0, [], 0), RdI.init b t fr un⟩, [0, 1, 2, 3, 99], ?_⟩ ?_
  · (repeat' first | refine And.intro ?_ ?_ | exact xeC | fail)
    all_goals first
      | exact xmC2
      | (intro i hi; exact absurd hi (Nat.not_lt_zero i))
      | skip
  rintro ⟨⟨i, O, c1⟩, hI⟩
  simp only at hI
  have hil := hI.le
  have hOl := hI.len
  have e2 : 0 + ((i : Nat) : Int).toNat = i := by omega
  rcases Nat.lt_or_ge i X.length with hlt | hge
  · have g1 : ixG tpC X i = stR true ((X.getD i default).e.T.map Prod.fst) (X.getD i default).c1 := ixG_at hlt
    have hm1 : ((X.getD i default).e.T.map Prod.fst).length = (X.getD i default).e.T.length := List.length_map _
    have hTl := (hB.sz (b.L.getD i default) (by rw [getD_at (by omega)]; exact List.getElem_mem _)).1
    rw [hgk] at hTl
    have hof := offE_le hB (i := i) (by omega)
    have hsk : skipE (b.L.getD i default) t fr un ↔ ¬ hasT (X.getD i default).e t ∨ ((X.getD i default).e.la : Int) < fr ∨ un ≤ ((X.getD i default).e.fi : Int) := by rw [hgk]; exact Iff.rfl
    have hset : ∀ ck, ck = ixG tpC X i → (fun y => if y = i then ck else if y = i then ck else tpG X y) = tpG X := fun ck h => by
      funext y
      by_cases e : y = i
      · rw [if_pos e, h, e]
      · rw [if_neg e, if_neg e]
    repeat' (first | (fail_if_success (with_reducible refine xstp ?_)); first | ((with_reducible refine And.intro (fun (hb : _ = true) => ?_) (fun (hb : _ = false) => ?_)) <;> replace hb := xnC hb <;> (try first | exact xfC | exact bff hb (by assumption) | exact bff (by assumption) hb)) | ((with_reducible refine And.intro ?_ ?_); focus exact xoC) | ((with_reducible refine OvK.fit ?_ ?_); focus exact xoC) | (with_reducible intro hc; (try simp only [capsP, and_true] at hc); (try exact xfC)) | ((fail_if_success (with_reducible first | refine xgon ?_ | intro _)); (conv => whnf); (fail_if_success (fail_if_success (with_reducible first | refine xstp ?_ | refine xgon ?_ | intro _)))))
    · have hte : t ≠ [] := fun h => hb (mkS_nil.2 h)
      clear hb
      rw [e2]
      by_cases hm : t ∈ (X.getD i default).e.T.map Prod.fst
      · refine cH42ybW1 (σ := [.mem 2 i]) (nl := []) (cContains true ((X.getD i default).e.T.map Prod.fst) (X.getD i default).c1 t (by omega)) ?_ (hle := by (repeat' first | refine And.intro ?_ ?_ | exact xeC | fail) <;> (first | (refine ManyK.mk ⟨_, g1, ?_⟩ <;> (repeat' first | refine And.intro ?_ ?_ | exact xeC | fail) <;> (first | exact hm1.symm | skip)) | exact xmC2))
        rintro v h' ⟨rfl, rfl⟩ hcaps
        rw [decide_eq_true hm]
        refine rH42ybW0 ?_
        rw [hset _ g1.symm]
        repeat' (first | (fail_if_success (with_reducible refine xstp ?_)); first | ((with_reducible refine And.intro (fun (hb : _ = true) => ?_) (fun (hb : _ = false) => ?_)) <;> replace hb := xnC hb <;> (try first | exact xfC | exact bff hb (by assumption) | exact bff (by assumption) hb)) | ((with_reducible refine OvK.fit ?_ ?_); focus exact xoC) | ((fail_if_success (with_reducible first | refine xgon ?_ | intro _)); (conv => whnf); (fail_if_success (fail_if_success (with_reducible first | refine xstp ?_ | refine xgon ?_ | intro _)))))
        · skip
          refine ⟨⟨(i + 1, O, c1), hI.skip hB (by omega) (hsk.2 (.inr (.inl (by omega))))⟩, [0, 1, 2, 3, 4], by simp only; omega, ?_⟩
          (repeat' first | refine And.intro ?_ ?_ | exact xeC | fail)
          all_goals exact xmC2
        · skip
          refine ⟨⟨(i + 1, O, c1), hI.skip hB (by omega) (hsk.2 (.inr (.inr (by omega))))⟩, [0, 1, 2, 3, 4], by simp only; omega, ?_⟩
          (repeat' first | refine And.intro ?_ ?_ | exact xeC | fail)
          all_goals exact xmC2
        · skip
          have hns : ¬ skipE (b.L.getD i default) t fr un := fun q => by
            rcases hsk.1 q with q | q | q
            · exact q (.inr hm)
            · omega
            · omega
          clear hsk
          refine cH42ybW1 (σ := [.whole 0, .whole 1, .whole 2, .whole 3]) (nl := []) (cchunk b X c i hB hX hlt) ?_ (hle := by (repeat' first | refine And.intro ?_ ?_ | exact xeC | fail) <;> exact xmC2)
          rintro v h' ⟨c3, rfl, rfl⟩ hcaps
          refine rH42ybW0 ?_
          repeat' (first | (fail_if_success (with_reducible refine xstp ?_)); first | ((with_reducible refine And.intro (fun (hb : _ = true) => ?_) (fun (hb : _ = false) => ?_)) <;> replace hb := xnC hb <;> (try first | exact xfC | exact bff hb (by assumption) | exact bff (by assumption) hb)) | ((fail_if_success (with_reducible first | refine xgon ?_ | intro _)); (conv => whnf); (fail_if_success (fail_if_success (with_reducible first | refine xstp ?_ | refine xgon ?_ | intro _)))))
          · have hE : chE b i ≠ 0 := by omega
            rw [hI.err (by omega) hns hE]
            refine FinK.mk ⟨[0, 1, 2, 3, 99], _, _, ⟨0, rfl, rfl⟩, ?_⟩
            (repeat' first | refine And.intro ?_ ?_ | exact xeC | fail)
            all_goals exact xmC2
          have hE : chE b i = 0 := by omega
          have hcL := chL_len b i
          have hgo := hI.go hB (by omega) hns hE
          generalize chL b i = L at *
          refine LoopK.mk' {p : Nat × Nat // p.1 ≤ L.length}
            (fun ⟨(j, c2), _⟩ => ⟨[(0, .c (.p 0 0 0)), (1, .c (.s (mkS t))), (2, .c (.i .i64 fr)), (3, .c (.i .i64 un)), (10, .c (.sl 4 0 3 0 (O ++ selR t fr un (L.take j)).length c2)), (22, .c (.sl 1 0 5 0 X.length c)), (23, .c (.i .i64 (X.length : Nat))), (24, .c (.i .i64 (i : Nat))), (59, .c (.sl 5 0 3 0 L.length c3)), (60, .c (.i .i64 (L.length : Nat))), (61, .c (.i .i64 (j : Nat)))],
              [.one (bgC b 1 X.length c), .one (epR 2 3 X c), .many (tpG X), .many (cnG X), .one (rcR true (O ++ selR t fr un (L.take j)) c2), .one (rcR true L c3)]⟩) (fun p => L.length - p.1.1)
            ⟨⟨(0, c1), Nat.zero_le _⟩, [0, 1, 2, 3, 4, 6], ?_⟩ ?_
          · (repeat' first | refine And.intro ?_ ?_ | exact xeC | fail)
            all_goals first
              | exact xmC2
              | (rw [selR_0]; done)
              | (rw [selR_0]; exact Nat.le_refl _)
              | (rw [selR_0]; intro i hi; rfl)
              | (rw [selR_0]; rfl)
              | skip
          rintro ⟨⟨j, c2⟩, hj⟩
          simp only at hj
          have hselj := selR_le t fr un (L.take j)
          rw [List.length_take] at hselj
          have hOb : (O ++ selR t fr un (L.take j)).length ≤ 200000000 := by rw [List.length_append]; omega
          have e3 : 0 + ((j : Nat) : Int).toNat = j := by omega
          rcases Nat.lt_or_ge j L.length with hjl | hjg
          · have hts := selR_snoc t fr un (L.take j) (L.getD j default)
            rw [← take_snocG L hjl] at hts
            repeat' (first | (fail_if_success (with_reducible refine xstp ?_)); first | ((with_reducible refine And.intro (fun (hb : _ = true) => ?_) (fun (hb : _ = false) => ?_)) <;> replace hb := xnC hb <;> (try first | exact xfC | exact bff hb (by assumption) | exact bff (by assumption) hb)) | ((with_reducible refine And.intro ?_ ?_); focus exact xoC) | ((with_reducible refine OvK.fit ?_ ?_); focus exact xoC) | ((with_reducible refine Or.inl ⟨?_, ?_, ?_⟩); (focus rfl); focus exact xaC) | (with_reducible intro hc; (try simp only [capsP, and_true] at hc); (try exact xfC)) | ((fail_if_success (with_reducible first | refine xgon ?_ | intro _)); (conv => whnf); (fail_if_success (fail_if_success (with_reducible first | refine xstp ?_ | refine xgon ?_ | intro _)))))
            · skip
              rename_i c4
              rw [e3]
              rw [if_pos ⟨(.inl (mkS_nil.1 (by assumption))), by omega, by omega⟩] at hts
              refine ⟨⟨(j + 1, c4), hjl⟩, [0, 1, 2, 3, 8, 5], by simp only; omega, ?_⟩
              simp only [hts, ← List.append_assoc]
              (repeat' first | refine And.intro ?_ ?_ | exact xeC | fail)
              all_goals first
                | exact xmC2
                | skip
              all_goals first | omega | (simp only [List.length_append, List.length_singleton]; done) | (rw [List.length_append, List.length_singleton]; omega) | (intro i hi; (first | refine app_rowG _ _ _ _ ?_ i hi | refine app_row _ _ _ ?_ i hi); first | rfl | (simp only [Int.toNat_natCast, Nat.zero_add]; rfl))
            · skip
              rw [if_neg (fun q => by omega), List.append_nil] at hts
              refine ⟨⟨(j + 1, c2), hjl⟩, [0, 1, 2, 3, 4, 5], by simp only; omega, ?_⟩
              simp only [hts]
              (repeat' first | refine And.intro ?_ ?_ | exact xeC | fail)
              all_goals first
                | exact xmC2
                | skip
            · skip
              rw [if_neg (fun q => by omega), List.append_nil] at hts
              refine ⟨⟨(j + 1, c2), hjl⟩, [0, 1, 2, 3, 4, 5], by simp only; omega, ?_⟩
              simp only [hts]
              (repeat' first | refine And.intro ?_ ?_ | exact xeC | fail)
              all_goals first
                | exact xmC2
                | skip
            · skip
              rename_i c4
              rw [e3]
              rw [if_pos ⟨(.inr (mkS_inj.1 (by assumption))), by omega, by omega⟩] at hts
              refine ⟨⟨(j + 1, c4), hjl⟩, [0, 1, 2, 3, 8, 5], by simp only; omega, ?_⟩
              simp only [hts, ← List.append_assoc]
              (repeat' first | refine And.intro ?_ ?_ | exact xeC | fail)
              all_goals first
                | exact xmC2
                | skip
              all_goals first | omega | (simp only [List.length_append, List.length_singleton]; done) | (rw [List.length_append, List.length_singleton]; omega) | (intro i hi; (first | refine app_rowG _ _ _ _ ?_ i hi | refine app_row _ _ _ ?_ i hi); first | rfl | (simp only [Int.toNat_natCast, Nat.zero_add]; rfl))
            · skip
              rw [if_neg (fun q => by omega), List.append_nil] at hts
              refine ⟨⟨(j + 1, c2), hjl⟩, [0, 1, 2, 3, 4, 5], by simp only; omega, ?_⟩
              simp only [hts]
              (repeat' first | refine And.intro ?_ ?_ | exact xeC | fail)
              all_goals first
                | exact xmC2
                | skip
            · skip
              rw [if_neg (fun q => by omega), List.append_nil] at hts
              refine ⟨⟨(j + 1, c2), hjl⟩, [0, 1, 2, 3, 4, 5], by simp only; omega, ?_⟩
              simp only [hts]
              (repeat' first | refine And.intro ?_ ?_ | exact xeC | fail)
              all_goals first
                | exact xmC2
                | skip
            · rename_i h5
              rw [if_neg (fun q => q.1.elim (fun h => h5 (mkS_nil.2 h)) (fun h => hb (by rw [h]))), List.append_nil] at hts
              refine ⟨⟨(j + 1, c2), hjl⟩, [0, 1, 2, 3, 4, 5], by simp only; omega, ?_⟩
              simp only [hts]
              (repeat' first | refine And.intro ?_ ?_ | exact xeC | fail)
              all_goals first
                | exact xmC2
                | skip
          · obtain rfl : j = L.length := by omega
            repeat' (first | (fail_if_success (with_reducible refine xstp ?_)); first | ((with_reducible refine And.intro (fun (hb : _ = true) => ?_) (fun (hb : _ = false) => ?_)) <;> replace hb := xnC hb <;> (try first | exact xfC | exact bff hb (by assumption) | exact bff (by assumption) hb)) | ((with_reducible refine OvK.fit ?_ ?_); focus exact xoC) | (with_reducible intro hc; (try simp only [capsP, and_true] at hc); (try exact xfC)) | ((fail_if_success (with_reducible first | refine xgon ?_ | intro _)); (conv => whnf); (fail_if_success (fail_if_success (with_reducible first | refine xstp ?_ | refine xgon ?_ | intro _)))))
            rw [List.take_length]
            refine ⟨⟨(i + 1, O ++ selR t fr un L, c2), hgo⟩, [0, 1, 2, 3, 4], by simp only; omega, ?_⟩
            (repeat' first | refine And.intro ?_ ?_ | exact xeC | fail)
            all_goals first
              | exact xmC2
              | skip
      · refine cH42ybW1 (σ := [.mem 2 i]) (nl := []) (cContains true ((X.getD i default).e.T.map Prod.fst) (X.getD i default).c1 t (by omega)) ?_ (hle := by (repeat' first | refine And.intro ?_ ?_ | exact xeC | fail) <;> (first | (refine ManyK.mk ⟨_, g1, ?_⟩ <;> (repeat' first | refine And.intro ?_ ?_ | exact xeC | fail) <;> (first | exact hm1.symm | skip)) | exact xmC2))
        rintro v h' ⟨rfl, rfl⟩ hcaps
        rw [decide_eq_false hm]
        refine rH42ybW0 ?_
        rw [hset _ g1.symm]
        repeat' (first | (fail_if_success (with_reducible refine xstp ?_)); first | ((with_reducible refine And.intro (fun (hb : _ = true) => ?_) (fun (hb : _ = false) => ?_)) <;> replace hb := xnC hb <;> (try first | exact xfC | exact bff hb (by assumption) | exact bff (by assumption) hb)) | ((with_reducible refine OvK.fit ?_ ?_); focus exact xoC) | ((fail_if_success (with_reducible first | refine xgon ?_ | intro _)); (conv => whnf); (fail_if_success (fail_if_success (with_reducible first | refine xstp ?_ | refine xgon ?_ | intro _)))))
        refine ⟨⟨(i + 1, O, c1), hI.skip hB (by omega) (hsk.2 (.inl fun q => q.elim hte hm))⟩, [0, 1, 2, 3, 4], by simp only; omega, ?_⟩
        (repeat' first | refine And.intro ?_ ?_ | exact xeC | fail)
        all_goals exact xmC2
    · skip
      refine ⟨⟨(i + 1, O, c1), hI.skip hB (by omega) (hsk.2 (.inr (.inl (by omega))))⟩, [0, 1, 2, 3, 4], by simp only; omega, ?_⟩
      (repeat' first | refine And.intro ?_ ?_ | exact xeC | fail)
      all_goals exact xmC2
    · skip
      refine ⟨⟨(i + 1, O, c1), hI.skip hB (by omega) (hsk.2 (.inr (.inr (by omega))))⟩, [0, 1, 2, 3, 4], by simp only; omega, ?_⟩
      (repeat' first | refine And.intro ?_ ?_ | exact xeC | fail)
      all_goals exact xmC2
    · rename_i h0 h1
      have hte : t = [] := mkS_nil.1 h0
      rw [e2]
      have hns : ¬ skipE (b.L.getD i default) t fr un := fun q => by
        rcases hsk.1 q with q | q | q
        · exact q (.inl hte)
        · omega
        · omega
      clear hsk
      refine cH42ybW1 (σ := [.whole 0, .whole 1, .whole 2, .whole 3]) (nl := []) (cchunk b X c i hB hX hlt) ?_ (hle := by (repeat' first | refine And.intro ?_ ?_ | exact xeC | fail) <;> exact xmC2)
      rintro v h' ⟨c3, rfl, rfl⟩ hcaps
      refine rH42ybW0 ?_
      repeat' (first | (fail_if_success (with_reducible refine xstp ?_)); first | ((with_reducible refine And.intro (fun (hb : _ = true) => ?_) (fun (hb : _ = false) => ?_)) <;> replace hb := xnC hb <;> (try first | exact xfC | exact bff hb (by assumption) | exact bff (by assumption) hb)) | ((fail_if_success (with_reducible first | refine xgon ?_ | intro _)); (conv => whnf); (fail_if_success (fail_if_success (with_reducible first | refine xstp ?_ | refine xgon ?_ | intro _)))))
      · have hE : chE b i ≠ 0 := by omega
        rw [hI.err (by omega) hns hE]
        refine FinK.mk ⟨[0, 1, 2, 3, 99], _, _, ⟨0, rfl, rfl⟩, ?_⟩
        (repeat' first | refine And.intro ?_ ?_ | exact xeC | fail)
        all_goals exact xmC2
      have hE : chE b i = 0 := by omega
      have hcL := chL_len b i
      have hgo := hI.go hB (by omega) hns hE
      generalize chL b i = L at *
      refine LoopK.mk' {p : Nat × Nat // p.1 ≤ L.length}
        (fun ⟨(j, c2), _⟩ => ⟨[(0, .c (.p 0 0 0)), (1, .c (.s (mkS t))), (2, .c (.i .i64 fr)), (3, .c (.i .i64 un)), (10, .c (.sl 4 0 3 0 (O ++ selR t fr un (L.take j)).length c2)), (22, .c (.sl 1 0 5 0 X.length c)), (23, .c (.i .i64 (X.length : Nat))), (24, .c (.i .i64 (i : Nat))), (59, .c (.sl 5 0 3 0 L.length c3)), (60, .c (.i .i64 (L.length : Nat))), (61, .c (.i .i64 (j : Nat)))],
          [.one (bgC b 1 X.length c), .one (epR 2 3 X c), .many (tpG X), .many (cnG X), .one (rcR true (O ++ selR t fr un (L.take j)) c2), .one (rcR true L c3)]⟩) (fun p => L.length - p.1.1)
        ⟨⟨(0, c1), Nat.zero_le _⟩, [0, 1, 2, 3, 4, 6], ?_⟩ ?_
      · (repeat' first | refine And.intro ?_ ?_ | exact xeC | fail)
        all_goals first
          | exact xmC2
          | (rw [selR_0]; done)
          | (rw [selR_0]; exact Nat.le_refl _)
          | (rw [selR_0]; intro i hi; rfl)
          | (rw [selR_0]; rfl)
          | skip
      rintro ⟨⟨j, c2⟩, hj⟩
      simp only at hj
      have hselj := selR_le t fr un (L.take j)
      rw [List.length_take] at hselj
      have hOb : (O ++ selR t fr un (L.take j)).length ≤ 200000000 := by rw [List.length_append]; omega
      have e3 : 0 + ((j : Nat) : Int).toNat = j := by omega
      rcases Nat.lt_or_ge j L.length with hjl | hjg
      · have hts := selR_snoc t fr un (L.take j) (L.getD j default)
        rw [← take_snocG L hjl] at hts
        repeat' (first | (fail_if_success (with_reducible refine xstp ?_)); first | ((with_reducible refine And.intro (fun (hb : _ = true) => ?_) (fun (hb : _ = false) => ?_)) <;> replace hb := xnC hb <;> (try first | exact xfC | exact bff hb (by assumption) | exact bff (by assumption) hb)) | ((with_reducible refine And.intro ?_ ?_); focus exact xoC) | ((with_reducible refine OvK.fit ?_ ?_); focus exact xoC) | ((with_reducible refine Or.inl ⟨?_, ?_, ?_⟩); (focus rfl); focus exact xaC) | (with_reducible intro hc; (try simp only [capsP, and_true] at hc); (try exact xfC)) | ((fail_if_success (with_reducible first | refine xgon ?_ | intro _)); (conv => whnf); (fail_if_success (fail_if_success (with_reducible first | refine xstp ?_ | refine xgon ?_ | intro _)))))
        · skip
          rename_i c4
          rw [e3]
          rw [if_pos ⟨(.inl (mkS_nil.1 (by assumption))), by omega, by omega⟩] at hts
          refine ⟨⟨(j + 1, c4), hjl⟩, [0, 1, 2, 3, 8, 5], by simp only; omega, ?_⟩
          simp only [hts, ← List.append_assoc]
          (repeat' first | refine And.intro ?_ ?_ | exact xeC | fail)
          all_goals first
            | exact xmC2
            | skip
          all_goals first | omega | (simp only [List.length_append, List.length_singleton]; done) | (rw [List.length_append, List.length_singleton]; omega) | (intro i hi; (first | refine app_rowG _ _ _ _ ?_ i hi | refine app_row _ _ _ ?_ i hi); first | rfl | (simp only [Int.toNat_natCast, Nat.zero_add]; rfl))
        · skip
          rw [if_neg (fun q => by omega), List.append_nil] at hts
          refine ⟨⟨(j + 1, c2), hjl⟩, [0, 1, 2, 3, 4, 5], by simp only; omega, ?_⟩
          simp only [hts]
          (repeat' first | refine And.intro ?_ ?_ | exact xeC | fail)
          all_goals first
            | exact xmC2
            | skip
        · skip
          rw [if_neg (fun q => by omega), List.append_nil] at hts
          refine ⟨⟨(j + 1, c2), hjl⟩, [0, 1, 2, 3, 4, 5], by simp only; omega, ?_⟩
          simp only [hts]
          (repeat' first | refine And.intro ?_ ?_ | exact xeC | fail)
          all_goals first
            | exact xmC2
            | skip
        · skip
          rename_i c4
          rw [e3]
          rw [if_pos ⟨(.inr (mkS_inj.1 (by assumption))), by omega, by omega⟩] at hts
          refine ⟨⟨(j + 1, c4), hjl⟩, [0, 1, 2, 3, 8, 5], by simp only; omega, ?_⟩
          simp only [hts, ← List.append_assoc]
          (repeat' first | refine And.intro ?_ ?_ | exact xeC | fail)
          all_goals first
            | exact xmC2
            | skip
          all_goals first | omega | (simp only [List.length_append, List.length_singleton]; done) | (rw [List.length_append, List.length_singleton]; omega) | (intro i hi; (first | refine app_rowG _ _ _ _ ?_ i hi | refine app_row _ _ _ ?_ i hi); first | rfl | (simp only [Int.toNat_natCast, Nat.zero_add]; rfl))
        · skip
          rw [if_neg (fun q => by omega), List.append_nil] at hts
          refine ⟨⟨(j + 1, c2), hjl⟩, [0, 1, 2, 3, 4, 5], by simp only; omega, ?_⟩
          simp only [hts]
          (repeat' first | refine And.intro ?_ ?_ | exact xeC | fail)
          all_goals first
            | exact xmC2
            | skip
        · skip
          rw [if_neg (fun q => by omega), List.append_nil] at hts
          refine ⟨⟨(j + 1, c2), hjl⟩, [0, 1, 2, 3, 4, 5], by simp only; omega, ?_⟩
          simp only [hts]
          (repeat' first | refine And.intro ?_ ?_ | exact xeC | fail)
          all_goals first
            | exact xmC2
            | skip
        · rename_i h5
          rw [if_neg (fun q => q.1.elim (fun h => h5 (mkS_nil.2 h)) (fun h => hb (by rw [h]))), List.append_nil] at hts
          refine ⟨⟨(j + 1, c2), hjl⟩, [0, 1, 2, 3, 4, 5], by simp only; omega, ?_⟩
          simp only [hts]
          (repeat' first | refine And.intro ?_ ?_ | exact xeC | fail)
          all_goals first
            | exact xmC2
            | skip
      · obtain rfl : j = L.length := by omega
        repeat' (first | (fail_if_success (with_reducible refine xstp ?_)); first | ((with_reducible refine And.intro (fun (hb : _ = true) => ?_) (fun (hb : _ = false) => ?_)) <;> replace hb := xnC hb <;> (try first | exact xfC | exact bff hb (by assumption) | exact bff (by assumption) hb)) | ((with_reducible refine OvK.fit ?_ ?_); focus exact xoC) | (with_reducible intro hc; (try simp only [capsP, and_true] at hc); (try exact xfC)) | ((fail_if_success (with_reducible first | refine xgon ?_ | intro _)); (conv => whnf); (fail_if_success (fail_if_success (with_reducible first | refine xstp ?_ | refine xgon ?_ | intro _)))))
        rw [List.take_length]
        refine ⟨⟨(i + 1, O ++ selR t fr un L, c2), hgo⟩, [0, 1, 2, 3, 4], by simp only; omega, ?_⟩
        (repeat' first | refine And.intro ?_ ?_ | exact xeC | fail)
        all_goals first
          | exact xmC2
          | skip
  · obtain rfl : i = X.length := by omega
    repeat' (first | (fail_if_success (with_reducible refine xstp ?_)); first | ((with_reducible refine And.intro (fun (hb : _ = true) => ?_) (fun (hb : _ = false) => ?_)) <;> replace hb := xnC hb <;> (try first | exact xfC | exact bff hb (by assumption) | exact bff (by assumption) hb)) | (with_reducible intro hc; (try simp only [capsP, and_true] at hc); (try exact xfC)) | ((fail_if_success (with_reducible first | refine xgon ?_ | intro _)); (conv => whnf); (fail_if_success (fail_if_success (with_reducible first | refine xstp ?_ | refine xgon ?_ | intro _)))))
    rw [(show readB b t fr un = (O, 0) from RdI.fin (by rw [hLl]; exact hI))]
    refine FinK.mk ⟨[0, 1, 2, 3, 4], _, _, ⟨c1, rfl, rfl⟩, ?_⟩
    (repeat' first | refine And.intro ?_ ?_ | exact xeC | fail)
    all_goals exact xmC2
end Go.Proofs.YtenompgpjlbelaaDoor


namespace Go.Proofs.YtenompgpjlbelaaDoor
open Go.X
set_option linter.unusedSimpArgs false
set_option linter.unusedVariables false
open P4
open P5
theorem rH42ybY0 {σ : List Sg} {H h' : List Fam} {v : T} {K : T → List Fam → Prop} {H' : List Fam} {v' : T} {N : Nat} (hk : K v' H') (hN : H.length = N := by (try simp only [↓List.length_cons, ↓List.length_nil, Nat.reduceAdd]) <;> rfl) (h : givesF σ N H σ h' = some H' := by (try simp (maxSteps := 1000000) only [givesF, setF, updF, Fam.zeroth, Fam.rk, Ck.rk, C.rk, E.rk, T.rk, key, List.map_cons, List.map_nil, List.cons_append, List.nil_append, List.length_cons, List.length_nil, Option.map_some, Option.bind_some, Nat.reduceAdd, Nat.zero_add, Nat.add_zero, Nat.add_sub_cancel_left, Int.toNat_natCast, reps, List.all_cons, List.all_nil, C.flat, List.append_eq, Bool.not_true, Bool.and_true, Bool.or_false, Bool.or_self, Bool.not_false, List.append_nil, Bool.and_self, ↓tpG_rk, ↓cnG_rk]) <;> rfl) (hv : v.rk σ N = v' := by (try simp only [givesF, setF, updF, Fam.zeroth, Fam.rk, Ck.rk, C.rk, E.rk, T.rk, key, List.map_cons, List.map_nil, List.cons_append, List.nil_append, List.length_cons, List.length_nil, Option.map_some, Option.bind_some, Nat.reduceAdd, Nat.zero_add, Nat.add_zero, Nat.add_sub_cancel_left, Int.toNat_natCast, reps, List.all_cons, List.all_nil, C.flat, List.append_eq, Bool.not_true, Bool.and_true, Bool.or_false, Bool.or_self, Bool.not_false, List.append_nil, Bool.and_self, ↓tpG_rk, ↓cnG_rk]) <;> rfl) : RetG σ H h' v K := ret_mk3 hN h hv hk
theorem cH42ybY1 {P : Program} {F : Nat} {args : List T} {H : List Fam} {K : T → List Fam → Prop} {σ : List Sg} {nl : List Fam} {args0 : List T} {h0 : List Fam} {Q : T → List Fam → Prop} {H2 H1 : List Fam} {N n : Nat} (hc : Ctr P F args0 h0 Q) (hk : ∀ v h', Q v h' → capsP h' → RetG σ H2 h' v K) (hap : apart σ = true := by rfl) (hnl : nl.all nilB = true := by rfl) (h1 : H ++ nl = H1 := by first | exact List.append_nil _ | ((try simp only [List.cons_append, List.nil_append]) <;> rfl)) (hN : H1.length = N := by (try simp only [↓List.length_cons, ↓List.length_nil, Nat.reduceAdd]) <;> rfl) (hn : H.length = n := by (try simp only [↓List.length_cons, ↓List.length_nil, Nat.reduceAdd]) <;> rfl) (hH : givesF σ N H1 σ h0 = some H2 := by (try simp (maxSteps := 1000000) only [givesF, setF, updF, Fam.zeroth, Fam.rk, Ck.rk, C.rk, E.rk, T.rk, key, List.map_cons, List.map_nil, List.cons_append, List.nil_append, List.length_cons, List.length_nil, Option.map_some, Option.bind_some, Nat.reduceAdd, Nat.zero_add, Nat.add_zero, Nat.add_sub_cancel_left, Int.toNat_natCast, reps, List.all_cons, List.all_nil, C.flat, List.append_eq, Bool.not_true, Bool.and_true, Bool.or_false, Bool.or_self, Bool.not_false, List.append_nil, Bool.and_self, ↓tpG_rk, ↓cnG_rk]) <;> rfl) (hle : leS n H1 σ N σ h0 (belsK N (h0.map (Fam.rk σ N)) (argsK n args (args0.map (T.rk σ N)) True)) := by repeat' first | refine And.intro ?_ ?_ | exact xeC | fail) : CallK P F args H K := CallK.mk3 hc hap hnl h1 hN hn hH hle hk
set_option maxRecDepth 10000 in
theorem cAll (b : Bg) (X : List Ep) (c : Nat) (hB : BOk b) (hX : es X = b.L) :
    Ctr Tryd.prog 46 [.c (.p 0 0 0)] (bagH b X c)
      fun v h => ∃ c', v = .t [.c (.sl 4 0 3 0 (readB b [] 0 1099511627777).1.length c'), .c (.i .i64 ((readB b [] 0 1099511627777).2 : Nat))] ∧ h = bagH b X c ++ [.one (rcR true (readB b [] 0 1099511627777).1 c')] := by
  refine Ctr.mk' tbv mixed Tryd.func46 rfl rfl rfl (fun _ _ => by kernel_rfl) (by kernel_rfl) (by rfl) (by rfl) (by (repeat' first | refine And.intro ?_ ?_ | exact xeC | fail) <;> exact xmC2) ?_
  repeat' (first | (fail_if_success (with_reducible refine xstp ?_)); first | (with_reducible intro hc; (try simp only [capsP, and_true] at hc); (try exact xfC)) | ((fail_if_success (with_reducible first | refine xgon ?_ | intro _)); (conv => whnf); (fail_if_success (fail_if_success (with_reducible first | refine xstp ?_ | refine xgon ?_ | intro _)))))
  rw [show (ByteArray.mk #[]) = mkS [] from rfl]
  refine cH42ybY1 (σ := [.whole 0, .whole 1, .whole 2, .whole 3]) (nl := []) (cRead b X c [] 0 1099511627777 hB hX) ?_ (hle := by (repeat' first | refine And.intro ?_ ?_ | exact xeC | fail) <;> exact xmC2)
  rintro v h' ⟨c3, rfl, rfl⟩ hcaps
  refine rH42ybY0 ?_
  repeat' (first | (fail_if_success (with_reducible refine xstp ?_)); first | ((fail_if_success (with_reducible first | refine xgon ?_ | intro _)); (conv => whnf); (fail_if_success (fail_if_success (with_reducible first | refine xstp ?_ | refine xgon ?_ | intro _)))))
  refine FinK.mk ⟨[0, 1, 2, 3, 4], _, _, ⟨c3, rfl, rfl⟩, ?_⟩
  (repeat' first | refine And.intro ?_ ?_ | exact xeC | fail)
  all_goals exact xmC2
end Go.Proofs.YtenompgpjlbelaaDoor


namespace Go.Proofs.YtenompgpjlbelaaDoor
open Go.X
set_option linter.unusedSimpArgs false
set_option linter.unusedVariables false
open P4
open P5
/-- All the records of a bag, and the error. -/
def allB (s : List UInt8) : List Rc × Nat := readB (bgO s) [] 0 1099511627777
theorem rH42ylI0 {σ : List Sg} {H h' : List Fam} {v : T} {K : T → List Fam → Prop} {H' : List Fam} {v' : T} {N : Nat} (hk : K v' H') (hN : H.length = N := by (try simp only [↓List.length_cons, ↓List.length_nil, Nat.reduceAdd]) <;> rfl) (h : givesF σ N H σ h' = some H' := by (try simp (maxSteps := 1000000) only [givesF, setF, updF, Fam.zeroth, Fam.rk, Ck.rk, C.rk, E.rk, T.rk, key, List.map_cons, List.map_nil, List.cons_append, List.nil_append, List.length_cons, List.length_nil, Option.map_some, Option.bind_some, Nat.reduceAdd, Nat.zero_add, Nat.add_zero, Nat.add_sub_cancel_left, Int.toNat_natCast, reps, List.all_cons, List.all_nil, C.flat, List.append_eq, Bool.not_true, Bool.and_true, Bool.or_false, Bool.or_self, Bool.not_false, List.append_nil, Bool.and_self, ↓tpG_rk, ↓cnG_rk]) <;> rfl) (hv : v.rk σ N = v' := by (try simp only [givesF, setF, updF, Fam.zeroth, Fam.rk, Ck.rk, C.rk, E.rk, T.rk, key, List.map_cons, List.map_nil, List.cons_append, List.nil_append, List.length_cons, List.length_nil, Option.map_some, Option.bind_some, Nat.reduceAdd, Nat.zero_add, Nat.add_zero, Nat.add_sub_cancel_left, Int.toNat_natCast, reps, List.all_cons, List.all_nil, C.flat, List.append_eq, Bool.not_true, Bool.and_true, Bool.or_false, Bool.or_self, Bool.not_false, List.append_nil, Bool.and_self, ↓tpG_rk, ↓cnG_rk]) <;> rfl) : RetG σ H h' v K := ret_mk3 hN h hv hk
theorem cH42ylI1 {P : Program} {F : Nat} {args : List T} {H : List Fam} {K : T → List Fam → Prop} {σ : List Sg} {nl : List Fam} {args0 : List T} {h0 : List Fam} {Q : T → List Fam → Prop} {H2 H1 : List Fam} {N n : Nat} (hc : Ctr P F args0 h0 Q) (hk : ∀ v h', Q v h' → capsP h' → RetG σ H2 h' v K) (hap : apart σ = true := by rfl) (hnl : nl.all nilB = true := by rfl) (h1 : H ++ nl = H1 := by first | exact List.append_nil _ | ((try simp only [List.cons_append, List.nil_append]) <;> rfl)) (hN : H1.length = N := by (try simp only [↓List.length_cons, ↓List.length_nil, Nat.reduceAdd]) <;> rfl) (hn : H.length = n := by (try simp only [↓List.length_cons, ↓List.length_nil, Nat.reduceAdd]) <;> rfl) (hH : givesF σ N H1 σ h0 = some H2 := by (try simp (maxSteps := 1000000) only [givesF, setF, updF, Fam.zeroth, Fam.rk, Ck.rk, C.rk, E.rk, T.rk, key, List.map_cons, List.map_nil, List.cons_append, List.nil_append, List.length_cons, List.length_nil, Option.map_some, Option.bind_some, Nat.reduceAdd, Nat.zero_add, Nat.add_zero, Nat.add_sub_cancel_left, Int.toNat_natCast, reps, List.all_cons, List.all_nil, C.flat, List.append_eq, Bool.not_true, Bool.and_true, Bool.or_false, Bool.or_self, Bool.not_false, List.append_nil, Bool.and_self, ↓tpG_rk, ↓cnG_rk]) <;> rfl) (hle : leS n H1 σ N σ h0 (belsK N (h0.map (Fam.rk σ N)) (argsK n args (args0.map (T.rk σ N)) True)) := by repeat' first | refine And.intro ?_ ?_ | exact xeC | fail) : CallK P F args H K := CallK.mk3 hc hap hnl h1 hN hn hH hle hk
set_option maxRecDepth 10000 in
set_option maxHeartbeats 4000000 in
theorem call42 (s : List UInt8) (hl : s.length ≤ 640000) :
    Ctr Tryd.prog 32 [.c (.s (mkS s))] []
      fun v h => (bgE s ≠ 0 ∧ v = .t [.c .nils, .c (.i .i64 (bgE s : Nat))] ∧ h = []) ∨
        (bgE s = 0 ∧ ∃ c, v = .t [.c (.sl 0 0 3 0 (allB s).1.length c), .c (.i .i64 ((allB s).2 : Nat))] ∧ h = [.one (rcR true (allB s).1 c)]) := by
  refine Ctr.mk' tbv mixed Tryd.func32 rfl rfl rfl (fun _ _ => by kernel_rfl) (by kernel_rfl) (by rfl) (by rfl) (by (repeat' first | refine And.intro ?_ ?_ | exact xeC | fail)) ?_
  repeat' (first | (fail_if_success (with_reducible refine xstp ?_)); first | (with_reducible intro hc; (try simp only [capsP, and_true] at hc); (try exact xfC)) | ((fail_if_success (with_reducible first | refine xgon ?_ | intro _)); (conv => whnf); (fail_if_success (fail_if_success (with_reducible first | refine xstp ?_ | refine xgon ?_ | intro _)))))
  refine cH42ylI1 (σ := []) (nl := []) (cOpenB s (by omega)) ?_
  rintro v h' (⟨he, rfl, rfl⟩ | ⟨he, X, c, hX, rfl, rfl⟩) hcaps
  · skip
    repeat' (first | (fail_if_success (with_reducible refine xstp ?_)); first | ((with_reducible refine And.intro (fun (hb : _ = true) => ?_) (fun (hb : _ = false) => ?_)) <;> replace hb := xnC hb <;> (try first | exact xfC | exact bff hb (by assumption) | exact bff (by assumption) hb)) | ((fail_if_success (with_reducible first | refine xgon ?_ | intro _)); (conv => whnf); (fail_if_success (fail_if_success (with_reducible first | refine xstp ?_ | refine xgon ?_ | intro _)))))
    exact FinK.mk ⟨[], _, _, .inl ⟨he, rfl, rfl⟩, by (repeat' first | refine And.intro ?_ ?_ | exact xeC | fail)⟩
  · have hB := BOk.of he hl
    refine rH42ylI0 ?_
    repeat' (first | (fail_if_success (with_reducible refine xstp ?_)); first | ((with_reducible refine And.intro (fun (hb : _ = true) => ?_) (fun (hb : _ = false) => ?_)) <;> replace hb := xnC hb <;> (try first | exact xfC | exact bff hb (by assumption) | exact bff (by assumption) hb)) | ((fail_if_success (with_reducible first | refine xgon ?_ | intro _)); (conv => whnf); (fail_if_success (fail_if_success (with_reducible first | refine xstp ?_ | refine xgon ?_ | intro _)))))
    refine cH42ylI1 (σ := [.whole 0, .whole 1, .whole 2, .whole 3]) (nl := []) (cAll (bgO s) X c hB hX) ?_ (hle := by (repeat' first | refine And.intro ?_ ?_ | exact xeC | fail) <;> exact xmC2)
    rintro v h' ⟨c3, rfl, rfl⟩ hcaps
    refine rH42ylI0 ?_
    repeat' (first | (fail_if_success (with_reducible refine xstp ?_)); first | ((fail_if_success (with_reducible first | refine xgon ?_ | intro _)); (conv => whnf); (fail_if_success (fail_if_success (with_reducible first | refine xstp ?_ | refine xgon ?_ | intro _)))))
    refine FinK.mk ⟨[4], _, _, .inr ⟨he, c3, rfl, rfl⟩, ?_⟩
    (repeat' first | refine And.intro ?_ ?_ | exact xeC | fail)
theorem callG (s : List UInt8) (hl : s.length ≤ 640000) (l : List Rc) (e e2 : Nat) (h1 : bgE s = e) (h2 : allB s = (l, e2)) :
    Ctr Tryd.prog 32 [.c (.s (mkS s))] []
      fun v h => (e ≠ 0 ∧ v = .t [.c .nils, .c (.i .i64 (e : Nat))] ∧ h = []) ∨
        (e = 0 ∧ ∃ c, v = .t [.c (.sl 0 0 3 0 l.length c), .c (.i .i64 (e2 : Nat))] ∧ h = [.one (rcR true l c)]) := by
  have h := call42 s hl
  rw [h1, h2] at h
  exact h
end Go.Proofs.YtenompgpjlbelaaDoor


namespace Go.Proofs.YtenompgpjlbelaaDoor
open Go.X
set_option linter.unusedSimpArgs false
set_option linter.unusedVariables false
open P4
open P5
/-- The error of a recording that is read: the bag's own, the reading's, or that of an alien topic. -/
def chk (e : Nat) (l : List Rc) (e2 : Nat) : Nat := if e ≠ 0 then e else if e2 ≠ 0 then e2 else if okL l then 0 else 2
theorem rH42ylJ0 {σ : List Sg} {H h' : List Fam} {v : T} {K : T → List Fam → Prop} {H' : List Fam} {v' : T} {N : Nat} (hk : K v' H') (hN : H.length = N := by (try simp only [↓List.length_cons, ↓List.length_nil, Nat.reduceAdd]) <;> rfl) (h : givesF σ N H σ h' = some H' := by (try simp (maxSteps := 1000000) only [givesF, setF, updF, Fam.zeroth, Fam.rk, Ck.rk, C.rk, E.rk, T.rk, key, List.map_cons, List.map_nil, List.cons_append, List.nil_append, List.length_cons, List.length_nil, Option.map_some, Option.bind_some, Nat.reduceAdd, Nat.zero_add, Nat.add_zero, Nat.add_sub_cancel_left, Int.toNat_natCast, reps, List.all_cons, List.all_nil, C.flat, List.append_eq, Bool.not_true, Bool.and_true, Bool.or_false, Bool.or_self, Bool.not_false, List.append_nil, Bool.and_self, encR]) <;> rfl) (hv : v.rk σ N = v' := by (try simp only [givesF, setF, updF, Fam.zeroth, Fam.rk, Ck.rk, C.rk, E.rk, T.rk, key, List.map_cons, List.map_nil, List.cons_append, List.nil_append, List.length_cons, List.length_nil, Option.map_some, Option.bind_some, Nat.reduceAdd, Nat.zero_add, Nat.add_zero, Nat.add_sub_cancel_left, Int.toNat_natCast, reps, List.all_cons, List.all_nil, C.flat, List.append_eq, Bool.not_true, Bool.and_true, Bool.or_false, Bool.or_self, Bool.not_false, List.append_nil, Bool.and_self, encR]) <;> rfl) : RetG σ H h' v K := ret_mk3 hN h hv hk
set_option maxRecDepth 10000 in
set_option maxHeartbeats 4000000 in
theorem cchecked (s : List UInt8) (hl : s.length ≤ 640000) (l : List Rc) (e e2 : Nat) (h1 : bgE s = e) (h2 : allB s = (l, e2)) (hA : e = 0 → l.length ≤ 1000000) (hs : e = 0 → ∀ i, i < l.length → (l.getD i default).tp.length ≤ 100000000) :
    Ctr Tryd.prog 19 [.c (.s (mkS s))] []
      fun v h => (chk e l e2 ≠ 0 ∧ v = .t [.c .nils, .c (.i .i64 (chk e l e2 : Nat))] ∧ h = []) ∨
        (e = 0 ∧ e2 = 0 ∧ okL l ∧ chk e l e2 = 0 ∧ ∃ c, v = .t [.c (.sl 0 0 3 0 l.length c), .c (.i .i64 0)] ∧ h = [.one (rcR true l c)]) := by
  have hal := callG s hl l e e2 h1 h2
  clear h1 h2
  refine Ctr.mk' tbv mixed Tryd.func19 rfl rfl rfl (fun _ _ => by kernel_rfl) (by kernel_rfl) (by rfl) (by rfl) (by (repeat' first | refine And.intro ?_ ?_ | exact xeC | fail)) ?_
  repeat' (first | (fail_if_success (with_reducible refine xstp ?_)); first | (with_reducible intro hc; (try simp only [capsP, and_true] at hc); (try exact xfC)) | ((fail_if_success (with_reducible first | refine xgon ?_ | intro _)); (conv => whnf); (fail_if_success (fail_if_success (with_reducible first | refine xstp ?_ | refine xgon ?_ | intro _)))))
  refine xcal (σ := []) (nl := []) (hal) ?_
  rintro v h' (⟨he, rfl, rfl⟩ | ⟨he, c, rfl, rfl⟩) hcaps
  · have hk : chk e l e2 = e := by unfold chk; rw [if_pos he]
    rw [hk]
    repeat' (first | (fail_if_success (with_reducible refine xstp ?_)); first | ((with_reducible refine And.intro (fun (hb : _ = true) => ?_) (fun (hb : _ = false) => ?_)) <;> replace hb := xnC hb <;> (try first | exact xfC | exact bff hb (by assumption) | exact bff (by assumption) hb)) | ((fail_if_success (with_reducible first | refine xgon ?_ | intro _)); (conv => whnf); (fail_if_success (fail_if_success (with_reducible first | refine xstp ?_ | refine xgon ?_ | intro _)))))
    exact FinK.mk ⟨[], _, _, .inl ⟨he, rfl, rfl⟩, by (repeat' first | refine And.intro ?_ ?_ | exact xeC | fail)⟩
  have hA := hA he
  have hs := hs he
  by_cases he2 : e2 = 0
  · have hk : chk e l e2 = if okL l then 0 else 2 := by unfold chk; rw [if_neg (not_not_intro he), if_neg (not_not_intro he2)]
    rw [he2]
    rw [he2] at hk
    refine xret ?_
    repeat' (first | (fail_if_success (with_reducible refine xstp ?_)); first | ((with_reducible refine And.intro (fun (hb : _ = true) => ?_) (fun (hb : _ = false) => ?_)) <;> replace hb := xnC hb <;> (try first | exact xfC | exact bff hb (by assumption) | exact bff (by assumption) hb)) | ((fail_if_success (with_reducible first | refine xgon ?_ | intro _)); (conv => whnf); (fail_if_success (fail_if_success (with_reducible first | refine xstp ?_ | refine xgon ?_ | intro _)))))
    refine LoopK.mk' {t : Nat // t ≤ l.length ∧ okL (l.take t)}
      (fun ⟨i, _⟩ => ⟨[(4, .c (.sl 0 0 3 0 l.length c)), (16, .c (.sl 0 0 3 0 l.length c)), (17, .c (.i .i64 (l.length : Nat))), (18, .c (.i .i64 (i : Nat)))], [.one (rcR true l c)]⟩) (fun t => l.length - t.1)
      ⟨⟨0, Nat.zero_le _, fun r hr => absurd hr List.not_mem_nil⟩, [0], ?_⟩ ?_
    · (repeat' first | refine And.intro ?_ ?_ | exact xeC | fail)
    rintro ⟨i, hi, hok⟩
    have e3 : 0 + ((i : Nat) : Int).toNat = i := by omega
    rcases Nat.lt_or_ge i l.length with hlt | hge
    · have h2 := hs i hlt
      have hsn : l.take (i + 1) = l.take i ++ [l.getD i default] := by rw [← List.take_append_getElem hlt, getD_at hlt]
      repeat' (first | (fail_if_success (with_reducible refine xstp ?_)); first | ((with_reducible refine And.intro (fun (hb : _ = true) => ?_) (fun (hb : _ = false) => ?_)) <;> replace hb := xnC hb <;> (try first | exact xfC | exact bff hb (by assumption) | exact bff (by assumption) hb)) | ((with_reducible refine And.intro ?_ ?_); focus exact xoC) | (with_reducible intro hc; (try simp only [capsP, and_true] at hc); (try exact xfC)) | ((fail_if_success (with_reducible first | refine xgon ?_ | intro _)); (conv => whnf); (fail_if_success (fail_if_success (with_reducible first | refine xstp ?_ | refine xgon ?_ | intro _)))))
      rw [e3]
      refine xcal (σ := []) (nl := []) (chasP2 (l.getD i default).tp inT h2 (by decide)) ?_
      rintro v h' ⟨rfl, rfl⟩ hcaps
      by_cases hcp : pfx inT (l.getD i default).tp
      · rw [decide_eq_true hcp]
        refine rH42ylJ0 ?_
        repeat' (first | (fail_if_success (with_reducible refine xstp ?_)); first | ((with_reducible refine And.intro (fun (hb : _ = true) => ?_) (fun (hb : _ = false) => ?_)) <;> replace hb := xnC hb <;> (try first | exact xfC | exact bff hb (by assumption) | exact bff (by assumption) hb)) | ((with_reducible refine OvK.fit ?_ ?_); focus exact xoC) | ((fail_if_success (with_reducible first | refine xgon ?_ | intro _)); (conv => whnf); (fail_if_success (fail_if_success (with_reducible first | refine xstp ?_ | refine xgon ?_ | intro _)))))
        refine ⟨⟨i + 1, hlt, by rw [hsn]; exact okL_snoc hok (.inl hcp)⟩, [0], by simp only; omega, ?_⟩
        (repeat' first | refine And.intro ?_ ?_ | exact xeC | fail)
      · rw [decide_eq_false hcp]
        refine rH42ylJ0 ?_
        repeat' (first | (fail_if_success (with_reducible refine xstp ?_)); first | ((with_reducible refine And.intro (fun (hb : _ = true) => ?_) (fun (hb : _ = false) => ?_)) <;> replace hb := xnC hb <;> (try first | exact xfC | exact bff hb (by assumption) | exact bff (by assumption) hb)) | ((fail_if_success (with_reducible first | refine xgon ?_ | intro _)); (conv => whnf); (fail_if_success (fail_if_success (with_reducible first | refine xstp ?_ | refine xgon ?_ | intro _)))))
        refine xcal (σ := []) (nl := []) (chasP2 (l.getD i default).tp ouT h2 (by decide)) ?_
        rintro v h' ⟨rfl, rfl⟩ hcaps
        by_cases hd : pfx ouT (l.getD i default).tp
        · rw [decide_eq_true hd]
          refine rH42ylJ0 ?_
          repeat' (first | (fail_if_success (with_reducible refine xstp ?_)); first | ((with_reducible refine And.intro (fun (hb : _ = true) => ?_) (fun (hb : _ = false) => ?_)) <;> replace hb := xnC hb <;> (try first | exact xfC | exact bff hb (by assumption) | exact bff (by assumption) hb)) | ((with_reducible refine OvK.fit ?_ ?_); focus exact xoC) | ((fail_if_success (with_reducible first | refine xgon ?_ | intro _)); (conv => whnf); (fail_if_success (fail_if_success (with_reducible first | refine xstp ?_ | refine xgon ?_ | intro _)))))
          refine ⟨⟨i + 1, hlt, by rw [hsn]; exact okL_snoc hok (.inr hd)⟩, [0], by simp only; omega, ?_⟩
          (repeat' first | refine And.intro ?_ ?_ | exact xeC | fail)
        · rw [decide_eq_false hd]
          have hk2 : chk e l 0 = 2 := by rw [hk, if_neg (okL_not hlt fun q => q.elim hcp hd)]
          rw [hk2]
          refine rH42ylJ0 ?_
          repeat' (first | (fail_if_success (with_reducible refine xstp ?_)); first | ((with_reducible refine And.intro (fun (hb : _ = true) => ?_) (fun (hb : _ = false) => ?_)) <;> replace hb := xnC hb <;> (try first | exact xfC | exact bff hb (by assumption) | exact bff (by assumption) hb)) | ((fail_if_success (with_reducible first | refine xgon ?_ | intro _)); (conv => whnf); (fail_if_success (fail_if_success (with_reducible first | refine xstp ?_ | refine xgon ?_ | intro _)))))
          exact FinK.mk ⟨[], _, _, .inl ⟨by decide, rfl, rfl⟩, by (repeat' first | refine And.intro ?_ ?_ | exact xeC | fail)⟩
    · have ek : l.take i = l := List.take_of_length_le hge
      rw [ek] at hok
      rw [if_pos hok] at hk
      repeat' (first | (fail_if_success (with_reducible refine xstp ?_)); first | ((with_reducible refine And.intro (fun (hb : _ = true) => ?_) (fun (hb : _ = false) => ?_)) <;> replace hb := xnC hb <;> (try first | exact xfC | exact bff hb (by assumption) | exact bff (by assumption) hb)) | (with_reducible intro hc; (try simp only [capsP, and_true] at hc); (try exact xfC)) | ((fail_if_success (with_reducible first | refine xgon ?_ | intro _)); (conv => whnf); (fail_if_success (fail_if_success (with_reducible first | refine xstp ?_ | refine xgon ?_ | intro _)))))
      refine FinK.mk ⟨[0], _, _, .inr ⟨he, rfl, hok, hk, c, rfl, rfl⟩, ?_⟩
      (repeat' first | refine And.intro ?_ ?_ | exact xeC | fail)
  · have hk : chk e l e2 = e2 := by unfold chk; rw [if_neg (not_not_intro he), if_pos he2]
    rw [hk]
    refine xret ?_
    repeat' (first | (fail_if_success (with_reducible refine xstp ?_)); first | ((with_reducible refine And.intro (fun (hb : _ = true) => ?_) (fun (hb : _ = false) => ?_)) <;> replace hb := xnC hb <;> (try first | exact xfC | exact bff hb (by assumption) | exact bff (by assumption) hb)) | ((fail_if_success (with_reducible first | refine xgon ?_ | intro _)); (conv => whnf); (fail_if_success (fail_if_success (with_reducible first | refine xstp ?_ | refine xgon ?_ | intro _)))))
    exact FinK.mk ⟨[], _, _, .inl ⟨he2, rfl, rfl⟩, by (repeat' first | refine And.intro ?_ ?_ | exact xeC | fail)⟩
end Go.Proofs.YtenompgpjlbelaaDoor


namespace Go.Proofs.YtenompgpjlbelaaDoor
open Go.X
set_option linter.unusedVariables false
/-- What is left to compare: the machine, the outputs that are due, the number of records that agree. -/
def rpl : Mc → List Rc → Nat → List Rc → Nat × Nat
  | _, D, i, [] => (i, if D.length = 0 then 0 else 24)
  | M, D, i, r :: l =>
    if pfx inT r.tp then (if D.length = 0 then rpl (stM M (recU r)) ((outM (stM M (recU r))).map (recO r.at_)) (i + 1) l else (i, 24))
    else (if 0 < D.length ∧ D.getD 0 default = r then rpl M D.tail (i + 1) l else (i, 24))
theorem rpl_end {M : Mc} {D l : List Rc} {i : Nat} (h : l.length ≤ i) : rpl M D i (l.drop i) = (i, if D.length = 0 then 0 else 24) := by
  rw [List.drop_of_length_le h, rpl]
theorem rpl_in {M : Mc} {D l : List Rc} {i : Nat} (h : i < l.length) (hp : pfx inT (l.getD i default).tp) (hD : D.length = 0) :
    rpl M D i (l.drop i) = rpl (stM M (recU (l.getD i default))) ((outM (stM M (recU (l.getD i default)))).map (recO (l.getD i default).at_)) (i + 1) (l.drop (i + 1)) := by
  rw [drop_consG l h, rpl, if_pos hp, if_pos hD]
theorem rpl_inN {M : Mc} {D l : List Rc} {i : Nat} (h : i < l.length) (hp : pfx inT (l.getD i default).tp) (hD : D.length ≠ 0) :
    rpl M D i (l.drop i) = (i, 24) := by
  rw [drop_consG l h, rpl, if_pos hp, if_neg hD]
theorem rpl_out {M : Mc} {D l : List Rc} {i : Nat} (h : i < l.length) (hp : ¬ pfx inT (l.getD i default).tp) (hD : 0 < D.length) (he : D.getD 0 default = l.getD i default) :
    rpl M D i (l.drop i) = rpl M D.tail (i + 1) (l.drop (i + 1)) := by
  rw [drop_consG l h, rpl, if_neg hp, if_pos ⟨hD, he⟩]
theorem rpl_outN {M : Mc} {D l : List Rc} {i : Nat} (h : i < l.length) (hp : ¬ pfx inT (l.getD i default).tp) (hq : ¬ (0 < D.length ∧ D.getD 0 default = l.getD i default)) :
    rpl M D i (l.drop i) = (i, 24) := by
  rw [drop_consG l h, rpl, if_neg hp, if_neg hq]
/-- The elements that a slice of a row shows. -/
def sd (G : List Rc) (o n : Nat) : List Rc := (G.drop o).take n
theorem sd_len {G : List Rc} {o n : Nat} (h : o + n ≤ G.length) : (sd G o n).length = n := by unfold sd; rw [List.length_take, List.length_drop]; omega
theorem sd_get {G : List Rc} {o n i : Nat} (hi : i < n) : (sd G o n).getD i default = G.getD (o + i) default := by
  unfold sd
  simp only [List.getD, List.getElem?_take, List.getElem?_drop, if_pos hi]
theorem sd_all (G : List Rc) : sd G 0 G.length = G := by unfold sd; rw [List.drop_zero, List.take_length]
theorem sd_zero (G : List Rc) (o : Nat) : sd G o 0 = [] := List.take_zero
theorem sd_tail {G : List Rc} {o n k : Nat} (h : o + n ≤ G.length) (hn : 0 < n) (hk : n ≤ k) : (sd G o n).tail = sd G (if k = 1 then o else o + 1) (n - 1) := by
  split
  · obtain rfl : n = 1 := by omega
    have := sd_len (G := G) h
    rw [sd_zero]
    apply List.eq_nil_of_length_eq_zero
    rw [List.length_tail, this]
  · obtain ⟨j, rfl⟩ : ∃ j, n = j + 1 := ⟨n - 1, by omega⟩
    unfold sd
    rw [drop_consG G (show o < G.length by omega), List.take_succ_cons, List.tail_cons]
    rfl
/-! ### A recording is reproduced -/
theorem pfx_in (t : List UInt8) : pfx inT (inT ++ t) := by unfold pfx; rw [List.take_left' rfl]
theorem pfx_ou (t : List UInt8) : pfx ouT (ouT ++ t) := by unfold pfx; rw [List.take_left' rfl]
theorem pfx_inou (t : List UInt8) : ¬ pfx inT (ouT ++ t) := by
  unfold pfx
  intro h
  have e : (ouT ++ t).take inT.length = [111, 117, 116] := rfl
  rw [e] at h
  exact absurd h (by decide)
theorem recU_I (r : Rc) : recU (recI r) = r := by
  unfold recU recI cutP
  rw [if_pos (pfx_in r.tp), List.drop_left' rfl]
theorem rec1_ok (M : Mc) (r : Rc) : okL (rec1 M r) := by
  intro q hq
  unfold rec1 at hq
  rcases List.mem_cons.1 hq with rfl | hq
  · exact .inl (pfx_in _)
  · obtain ⟨y, _, rfl⟩ := List.mem_map.1 hq
    exact .inr (pfx_ou _)
theorem recM_ok : ∀ (M : Mc) (l : List Rc), okL (recM M l)
  | _, [] => fun r hr => absurd hr List.not_mem_nil
  | M, r :: l => fun q hq => by
    rcases List.mem_append.1 hq with h | h
    · exact rec1_ok M r q h
    · exact recM_ok _ l q h
theorem rpl_due (M : Mc) (t : Int) : ∀ (Y : List (List UInt8 × List UInt8)) (i : Nat) (l : List Rc), rpl M (Y.map (recO t)) i (Y.map (recO t) ++ l) = rpl M [] (i + Y.length) l
  | [], i, l => rfl
  | y :: Y, i, l => by
    rw [List.map_cons, List.cons_append, rpl, if_neg (show ¬ pfx inT (recO t y).tp from pfx_inou _), if_pos ⟨Nat.zero_lt_succ _, rfl⟩, List.tail_cons, rpl_due M t Y (i + 1) l, List.length_cons]
    congr 1
    omega
theorem rpl_rec : ∀ (M : Mc) (i : Nat) (l : List Rc), rpl M [] i (recM M l) = (i + (recM M l).length, 0)
  | M, i, [] => rfl
  | M, i, r :: l => by
    have e : recM M (r :: l) = recI r :: ((outM (stM M r)).map (recO r.at_) ++ recM (stM M r) l) := rfl
    rw [e, rpl, if_pos (show pfx inT (recI r).tp from pfx_in _), if_pos (List.length_nil), recU_I, show (recI r).at_ = r.at_ from rfl, rpl_due, rpl_rec]
    simp only [List.length_cons, List.length_append, List.length_map]
    congr 1
    omega
end Go.Proofs.YtenompgpjlbelaaDoor


namespace Go.Proofs.YtenompgpjlbelaaDoor
open Go.X
set_option linter.unusedSimpArgs false
set_option linter.unusedVariables false
open P4
open P5
theorem rc_eq {x y : Rc} (h1 : x.at_ = y.at_) (h2 : mkS x.tp = mkS y.tp) (h3 : mkS x.pl = mkS y.pl) : x = y := by
  have h2 := mkS_inj.1 h2
  have h3 := mkS_inj.1 h3
  cases x
  cases y
  simp only at h1 h2 h3
  rw [h1, h2, h3]
end Go.Proofs.YtenompgpjlbelaaDoor


namespace Go.Proofs.YtenompgpjlbelaaDoor
open Go.X
set_option linter.unusedSimpArgs false
set_option linter.unusedVariables false
open P4
open P5
/-- What Replay answers of a recording: its records l, the errors e of the bag and e2 of its reading. -/
def rplS (m : Mc) (e : Nat) (l : List Rc) (e2 : Nat) : Nat × Nat := if chk e l e2 ≠ 0 then (0, chk e l e2) else rpl m [] 0 l
theorem rH42ylM0 {σ : List Sg} {H h' : List Fam} {v : T} {K : T → List Fam → Prop} {H' : List Fam} {v' : T} {N : Nat} (hk : K v' H') (hN : H.length = N := by (try simp only [↓List.length_cons, ↓List.length_nil, Nat.reduceAdd]) <;> rfl) (h : givesF σ N H σ h' = some H' := by (try simp (maxSteps := 1000000) only [givesF, setF, updF, Fam.zeroth, Fam.rk, Ck.rk, C.rk, E.rk, T.rk, key, List.map_cons, List.map_nil, List.cons_append, List.nil_append, List.length_cons, List.length_nil, Option.map_some, Option.bind_some, Nat.reduceAdd, Nat.zero_add, Nat.add_zero, Nat.add_sub_cancel_left, Int.toNat_natCast, reps, List.all_cons, List.all_nil, C.flat, List.append_eq, Bool.not_true, Bool.and_true, Bool.or_false, Bool.or_self, Bool.not_false, List.append_nil, Bool.and_self, encR]) <;> rfl) (hv : v.rk σ N = v' := by (try simp only [givesF, setF, updF, Fam.zeroth, Fam.rk, Ck.rk, C.rk, E.rk, T.rk, key, List.map_cons, List.map_nil, List.cons_append, List.nil_append, List.length_cons, List.length_nil, Option.map_some, Option.bind_some, Nat.reduceAdd, Nat.zero_add, Nat.add_zero, Nat.add_sub_cancel_left, Int.toNat_natCast, reps, List.all_cons, List.all_nil, C.flat, List.append_eq, Bool.not_true, Bool.and_true, Bool.or_false, Bool.or_self, Bool.not_false, List.append_nil, Bool.and_self, encR]) <;> rfl) : RetG σ H h' v K := ret_mk3 hN h hv hk
set_option maxRecDepth 10000 in
set_option maxHeartbeats 16000000 in
theorem creplay (m : Mc) (s : List UInt8) (hls : s.length ≤ 640000) (l : List Rc) (e e2 : Nat) (h1 : bgE s = e) (h2 : allB s = (l, e2)) (hst : m.st < 1009) (hct : m.ct ≤ 100000) (hl : e = 0 → shortL l) :
    Ctr Tryd.prog 10 [.c (.ifp 29 0 0 0), .c (.s (mkS s))] [.one (mch m)]
      fun v h => ∃ m', v = .t [.c (.i .i64 ((rplS m e l e2).1 : Nat)), .c (.i .i64 ((rplS m e l e2).2 : Nat))] ∧ h = [.one (mch m')] := by
  have hck := cchecked s hls l e e2 h1 h2 (fun q => by have := (hl q).1; omega) (fun q i hi => by have := ((hl q).2 i hi).2; omega)
  clear h1 h2
  refine Ctr.mk' tbv mixed Tryd.func10 rfl rfl rfl (fun _ _ => by kernel_rfl) (by kernel_rfl) (by rfl) (by rfl) (by (repeat' first | refine And.intro ?_ ?_ | exact xeC | fail)) ?_
  repeat' (first | (fail_if_success (with_reducible refine xstp ?_)); first | (with_reducible intro hc; (try simp only [capsP, and_true] at hc); (try exact xfC)) | ((fail_if_success (with_reducible first | refine xgon ?_ | intro _)); (conv => whnf); (fail_if_success (fail_if_success (with_reducible first | refine xstp ?_ | refine xgon ?_ | intro _)))))
  refine xcal (σ := []) (nl := []) (hck) ?_
  rintro v h' (⟨he, rfl, rfl⟩ | ⟨he, he2, hok, hk, c, rfl, rfl⟩) hcaps
  · have hr : rplS m e l e2 = (0, chk e l e2) := by unfold rplS; rw [if_pos he]
    rw [hr]
    generalize chk e l e2 = q at *
    refine xret ?_
    repeat' (first | (fail_if_success (with_reducible refine xstp ?_)); first | ((with_reducible refine And.intro (fun (hb : _ = true) => ?_) (fun (hb : _ = false) => ?_)) <;> replace hb := xnC hb <;> (try first | exact xfC | exact bff hb (by assumption) | exact bff (by assumption) hb)) | ((fail_if_success (with_reducible first | refine xgon ?_ | intro _)); (conv => whnf); (fail_if_success (fail_if_success (with_reducible first | refine xstp ?_ | refine xgon ?_ | intro _)))))
    refine FinK.mk ⟨[0], _, _, ⟨m, rfl, rfl⟩, ?_⟩
    (repeat' first | refine And.intro ?_ ?_ | exact xeC | fail)
  have hl := hl he
  have hll := hl.1
  have hr : rplS m e l e2 = rpl m [] 0 (l.drop 0) := by unfold rplS; rw [if_neg (not_not_intro hk), List.drop_zero]
  rw [hr]
  clear hr hk hck
  generalize hZ : rpl m [] 0 (l.drop 0) = Z
  refine xret ?_
  repeat' (first | (fail_if_success (with_reducible refine xstp ?_)); first | ((with_reducible refine And.intro (fun (hb : _ = true) => ?_) (fun (hb : _ = false) => ?_)) <;> replace hb := xnC hb <;> (try first | exact xfC | exact bff hb (by assumption) | exact bff (by assumption) hb)) | ((fail_if_success (with_reducible first | refine xgon ?_ | intro _)); (conv => whnf); (fail_if_success (fail_if_success (with_reducible first | refine xstp ?_ | refine xgon ?_ | intro _)))))
  refine LoopK.mk' {t : Nat × Mc × List Rc × Nat × Nat × Nat × Nat // t.1 ≤ l.length ∧ rpl t.2.1 (sd t.2.2.1 t.2.2.2.1 t.2.2.2.2.1) t.1 (l.drop t.1) = Z ∧ (t.2.2.2.1 + t.2.2.2.2.1 ≤ t.2.2.1.length ∧ t.2.2.2.2.1 ≤ t.2.2.2.2.2.1 ∧ t.2.2.2.1 + t.2.2.2.2.2.1 ≤ t.2.2.2.2.2.2 ∧ t.2.2.1.length ≤ 3) ∧ t.2.1.st < 1009 ∧ t.2.1.ct ≤ 100000 + t.1}
    (fun ⟨(i, M, G, o, n, k, cc), _⟩ => ⟨[(0, .c (.ifp 29 0 0 0)), (6, .c (.sl 1 0 3 0 l.length c)), (8, .c (.sl 2 0 3 o n k)), (23, .c (.sl 1 0 3 0 l.length c)), (24, .c (.i .i64 (l.length : Nat))), (25, .c (.i .i64 (i : Nat)))], [.one (mch M), .one (rcR true l c), .one (rcR true G cc)]⟩) (fun t => l.length - t.1.1)
    ⟨⟨(0, m, [], 0, 0, 0, 0), Nat.zero_le _, hZ, ⟨Nat.le_refl _, Nat.le_refl _, Nat.le_refl _, Nat.zero_le _⟩, hst, hct⟩, [0, 1, 99], ?_⟩ ?_
  · (repeat' first | refine And.intro ?_ ?_ | exact xeC | fail)
    all_goals first | (intro i hi; exact absurd hi (Nat.not_lt_zero i)) | skip
  rintro ⟨⟨i, M, G, o, n, k, cc⟩, hi, hz, ⟨ho, hnk, hkc, hG⟩, hMs, hMc⟩
  simp only at hi hz ho hnk hkc hG hMs hMc
  have hDl := sd_len ho
  have e3 : 0 + ((i : Nat) : Int).toNat = i := by omega
  rcases Nat.lt_or_ge i l.length with hlt | hge
  · obtain ⟨h1, h2⟩ := hl.2 i hlt
    repeat' (first | (fail_if_success (with_reducible refine xstp ?_)); first | ((with_reducible refine And.intro (fun (hb : _ = true) => ?_) (fun (hb : _ = false) => ?_)) <;> replace hb := xnC hb <;> (try first | exact xfC | exact bff hb (by assumption) | exact bff (by assumption) hb)) | ((with_reducible refine And.intro ?_ ?_); focus exact xoC) | (with_reducible intro hc; (try simp only [capsP, and_true] at hc); (try exact xfC)) | ((fail_if_success (with_reducible first | refine xgon ?_ | intro _)); (conv => whnf); (fail_if_success (fail_if_success (with_reducible first | refine xstp ?_ | refine xgon ?_ | intro _)))))
    rw [e3]
    refine xcal (σ := []) (nl := []) (cinput (l.getD i default) (by omega) (by omega)) ?_
    rintro v h' ⟨rfl, rfl⟩ hcaps
    by_cases hcp : pfx inT (l.getD i default).tp
    · rw [decide_eq_true hcp]
      have hn := rpl_in (M := M) hlt hcp (D := sd G o n)
      refine rH42ylM0 ?_
      repeat' (first | (fail_if_success (with_reducible refine xstp ?_)); first | ((with_reducible refine And.intro (fun (hb : _ = true) => ?_) (fun (hb : _ = false) => ?_)) <;> replace hb := xnC hb <;> (try first | exact xfC | exact bff hb (by assumption) | exact bff (by assumption) hb)) | ((fail_if_success (with_reducible first | refine xgon ?_ | intro _)); (conv => whnf); (fail_if_success (fail_if_success (with_reducible first | refine xstp ?_ | refine xgon ?_ | intro _)))))
      · have h0 : n ≠ 0 := by
          intro q
          subst q
          exact absurd hb (by decide)
        have e : Z = (i, 24) := by rw [← hz]; exact rpl_inN hlt hcp (by omega)
        rw [e]
        refine FinK.mk ⟨[0], _, _, ⟨M, rfl, rfl⟩, ?_⟩
        (repeat' first | refine And.intro ?_ ?_ | exact xeC | fail)
      rename_i qa qb
      have h0 : n = 0 := by
        rcases Nat.eq_zero_or_pos n with q | q
        · exact q
        · rw [decide_eq_false (by omega)] at qa
          exact absurd qa (by decide)
      have hn := hn (by omega)
      rw [hz] at hn
      generalize hx : l.getD i default = x at *
      have hxu : (recU x).tp.length ≤ 100000 := by
        show (cutP inT x.tp).length ≤ 100000
        unfold cutP
        rw [if_pos hcp, List.length_drop]
        omega
      refine xcal (σ := [.whole 0]) (nl := []) (crecorded M (recU x) hMs (by omega) (by show x.pl.length ≤ 1000000; omega) (by omega)) ?_
      have hM2 : (stM M (recU x)).st < 1009 := Nat.mod_lt _ (by decide)
      have hM3 : (stM M (recU x)).ct = M.ct + 1 := rfl
      have hM4 : (recU x).at_ = x.at_ := rfl
      rw [hM4]
      have hYl := out_len (stM M (recU x))
      generalize stM M (recU x) = M2 at *
      have hY2 : ((outM M2).map (recO x.at_)).length ≤ 3 := by rw [List.length_map, hYl]; omega
      generalize (outM M2).map (recO x.at_) = Y at *
      rintro v h' ⟨cy, rfl, rfl⟩ hcaps
      have hcy : Y.length ≤ cy := by simp only [capsP, and_true] at hcaps; omega
      refine rH42ylM0 ?_
      repeat' (first | (fail_if_success (with_reducible refine xstp ?_)); first | ((with_reducible refine OvK.fit ?_ ?_); focus exact xoC) | ((fail_if_success (with_reducible first | refine xgon ?_ | intro _)); (conv => whnf); (fail_if_success (fail_if_success (with_reducible first | refine xstp ?_ | refine xgon ?_ | intro _)))))
      refine ⟨⟨(i + 1, M2, Y, 0, Y.length, cy, cy), hlt, by simp only; rw [sd_all]; exact hn.symm, ⟨by simp only; omega, by simp only; omega, by simp only; omega, hY2⟩, hM2, by simp only; omega⟩, [0, 1, 5], by simp only; omega, ?_⟩
      (repeat' first | refine And.intro ?_ ?_ | exact xeC | fail)
      all_goals trace_state
    · rw [decide_eq_false hcp]
      refine rH42ylM0 ?_
      repeat' (first | (fail_if_success (with_reducible refine xstp ?_)); first | ((with_reducible refine And.intro (fun (hb : _ = true) => ?_) (fun (hb : _ = false) => ?_)) <;> replace hb := xnC hb <;> (try first | exact xfC | exact bff hb (by assumption) | exact bff (by assumption) hb)) | ((with_reducible refine And.intro ?_ ?_); focus exact xoC) | ((fail_if_success (with_reducible first | refine xgon ?_ | intro _)); (conv => whnf); (fail_if_success (fail_if_success (with_reducible first | refine xstp ?_ | refine xgon ?_ | intro _)))))
      · have h0 : n = 0 := by
          rcases Nat.eq_zero_or_pos n with q | q
          · exact q
          · rw [decide_eq_false (by omega)] at hb
            exact absurd hb (by decide)
        have e : Z = (i, 24) := by rw [← hz]; exact rpl_outN hlt hcp (fun q => by omega)
        rw [e]
        refine FinK.mk ⟨[0], _, _, ⟨M, rfl, rfl⟩, ?_⟩
        (repeat' first | refine And.intro ?_ ?_ | exact xeC | fail)
      rename_i qa
      have h0 : n ≠ 0 := by
        intro q
        subst q
        exact absurd qa (by decide)
      refine ⟨⟨by omega, by omega, by show o + 0 < _; omega⟩, ?_⟩
      repeat' (first | (fail_if_success (with_reducible refine xstp ?_)); first | ((with_reducible refine And.intro (fun (hb : _ = true) => ?_) (fun (hb : _ = false) => ?_)) <;> replace hb := xnC hb <;> (try first | exact xfC | exact bff hb (by assumption) | exact bff (by assumption) hb)) | ((with_reducible refine And.intro ?_ ?_); focus exact xoC) | ((with_reducible refine OvK.fit ?_ ?_); focus exact xoC) | ((fail_if_success (with_reducible first | refine xgon ?_ | intro _)); (conv => whnf); (fail_if_success (fail_if_success (with_reducible first | refine xstp ?_ | refine xgon ?_ | intro _)))))
      · have e : Z = (i, 24) := by
          rw [← hz]
          refine rpl_outN hlt hcp fun q => ?_
          have q2 := q.2
          rw [sd_get (by omega)] at q2
          rw [show o + Int.toNat 0 = o + 0 from rfl, q2] at hb
          exact hb.elim (fun q => q rfl) fun q => q.elim (fun q => q rfl) fun q => q rfl
        rw [e]
        refine FinK.mk ⟨[0], _, _, ⟨M, rfl, rfl⟩, ?_⟩
        (repeat' first | refine And.intro ?_ ?_ | exact xeC | fail)
      · rename_i hq
        have hn := rpl_out (M := M) hlt hcp (D := sd G o n) (by omega) (by rw [sd_get (by omega)]; exact rc_eq hq.1 hq.2.1 hq.2.2)
        rw [hz, sd_tail ho (by omega) hnk] at hn
        refine ⟨⟨(i + 1, M, G, if k = 1 then o else o + 1, n - 1, k - 1, cc), hlt, hn.symm, ⟨by simp only; split <;> omega, by simp only; omega, by simp only; split <;> omega, hG⟩, hMs, by simp only; omega⟩, [0, 1, 2], by simp only; omega, ?_⟩
        (repeat' first | refine And.intro ?_ ?_ | exact xeC | fail)
        all_goals trace_state
  · rw [rpl_end hge] at hz
    obtain rfl : i = l.length := by omega
    repeat' (first | (fail_if_success (with_reducible refine xstp ?_)); first | ((with_reducible refine And.intro (fun (hb : _ = true) => ?_) (fun (hb : _ = false) => ?_)) <;> replace hb := xnC hb <;> (try first | exact xfC | exact bff hb (by assumption) | exact bff (by assumption) hb)) | (with_reducible intro hc; (try simp only [capsP, and_true] at hc); (try exact xfC)) | ((fail_if_success (with_reducible first | refine xgon ?_ | intro _)); (conv => whnf); (fail_if_success (fail_if_success (with_reducible first | refine xstp ?_ | refine xgon ?_ | intro _)))))
    · rw [if_neg (by omega)] at hz
      rw [← hz]
      refine FinK.mk ⟨[0], _, _, ⟨M, rfl, rfl⟩, ?_⟩
      (repeat' first | refine And.intro ?_ ?_ | exact xeC | fail)
    · rw [if_pos (by omega)] at hz
      rw [← hz]
      refine FinK.mk ⟨[0], _, _, ⟨M, rfl, rfl⟩, ?_⟩
      (repeat' first | refine And.intro ?_ ?_ | exact xeC | fail)
end Go.Proofs.YtenompgpjlbelaaDoor


namespace Go.Proofs.YtenompgpjlbelaaDoor
open Go.X
open P4
open P5
abbrev rem (s : ByteArray) (a : Nat) : List UInt8 := s.data.toList.drop a
theorem rem_step {s : ByteArray} {a k : Nat} {x r : List UInt8} (h : rem s a = x ++ r) (hk : k = x.length) : rem s (a + k) = r := by
  subst hk
  unfold rem at *
  rw [← List.drop_drop, h, List.drop_append_of_le_length (Nat.le_refl _), List.drop_of_length_le (Nat.le_refl _), List.nil_append]
theorem rdU_fw {s : ByteArray} {a n : Nat} {r : List UInt8} (hn : n < 18446744073709551616) (h : rem s a = venc n ++ r) : ∃ a', rdU s a 0 = (n, a', 0) ∧ rem s a' = r := by
  refine ⟨a + (venc n).length, ?_, rem_step h rfl⟩
  rw [rdU, if_pos rfl]
  unfold rem at h
  rw [h, vdec_enc n r hn]
theorem rdS_fw {s : ByteArray} {a n : Nat} {r : List UInt8} {m : Int} (hn : n < 18446744073709551616) (hm : (n : Int) ≤ m) (h : rem s a = venc n ++ r) : ∃ a', rdS s a 0 m = (n, a', 0) ∧ rem s a' = r := by
  refine ⟨a + (venc n).length, ?_, rem_step h rfl⟩
  rw [rdS_U, rdU, if_pos rfl]
  unfold rem at h
  rw [h, vdec_enc n r hn, if_pos rfl, if_neg (by simp only; omega)]
theorem rdA_fw {s : ByteArray} {a n : Nat} {r : List UInt8} (hn : n ≤ 1099511627776) (h : rem s a = venc n ++ r) : ∃ a', rdAt s a 0 = (n, a', 0) ∧ rem s a' = r := rdS_fw (by omega) (by omega) h
theorem rdT_fw {s : ByteArray} {a : Nat} {x r : List UInt8} {m : Int} (hn : x.length < 18446744073709551616) (hm : (x.length : Int) ≤ m) (h : rem s a = textL x ++ r) : ∃ a', rdT s a 0 m = (x, a', 0) ∧ rem s a' = r := by
  have h1 : rem s a = venc x.length ++ (x ++ r) := by rw [h, textL, List.append_assoc]
  have h2 : rem s (a + (venc x.length).length) = x ++ r := rem_step h1 rfl
  refine ⟨a + (textL x).length, ?_, rem_step h rfl⟩
  have h3 := congrArg List.length h2
  unfold rem at h1 h2 h3
  rw [List.length_drop, size_len, List.length_append] at h3
  rw [rdT_U, rdU, if_pos rfl, h1, vdec_enc _ _ hn, if_pos rfl, if_neg (by simp only; omega), if_neg (by simp only; omega)]
  simp only [h2, List.take_append_of_le_length (Nat.le_refl _), List.take_length, textL, List.length_append, Nat.add_assoc]
theorem endV_fw {s : ByteArray} {a : Nat} (h : rem s a = []) : endV s a 0 = 0 := by
  have h1 := congrArg List.length h
  unfold rem at h1
  rw [List.length_drop, size_len, List.length_nil] at h1
  unfold endV
  rw [if_pos rfl, if_neg (by omega)]
theorem open_seal (b : List UInt8) : openL (sealL b) = (b, 0) := by
  have h : (sealL b).drop 4 = b := by
    unfold sealL
    rw [List.drop_append_of_le_length (by rw [le_length]; exact Nat.le_refl _), List.drop_of_length_le (by rw [le_length]; exact Nat.le_refl _), List.nil_append]
  have h4 : ¬ (sealL b).length < 4 := by
    unfold sealL
    rw [List.length_append, le_length]
    omega
  unfold openL
  rw [if_neg h4, h, if_pos rfl]
theorem venc_pos {n : Nat} (h : n < 18446744073709551616) : 1 ≤ (venc n).length := by
  have h1 := vdec_ok (l := venc n ++ []) (vdec_enc n [] h)
  exact h1.2.2.2.2
theorem rem_mk (l : List UInt8) : rem (mkS l) 0 = l := by unfold rem; rw [List.drop_zero]
theorem rem_len {s : ByteArray} {a : Nat} {l : List UInt8} (h : rem s a = l) : s.size - a = l.length := by
  have h1 := congrArg List.length h
  unfold rem at h1
  rw [List.length_drop, size_len] at h1
  exact h1
/-! ### Records -/
/-- Records that may stand in a chunk behind a time. -/
def Asc : Int → List Rc → Prop
  | _, [] => True
  | la, r :: l => okR r ∧ la ≤ r.at_ ∧ Asc r.at_ l
theorem recB_pos {r : Rc} (h : okR r) : 1 ≤ (recB r).length := by
  have := venc_pos (n := r.at_.toNat) (by have := h.2.1; omega)
  unfold recB
  simp only [List.length_append]
  omega
theorem recP_fw {s : ByteArray} : ∀ (l : List Rc) (a : Nat) (la : Int), Asc la l → a ≤ s.size → rem s a = recsB l → recP s a la = some l
  | [], a, la, _, ha, h => recP_end (by have h1 : s.size - a = 0 := rem_len h; omega)
  | r :: l, a, la, hl, ha, h => by
    obtain ⟨ho, hla, ht⟩ := hl
    have hc : recsB (r :: l) = venc r.at_.toNat ++ (textL r.tp ++ (textL r.pl ++ recsB l)) := by
      simp [recsB, recB]
    have hlen := rem_len h
    have hp := recB_pos ho
    have hl2 : (recsB (r :: l)).length = (recB r).length + (recsB l).length := by simp [recsB]
    have h2 := ho.2.1
    have h3 := ho.2.2
    have h4 := ho.1.1
    obtain ⟨b, e1, h1⟩ := rdA_fw (by omega) (h.trans hc)
    obtain ⟨c, e2, h5⟩ := rdT_fw (m := 40) (by omega) (by omega) h1
    obtain ⟨d, e3, h6⟩ := rdT_fw (m := 4000) (by omega) (by omega) h5
    have e2' : rdTp s a 0 = (r.tp, c, 0) := by unfold rdTp; rw [e1]; exact e2
    have e3' : rdPl s a 0 = (r.pl, d, 0) := by unfold rdPl; rw [e2']; exact e3
    have hn : ((r.at_.toNat : Nat) : Int) = r.at_ := Int.toNat_of_nonneg h2.1
    have hok : okN s a la := by
      refine ⟨by rw [e3'], by rw [e2']; exact ho.1, by rw [e1]; simp only; omega⟩
    have hm := rdPl_mono (s := s) (a := a) (e := 0) ha
    rw [recP_go (by omega) hok]
    rw [e3'] at hm ⊢
    rw [e1]
    simp only at hm ⊢
    rw [hn, recP_fw l d r.at_ ht hm.2.1 h6]
    unfold rdRec
    rw [e1, e2', e3']
    simp only [hn, Option.map_some]
theorem recL_fw {l : List Rc} (h : Asc 0 l) : recL (mkS (conB l)) = l := by
  obtain ⟨a, e1, h1⟩ := rdU_fw (n := 1) (by decide) (rem_mk (conB l))
  have hle := (rdU_le (s := mkS (conB l)) (a := 0) (e := 0) (Nat.zero_le _)).1
  rw [e1] at hle
  unfold recL
  rw [e1, if_pos ⟨rfl, rfl⟩, recP_fw l a 0 h hle h1]
  rfl
theorem exaL_fw {c : List UInt8} (h : c.length ≤ 1000000000) : exaL (textL (sealL c)) = (c, 0) := by
  have hs := sealL_len c
  have ht : (sealL c).length ≤ (textL (sealL c)).length := by unfold textL; rw [List.length_append]; omega
  obtain ⟨a, e1, h1⟩ := rdT_fw (m := ((textL (sealL c)).length : Nat)) (x := sealL c) (r := []) (by omega) (by omega) (by rw [rem_mk, List.append_nil])
  unfold exaL
  rw [e1]
  simp only
  rw [endV_fw h1, if_pos rfl, open_seal]
/-! ### Entries -/
def entO (off : Nat) (x : List Rc) : En := ⟨off, (x.getD 0 default).at_.toNat, (x.getD (x.length - 1) default).at_.toNat, tal x⟩
def entsO : Nat → List (List Rc) → List En
  | _, [] => []
  | off, x :: L => entO off x :: entsO (off + (secB x).length) L
theorem entsO_len : ∀ (L : List (List Rc)) (off : Nat), (entsO off L).length = L.length
  | [], _ => rfl
  | _ :: L, off => by rw [entsO, List.length_cons, List.length_cons, entsO_len L]
theorem entsO_at : ∀ (L : List (List Rc)) (off k : Nat), k < L.length → (entsO off L).getD k default = entO (off + (secsB (L.take k)).length) (L.getD k default)
  | [], _, k, h => absurd h (Nat.not_lt_zero k)
  | x :: L, off, 0, _ => by simp [entsO, secsB]
  | x :: L, off, k + 1, h => by
    have := entsO_at L (off + (secB x).length) k (by simpa using h)
    rw [entsO, List.getD_cons_succ, this, List.take_succ_cons, List.getD_cons_succ]
    congr 1
    simp only [secsB, List.flatMap_cons, List.length_append]
    omega
theorem tlN_fw {s : ByteArray} : ∀ (U : List Tl) (a : Nat) (r : List UInt8), (∀ t ∈ U, t.1.length ≤ 40 ∧ t.2 ≤ 1099511627776) → rem s a = tlB U ++ r → ∃ a', tlN s U.length a 0 = (U, a', 0) ∧ rem s a' = r
  | [], a, r, _, h => ⟨a, rfl, by simpa [tlB] using h⟩
  | t :: U, a, r, hU, h => by
    have ht := hU t (List.mem_cons_self ..)
    have hc : tlB (t :: U) ++ r = textL t.1 ++ (venc t.2 ++ (tlB U ++ r)) := by simp [tlB]
    obtain ⟨b, e1, h1⟩ := rdT_fw (m := 40) (by omega) (by omega) (h.trans hc)
    obtain ⟨c, e2, h2⟩ := rdA_fw (by omega) h1
    obtain ⟨d, e3, h3⟩ := tlN_fw U c r (fun x hx => hU x (List.mem_cons_of_mem _ hx)) h2
    refine ⟨d, ?_, h3⟩
    rw [List.length_cons, tlN, if_pos rfl, e1]
    simp only
    rw [e2]
    simp only
    rw [e3]
/-- A chunk of some records that may be written. -/
def okX (x : List Rc) : Prop := 0 < x.length ∧ x.length ≤ 50000 ∧ ∀ q ∈ x, okR q
theorem okX_at {x : List Rc} (h : okX x) {k : Nat} (hk : k < x.length) : okR (x.getD k default) := h.2.2 _ (by rw [getD_at hk]; exact List.getElem_mem _)
theorem tal_ok {x : List Rc} (h : okX x) : ∀ t ∈ tal x, t.1.length ≤ 40 ∧ t.2 ≤ 1099511627776 := fun t ht => by
  obtain ⟨r, hr, e⟩ := List.mem_map.1 (((tal_inv x).2.1 t.1).1 (List.mem_map.2 ⟨t, ht, rfl⟩))
  have h1 := (h.2.2 r hr).1.1.2
  have h2 := tal_cnt ht
  have h3 := h.2.1
  exact ⟨by rw [← e]; exact h1, by omega⟩
theorem enN_fw {s : ByteArray} : ∀ (L : List (List Rc)) (off a : Nat) (r : List UInt8), (∀ x ∈ L, okX x) → off + (secsB L).length ≤ 1099511627776 → rem s a = idxB off L ++ r → ∃ a', enN s L.length a 0 = (entsO off L, a', 0) ∧ rem s a' = r
  | [], off, a, r, _, _, h => ⟨a, rfl, by simpa [idxB] using h⟩
  | x :: L, off, a, r, hL, ho, h => by
    have hx := hL x (List.mem_cons_self ..)
    have hx0 := hx.1
    have h0 := (okX_at hx hx0).2.1
    have hl := (okX_at hx (k := x.length - 1) (by omega)).2.1
    have hso : (secsB (x :: L)).length = (secB x).length + (secsB L).length := by simp [secsB]
    have hT := tal_le x
    have hxl := hx.2.1
    have hc : idxB off (x :: L) ++ r = venc off ++ (venc (x.getD 0 default).at_.toNat ++ (venc (x.getD (x.length - 1) default).at_.toNat ++ (venc (tal x).length ++ (tlB (tal x) ++ (idxB (off + (secB x).length) L ++ r))))) := by
      simp only [idxB, idxE, desB, List.append_assoc]
    obtain ⟨a1, e1, h1⟩ := rdA_fw (by omega) (h.trans hc)
    obtain ⟨a2, e2, h2⟩ := rdA_fw (by omega) h1
    obtain ⟨a3, e3, h3⟩ := rdA_fw (by omega) h2
    obtain ⟨a4, e4, h4⟩ := rdA_fw (by omega) h3
    obtain ⟨a5, e5, h5⟩ := tlN_fw (tal x) a4 _ (tal_ok hx) h4
    obtain ⟨a6, e6, h6⟩ := enN_fw L (off + (secB x).length) a5 r (fun y hy => hL y (List.mem_cons_of_mem _ hy)) (by omega) h5
    have g1 : sm1 s a 0 = (off, a1, 0) := e1
    have g2 : sm2 s a 0 = ((x.getD 0 default).at_.toNat, a2, 0) := by unfold sm2; rw [g1]; exact e2
    have g3 : sm3 s a 0 = ((x.getD (x.length - 1) default).at_.toNat, a3, 0) := by unfold sm3; rw [g2]; exact e3
    have g4 : sm4 s a 0 = ((tal x).length, a4, 0) := by unfold sm4; rw [g3]; exact e4
    have g5 : enT s a 0 = (tal x, a5, 0) := by unfold enT; rw [g4]; exact e5
    refine ⟨a6, ?_, h6⟩
    rw [List.length_cons, enN, if_pos rfl, g5]
    simp only
    rw [e6]
    simp only [rdEn, g1, g2, g3, g5, entsO, entO]
theorem ixL_fw {L : List (List Rc)} (hL : ∀ x ∈ L, okX x) (hn : L.length ≤ 10000) (ho : 5 + (secsB L).length ≤ 1099511627776) : ixL (mkS (indB L)) = (entsO 5 L, true) := by
  have hc : rem (mkS (indB L)) 0 = venc 2 ++ (venc L.length ++ (idxB 5 L ++ [])) := by rw [rem_mk, indB]; simp only [List.append_assoc, List.append_nil]
  obtain ⟨a1, e1, h1⟩ := rdU_fw (n := 2) (by decide) hc
  obtain ⟨a2, e2, h2⟩ := rdA_fw (by omega) h1
  obtain ⟨a3, e3, h3⟩ := enN_fw L 5 a2 [] hL ho h2
  unfold ixL
  rw [e1]
  simp only
  rw [e2]
  simp only
  rw [e3]
  simp only
  rw [endV_fw h3]
  simp
end Go.Proofs.YtenompgpjlbelaaDoor


namespace Go.Proofs.YtenompgpjlbelaaDoor
open Go.X
open P4
open P5
/-- Chunks of a recording of at most 120 records. -/
structure LOk (L : List (List Rc)) : Prop where
  ch : ∀ x ∈ L, 0 < x.length
  ok : ∀ r ∈ L.flatten, okR r
  pw : L.flatten.Pairwise fun a b => a.at_ ≤ b.at_
  n : L.flatten.length ≤ 120
theorem mem_getD {α : Type} [Inhabited α] {l : List α} {k : Nat} (h : k < l.length) : l.getD k default ∈ l := by rw [getD_at h]; exact List.getElem_mem _
theorem asc_of : ∀ {l : List Rc} {la : Int}, (∀ r ∈ l, okR r ∧ la ≤ r.at_) → (l.Pairwise fun a b => a.at_ ≤ b.at_) → Asc la l
  | [], _, _, _ => trivial
  | r :: l, la, h, hp => by
    have h1 := h r (List.mem_cons_self ..)
    have h2 := List.pairwise_cons.1 hp
    exact ⟨h1.1, h1.2, asc_of (fun q hq => ⟨(h q (List.mem_cons_of_mem _ hq)).1, h2.1 q hq⟩) h2.2⟩
theorem LOk.sub {L : List (List Rc)} {x : List Rc} (hx : x ∈ L) : x.Sublist L.flatten := List.sublist_flatten_of_mem hx
theorem LOk.okX {L : List (List Rc)} (h : LOk L) : ∀ x ∈ L, okX x := fun x hx => by
  have h1 := (LOk.sub hx).length_le
  have h2 := h.n
  exact ⟨h.ch x hx, by omega, fun q hq => h.ok q ((LOk.sub hx).subset hq)⟩
theorem LOk.asc {L : List (List Rc)} (h : LOk L) {x : List Rc} (hx : x ∈ L) : Asc 0 x :=
  asc_of (fun r hr => ⟨(h.okX x hx).2.2 r hr, ((h.okX x hx).2.2 r hr).2.1.1⟩) (h.pw.sublist (LOk.sub hx))
theorem len_flat : ∀ {L : List (List Rc)}, (∀ x ∈ L, 0 < x.length) → L.length ≤ L.flatten.length
  | [], _ => Nat.zero_le _
  | x :: L, h => by
    have h1 := len_flat fun y hy => h y (List.mem_cons_of_mem _ hy)
    have h2 := h x (List.mem_cons_self ..)
    rw [List.flatten_cons, List.length_append, List.length_cons]
    omega
theorem LOk.len {L : List (List Rc)} (h : LOk L) : L.length ≤ 120 := Nat.le_trans (len_flat h.ch) h.n
theorem secB_pos (x : List Rc) : 1 ≤ (secB x).length := by
  have := sealL_len (conB x)
  unfold secB textL
  rw [List.length_append]
  omega
theorem secsB_le : ∀ {L : List (List Rc)}, (∀ r ∈ L.flatten, okR r) → (secsB L).length ≤ 24 * L.length + 4070 * L.flatten.length
  | [], _ => by simp [secsB]
  | x :: L, h => by
    have h1 := secsB_le (L := L) fun r hr => h r (by rw [List.flatten_cons, List.mem_append]; exact .inr hr)
    have h2 := secB_len (l := x) fun r hr => h r (by rw [List.flatten_cons, List.mem_append]; exact .inl hr)
    have h3 : (secsB (x :: L)).length = (secB x).length + (secsB L).length := by simp [secsB]
    rw [h3, List.flatten_cons, List.length_append, List.length_cons]
    omega
theorem LOk.secs {L : List (List Rc)} (h : LOk L) : (secsB L).length ≤ 491280 := by
  have h1 := secsB_le h.ok
  have h2 := h.len
  have h3 := h.n
  omega
theorem secsB_take {L : List (List Rc)} {k : Nat} (h : k < L.length) : secsB (L.take (k + 1)) = secsB (L.take k) ++ secB (L.getD k default) := by
  rw [take_snocG L h, secsB_snoc]
theorem secsB_app (L M : List (List Rc)) : secsB (L ++ M) = secsB L ++ secsB M := by simp [secsB]
theorem secsB_tl (L : List (List Rc)) (k : Nat) : secsB L = secsB (L.take k) ++ secsB (L.drop k) := by rw [← secsB_app, List.take_append_drop]
theorem le8_le : ∀ k n, le8 (le k n) = n % 256 ^ k
  | 0, n => by simp [le, le8, Nat.mod_one]
  | k + 1, n => by
    rw [le, le8_cons, le8_le k, Nat.pow_succ', Nat.mod_mul, UInt8.toNat_ofNat']
    omega
/-- The bag of some chunks. -/
def bgL (L : List (List Rc)) : Bg := ⟨bagB L, 5 + (secsB L).length, entsO 5 L⟩
theorem bagB_len (L : List (List Rc)) : (bagB L).length = 5 + (secsB L).length + (textL (sealL (indB L))).length + 13 := by
  simp only [bagB, magic, List.length_append, le_length, List.length_cons, List.length_nil]
theorem bgA_bag {L : List (List Rc)} (h : (secsB L).length ≤ 1000000000) : bgA (bagB L) = 5 + (secsB L).length := by
  have hl := bagB_len L
  have h1 : (bagB L).drop ((bagB L).length - 13) = le 8 (5 + (secsB L).length) ++ magic := by
    have e : bagB L = (magic ++ secsB L ++ textL (sealL (indB L))) ++ (le 8 (5 + (secsB L).length) ++ magic) := by simp only [bagB, List.append_assoc]
    conv => lhs; arg 2; rw [e]
    exact List.drop_left' (by rw [hl]; simp only [magic, List.length_append, List.length_cons, List.length_nil]; omega)
  unfold bgA
  rw [h1, List.take_left' (le_length 8 _), le8_le]
  omega
theorem bgX_bag {L : List (List Rc)} (h : (secsB L).length ≤ 1000000000) (hi : (indB L).length ≤ 1000000000) : bgX (bagB L) = (indB L, 0) := by
  have hl := bagB_len L
  have e : bagB L = (magic ++ secsB L ++ textL (sealL (indB L))) ++ (le 8 (5 + (secsB L).length) ++ magic) := by simp only [bagB, List.append_assoc]
  have h1 : (bagB L).take ((bagB L).length - 13) = magic ++ secsB L ++ textL (sealL (indB L)) := by
    conv => lhs; arg 2; rw [e]
    exact List.take_left' (by rw [hl]; simp only [magic, List.length_append, List.length_cons, List.length_nil]; omega)
  unfold bgX
  rw [h1, bgA_bag h, List.drop_left' (by simp only [magic, List.length_append, List.length_cons, List.length_nil]), exaL_fw hi]
theorem tal_okTs {x : List Rc} (h : okX x) : okTs (tal x) ∧ 1 ≤ (tal x).length := by
  obtain ⟨h1, h2, h3⟩ := tal_inv x
  have hm : (x.getD 0 default).tp ∈ (tal x).map Prod.fst := (h2 _).2 (List.mem_map.2 ⟨_, by rw [getD_at h.1]; exact List.getElem_mem _, rfl⟩)
  refine ⟨fun i hi => ⟨?_, fun h0 => ?_, ?_⟩, by have := List.length_pos_of_mem hm; rw [List.length_map] at this; omega⟩
  · have ht : (tal x).getD i default ∈ tal x := by rw [getD_at hi]; exact List.getElem_mem _
    obtain ⟨r, hr, e⟩ := List.mem_map.1 ((h2 _).1 (List.mem_map.2 ⟨_, ht, rfl⟩))
    rw [← e]
    exact (h.2.2 r hr).1
  · unfold SrtT at h1
    rw [List.pairwise_map, List.pairwise_iff_getElem] at h1
    have := h1 (i - 1) i (by omega) hi (by omega)
    rw [getD_at (show i - 1 < (tal x).length by omega), getD_at hi]
    exact this
  · exact tal_one _ (by rw [getD_at hi]; exact List.getElem_mem _)
theorem LOk.le {L : List (List Rc)} (h : LOk L) {i j : Nat} (hij : i < j) (hj : j < L.length) {x y : Rc} (hx : x ∈ L.getD i default) (hy : y ∈ L.getD j default) : x.at_ ≤ y.at_ := by
  have h1 := (List.pairwise_flatten.1 h.pw).2
  rw [List.pairwise_iff_getElem] at h1
  have := h1 i j (by omega) hj hij
  rw [getD_at (by omega)] at hx
  rw [getD_at hj] at hy
  exact this x hx y hy
theorem LOk.at {L : List (List Rc)} (h : LOk L) {i : Nat} (hi : i < L.length) : Go.Proofs.YtenompgpjlbelaaDoor.okX (L.getD i default) ∧ (∀ a b, a ≤ b → b < (L.getD i default).length → ((L.getD i default).getD a default).at_ ≤ ((L.getD i default).getD b default).at_) ∧ Asc 0 (L.getD i default) := by
  have hm : L.getD i default ∈ L := by rw [getD_at hi]; exact List.getElem_mem _
  refine ⟨h.okX _ hm, fun a b hab hb => ?_, h.asc hm⟩
  have hp := h.pw.sublist (LOk.sub hm)
  rw [List.pairwise_iff_getElem] at hp
  rcases Nat.lt_or_ge a b with q | q
  · rw [getD_at (by omega), getD_at hb]
    exact hp a b (by omega) hb q
  · obtain rfl : a = b := by omega
    exact Int.le_refl _
theorem LOk.ord {L : List (List Rc)} (h : LOk L) : ordE (entsO 5 L) (5 + (secsB L).length) := by
  have hel := entsO_len L 5
  refine ⟨fun h0 => ?_, fun i hi => ?_⟩
  · rw [hel] at h0
    have : L = [] := List.length_eq_zero_iff.1 h0
    subst this
    simp [secsB]
  · rw [hel] at hi
    obtain ⟨hx, hasc, _⟩ := h.at hi
    have hT := tal_okTs hx
    have hx0 := hx.1
    have n0 := (okX_at hx hx0).2.1.1
    have nl := (okX_at hx (k := (L.getD i default).length - 1) (by omega)).2.1.1
    have hfl := hasc 0 ((L.getD i default).length - 1) (by omega) (by omega)
    have hs1 := congrArg List.length (secsB_tl L (i + 1))
    rw [secsB_take hi, List.length_append, List.length_append] at hs1
    have hp := secB_pos (L.getD i default)
    have hprev : 0 < i → (secsB (L.take (i - 1))).length < (secsB (L.take i)).length := fun h0 => by
      have := congrArg List.length (secsB_take (L := L) (k := i - 1) (by omega))
      rw [show i - 1 + 1 = i by omega, List.length_append] at this
      have := secB_pos (L.getD (i - 1) default)
      omega
    have hpl : 0 < i → ((L.getD (i - 1) default).getD ((L.getD (i - 1) default).length - 1) default).at_ ≤ ((L.getD i default).getD 0 default).at_ := fun h0 => by
      have hy := (h.at (i := i - 1) (by omega)).1.1
      exact h.le (i := i - 1) (j := i) (by omega) hi (mem_getD (by omega)) (mem_getD hx0)
    unfold okE1
    rw [entsO_at L 5 i hi]
    refine ⟨⟨fun h0 => ?_, fun h0 => ?_, ?_⟩, ⟨fun h0 => ?_, ?_, hT.2⟩, hT.1⟩
    · subst h0
      simp [entO, secsB]
    · rw [entsO_at L 5 (i - 1) (by omega)]
      simp only [entO]
      have := hprev h0
      omega
    · simp only [entO]
      omega
    · rw [entsO_at L 5 (i - 1) (by omega)]
      simp only [entO]
      have := hpl h0
      omega
    · simp only [entO]
      omega
theorem LOk.ind {L : List (List Rc)} (h : LOk L) : (indB L).length ≤ 1000000000 := by
  have h1 := inB_len (n := L.length) (L := L) fun x hx => (h.okX x hx).2
  have h2 := h.len
  have h3 : inB L.length L = indB L := rfl
  rw [h3] at h1
  omega
theorem bag_open {L : List (List Rc)} (h : LOk L) : bgE (bagB L) = 0 ∧ bgO (bagB L) = bgL L := by
  have hs := h.secs
  have hl := bagB_len L
  have hA := bgA_bag (L := L) (by omega)
  have hX := bgX_bag (L := L) (by omega) h.ind
  have hI := ixL_fw h.okX (by have := h.len; omega) (by omega)
  have h5 : (bagB L).take 5 = magic := by
    have e : bagB L = magic ++ (secsB L ++ (textL (sealL (indB L)) ++ (le 8 (5 + (secsB L).length) ++ magic))) := by simp only [bagB, List.append_assoc]
    rw [e]
    exact List.take_left' rfl
  have h6 : (bagB L).drop ((bagB L).length - 5) = magic := by
    have e : bagB L = (magic ++ secsB L ++ textL (sealL (indB L)) ++ le 8 (5 + (secsB L).length)) ++ magic := rfl
    conv => lhs; arg 2; rw [e]
    exact List.drop_left' (by rw [hl]; simp only [magic, List.length_append, List.length_cons, List.length_nil, le_length]; omega)
  refine ⟨?_, ?_⟩
  · unfold bgE
    rw [if_neg (by omega), if_neg (fun q => q ⟨h5, h6, by omega, by omega⟩), hX, if_neg (fun q => q rfl), hI, hA, if_pos ⟨rfl, h.ord⟩]
  · unfold bgO bgL
    rw [hA, hX, hI]
theorem endE_bag {L : List (List Rc)} {k : Nat} (hk : k < L.length) : endE (bgL L) k = 5 + (secsB (L.take (k + 1))).length := by
  have hel := entsO_len L 5
  unfold endE
  have e : (bgL L).L = entsO 5 L := rfl
  have e2 : (bgL L).ix = 5 + (secsB L).length := rfl
  rw [e, hel, e2]
  split
  · rename_i h1
    rw [entsO_at L 5 (k + 1) h1]
    rfl
  · rw [show k + 1 = L.length by omega, List.take_length]
theorem chX_bag {L : List (List Rc)} (h : LOk L) {k : Nat} (hk : k < L.length) : chX (bgL L) k = (conB (L.getD k default), 0) := by
  have hE := endE_bag hk
  have hx := (h.at hk).1
  have hcl := conB_len hx.2.2
  have hxl := hx.2.1
  have hst := secsB_take hk
  have e0 : (bgL L).s = bagB L := rfl
  have e1 : (bgL L).L.getD k default = entO (5 + (secsB (L.take k)).length) (L.getD k default) := entsO_at L 5 k hk
  have e : bagB L = (magic ++ secsB (L.take (k + 1))) ++ (secsB (L.drop (k + 1)) ++ (textL (sealL (indB L)) ++ (le 8 (5 + (secsB L).length) ++ magic))) := by
    unfold bagB
    conv => lhs; rw [show magic ++ secsB L = magic ++ secsB (L.take (k + 1)) ++ secsB (L.drop (k + 1)) by rw [List.append_assoc, ← secsB_tl]]
    simp only [List.append_assoc]
  unfold chX
  rw [hE, e0, e1]
  have ht : (bagB L).take (5 + (secsB (L.take (k + 1))).length) = magic ++ secsB (L.take (k + 1)) := by
    conv => lhs; arg 2; rw [e]
    exact List.take_left' (by simp only [magic, List.length_append, List.length_cons, List.length_nil])
  rw [ht, hst, ← List.append_assoc]
  have hd : (magic ++ secsB (L.take k) ++ secB (L.getD k default)).drop (entO (5 + (secsB (L.take k)).length) (L.getD k default)).off = secB (L.getD k default) := List.drop_left' (by simp only [entO, magic, List.length_append, List.length_cons, List.length_nil])
  rw [hd]
  exact exaL_fw (by omega)
theorem ch_bag {L : List (List Rc)} (h : LOk L) {k : Nat} (hk : k < L.length) : chE (bgL L) k = 0 ∧ chL (bgL L) k = L.getD k default := by
  obtain ⟨hx, _, ha⟩ := h.at hk
  have hx0 := hx.1
  have n0 := (okX_at hx hx0).2.1.1
  have nl := (okX_at hx (k := (L.getD k default).length - 1) (by omega)).2.1.1
  obtain ⟨h1, h2⟩ := chE_eq (chX_bag h hk) (recL_fw ha)
  have e1 : (bgL L).L.getD k default = entO (5 + (secsB (L.take k)).length) (L.getD k default) := entsO_at L 5 k hk
  have h3 : chE (bgL L) k = 0 := by
    rw [h1, e1, if_neg (fun q => q rfl), if_pos]
    exact ⟨hx0, (Int.toNat_of_nonneg n0).symm, (Int.toNat_of_nonneg nl).symm, rfl⟩
  exact ⟨h3, by rw [h2, if_pos h3]⟩
end Go.Proofs.YtenompgpjlbelaaDoor


namespace Go.Proofs.YtenompgpjlbelaaDoor
open Go.X
open P4
open P5
theorem drop_flat {L : List (List Rc)} {k : Nat} (h : k < L.length) : (L.drop k).flatten = L.getD k default ++ (L.drop (k + 1)).flatten := by
  rw [drop_consG L h, List.flatten_cons]
theorem fi_le {L : List (List Rc)} (h : LOk L) {k : Nat} (hk : k < L.length) {r : Rc} (hr : r ∈ L.getD k default) :
    (((L.getD k default).getD 0 default).at_.toNat : Int) ≤ r.at_ ∧ r.at_ ≤ (((L.getD k default).getD ((L.getD k default).length - 1) default).at_.toNat : Int) := by
  obtain ⟨hx, ha, _⟩ := h.at hk
  obtain ⟨i, hi, e⟩ := List.mem_iff_getElem.1 hr
  have h1 := ha 0 i (by omega) hi
  have h2 := ha i ((L.getD k default).length - 1) (by omega) (by omega)
  have n0 := (okX_at hx hx.1).2.1.1
  rw [getD_at hi, e] at h1 h2
  omega
theorem skip_bag {L : List (List Rc)} (h : LOk L) {k : Nat} (hk : k < L.length) {t : List UInt8} {fr un : Int} (hs : skipE ((bgL L).L.getD k default) t fr un) : selR t fr un (L.getD k default) = [] := by
  rw [show (bgL L).L.getD k default = entO (5 + (secsB (L.take k)).length) (L.getD k default) from entsO_at L 5 k hk] at hs
  unfold selR
  rw [List.filter_eq_nil_iff]
  intro r hr hq
  have hq := of_decide_eq_true hq
  have hf := fi_le h hk hr
  rcases hs with q | q | q
  · refine q (hq.1.imp id fun e => ?_)
    exact ((tal_inv _).2.1 t).2 (List.mem_map.2 ⟨r, hr, e⟩)
  · simp only [entO] at q
    omega
  · simp only [entO] at q
    omega
theorem selR_app (t : List UInt8) (fr un : Int) (l m : List Rc) : selR t fr un (l ++ m) = selR t fr un l ++ selR t fr un m := List.filter_append ..
theorem rdB_bag {L : List (List Rc)} (h : LOk L) (t : List UInt8) (fr un : Int) : ∀ n k, k + n = L.length → rdB (bgL L) t fr un n k = (selR t fr un (L.drop k).flatten, 0)
  | 0, k, hk => by rw [List.drop_of_length_le (by omega)]; rfl
  | n + 1, k, hk => by
    have ih := rdB_bag h t fr un n (k + 1) (by omega)
    obtain ⟨h1, h2⟩ := ch_bag h (k := k) (by omega)
    rw [drop_flat (by omega), selR_app]
    unfold rdB
    by_cases hs : skipE ((bgL L).L.getD k default) t fr un
    · rw [if_pos hs, ih, skip_bag h (by omega) hs, List.nil_append]
    · rw [if_neg hs, if_neg (fun q => q h1), ih, if_pos rfl, h2]
theorem read_bag {L : List (List Rc)} (h : LOk L) (t : List UInt8) (fr un : Int) : readB (bgL L) t fr un = (selR t fr un L.flatten, 0) := by
  unfold readB
  rw [rdB_bag h t fr un _ 0 (by rw [Nat.zero_add]; exact entsO_len L 5), List.drop_zero]
end Go.Proofs.YtenompgpjlbelaaDoor


namespace Go.Proofs.YtenompgpjlbelaaDoor
open Go.X
open P4
open P5
theorem addE_0 {w : Wr} {r : Rc} : addE w r = 0 ↔ w.cl = false ∧ okR r ∧ w.la ≤ r.at_ ∧ w.ad < 4096 := by
  unfold addE okR
  by_cases h1 : w.cl = true
  · rw [if_pos h1]; simp [h1]
  rw [if_neg h1]
  by_cases h2 : isT r.tp
  · rw [if_neg (fun q => q h2)]
    by_cases h3 : r.at_ < 0 ∨ 1099511627776 < r.at_
    · rw [if_pos h3]
      exact ⟨fun q => absurd q (by decide), fun q => by omega⟩
    · rw [if_neg h3]
      by_cases h4 : 4000 < r.pl.length
      · rw [if_pos h4]
        exact ⟨fun q => absurd q (by decide), fun q => by omega⟩
      · rw [if_neg h4]
        by_cases h5 : r.at_ < w.la
        · rw [if_pos h5]
          exact ⟨fun q => absurd q (by decide), fun q => by omega⟩
        · rw [if_neg h5]
          by_cases h6 : 4096 ≤ w.ad
          · rw [if_pos h6]
            exact ⟨fun q => absurd q (by decide), fun q => by omega⟩
          · rw [if_neg h6]
            exact ⟨fun _ => ⟨by simpa using h1, ⟨h2, by omega, by omega⟩, by omega, by omega⟩, fun _ => rfl⟩
  · rw [if_pos h2]
    exact ⟨fun q => absurd q (by decide), fun q => absurd q.2.1.1 h2⟩
/-- A writer that accepted some records. -/
structure WI (w : Wr) (A : List Rc) : Prop where
  cl : w.cl = false
  fl : w.L.flatten = A
  ch : ∀ x ∈ w.L, 0 < x.length
  ok : ∀ r ∈ A, okR r
  pw : A.Pairwise fun a b => a.at_ ≤ b.at_
  la : w.la = (lastR w.L).at_
  lw : w.la = 0 ∨ ∃ r ∈ A, w.la = r.at_
  tp : ∀ r ∈ A, r.at_ ≤ w.la
  ad : w.ad = A.length
theorem WI.new (n : Int) : WI (newW n) [] :=
  ⟨rfl, rfl, fun x hx => (by cases hx), fun r hr => (by cases hr), List.Pairwise.nil, rfl, .inl rfl, fun r hr => (by cases hr), rfl⟩
theorem set_last {L : List (List Rc)} (h : 0 < L.length) (y : List Rc) : L.set (L.length - 1) y = L.take (L.length - 1) ++ [y] := by
  apply List.ext_getElem
  · rw [List.length_set, List.length_append, List.length_take, List.length_singleton]; omega
  · intro i h1 h2
    rw [List.length_set] at h1
    rw [List.getElem_set, List.getElem_append]
    split
    · subst_vars
      rw [dif_neg (by rw [List.length_take]; omega)]
      simp
    · rw [dif_pos (by rw [List.length_take]; omega), List.getElem_take]
theorem put_flat (n : Int) (L : List (List Rc)) (r : Rc) : (putR n L r).flatten = L.flatten ++ [r] := by
  unfold putR
  split
  · rename_i h
    have h0 : 0 < L.length := h.1
    rw [set_last h0, List.flatten_append]
    conv => rhs; rw [← List.take_append_drop (L.length - 1) L, drop_consG L (show L.length - 1 < L.length by omega), List.drop_of_length_le (show L.length ≤ L.length - 1 + 1 by omega), List.flatten_append]
    simp
  · simp
theorem put_ch {n : Int} {L : List (List Rc)} {r : Rc} (h : ∀ x ∈ L, 0 < x.length) : ∀ x ∈ putR n L r, 0 < x.length := fun x hx => by
  unfold putR at hx
  split at hx
  · rename_i h0
    rw [set_last h0.1] at hx
    rcases List.mem_append.1 hx with q | q
    · exact h x (List.mem_of_mem_take q)
    · rw [List.mem_singleton.1 q]; simp
  · rcases List.mem_append.1 hx with q | q
    · exact h x q
    · rw [List.mem_singleton.1 q]; simp
theorem put_last (n : Int) (L : List (List Rc)) (r : Rc) : lastR (putR n L r) = r := by
  have key : ∀ (M : List (List Rc)) (y : List Rc), lastR (M ++ [y ++ [r]]) = r := fun M y => by
    unfold lastR
    rw [if_pos (by simp)]
    have e : (M ++ [y ++ [r]]).getD ((M ++ [y ++ [r]]).length - 1) default = y ++ [r] := by simp
    rw [e]
    simp
  unfold putR
  split
  · rename_i h
    rw [set_last h.1]
    exact key _ _
  · exact key L []
theorem WI.add {w : Wr} {A : List Rc} {r : Rc} (h : WI w A) (h0 : addE w r = 0) : WI (addW w r) (A ++ [r]) := by
  obtain ⟨_, ho, hla, had⟩ := addE_0.1 h0
  unfold addW
  rw [if_pos h0]
  refine ⟨h.cl, ?_, put_ch h.ch, fun q hq => ?_, ?_, ?_, .inr ⟨r, by simp, rfl⟩, fun q hq => ?_, ?_⟩
  · rw [put_flat, h.fl]
  · rcases List.mem_append.1 hq with q1 | q1
    · exact h.ok q q1
    · rw [List.mem_singleton.1 q1]; exact ho
  · refine List.pairwise_append.2 ⟨h.pw, List.pairwise_singleton _ _, fun a ha b hb => ?_⟩
    rw [List.mem_singleton.1 hb]
    have := h.tp a ha
    omega
  · simp only [put_last]
  · rcases List.mem_append.1 hq with q1 | q1
    · have := h.tp q q1
      simp only
      omega
    · rw [List.mem_singleton.1 q1]
      exact Int.le_refl _
  · simp only [h.ad, List.length_append, List.length_singleton]
theorem WI.lok {w : Wr} {A : List Rc} (h : WI w A) (hn : A.length ≤ 120) : LOk w.L :=
  ⟨h.ch, by rw [h.fl]; exact h.ok, by rw [h.fl]; exact h.pw, by rw [h.fl]; exact hn⟩
/-- Records that every writer accepts. -/
structure AOk (A : List Rc) : Prop where
  ok : ∀ r ∈ A, okR r
  pw : A.Pairwise fun a b => a.at_ ≤ b.at_
  n : A.length ≤ 120
def wrA (n : Int) (A : List Rc) : Wr := A.foldl addW (newW n)
theorem wrA_snoc (n : Int) (l : List Rc) (r : Rc) : wrA n (l ++ [r]) = addW (wrA n l) r := by simp [wrA]
theorem AOk.run {A : List Rc} (h : AOk A) (n : Int) : ∀ k, k ≤ A.length → WI (wrA n (A.take k)) (A.take k) ∧ (k < A.length → addE (wrA n (A.take k)) (A.getD k default) = 0) := by
  have nx : ∀ k, k < A.length → WI (wrA n (A.take k)) (A.take k) → addE (wrA n (A.take k)) (A.getD k default) = 0 := fun k hk hw => by
    have ho := h.ok _ (mem_getD hk)
    refine addE_0.2 ⟨hw.cl, ho, ?_, by rw [hw.ad, List.length_take]; have := h.n; omega⟩
    rcases hw.lw with q | ⟨r, hr, q⟩
    · rw [q]; exact ho.2.1.1
    · rw [q]
      obtain ⟨i, hi, e⟩ := List.mem_iff_getElem.1 hr
      rw [List.length_take] at hi
      have hp := List.pairwise_iff_getElem.1 h.pw i k (by omega) hk (by omega)
      rw [getD_at hk, ← e, List.getElem_take]
      exact hp
  intro k
  induction k with
  | zero => intro _; exact ⟨WI.new n, fun hk => nx 0 hk (WI.new n)⟩
  | succ k ih =>
    intro hk
    obtain ⟨h1, h2⟩ := ih (by omega)
    have h3 : WI (wrA n (A.take (k + 1))) (A.take (k + 1)) := by
      rw [take_snocG A (by omega), wrA_snoc]
      exact h1.add (h2 (by omega))
    exact ⟨h3, fun hq => nx (k + 1) hq h3⟩
theorem AOk.wr {A : List Rc} (h : AOk A) (n : Int) : WI (wrA n A) A := by
  have := (h.run n A.length (Nat.le_refl _)).1
  rwa [List.take_length] at this
/-- The bag of some records. -/
def madeB (n : Int) (A : List Rc) : List UInt8 := bagB (wrA n A).L
theorem AOk.lok {A : List Rc} (h : AOk A) (n : Int) : LOk (wrA n A).L := (h.wr n).lok h.n
theorem made_len {A : List Rc} (h : AOk A) (n : Int) : (madeB n A).length ≤ 600000 := by
  have hk := h.lok n
  have hl := bagB_len (wrA n A).L
  have h1 := hk.secs
  have h2 := hk.len
  have h4 : (indB (wrA n A).L).length ≤ 20 + 40 * (wrA n A).L.length + 60 * (wrA n A).L.flatten.length := by
    have key : ∀ (M : List (List Rc)) (off : Nat), (∀ r ∈ M.flatten, okR r) → (idxB off M).length ≤ 40 * M.length + 60 * M.flatten.length := by
      intro M
      induction M with
      | nil => intro off _; simp [idxB]
      | cons x M ih =>
        intro off hM
        have g1 := ih (off + (secB x).length) fun r hr => hM r (by rw [List.flatten_cons, List.mem_append]; exact .inr hr)
        have g2 := desB_len (off := off) (fi := (x.getD 0 default).at_.toNat) (la := (x.getD (x.length - 1) default).at_.toNat) (T := tal x) fun t ht => by
          obtain ⟨r, hr, e⟩ := List.mem_map.1 (((tal_inv x).2.1 t.1).1 (List.mem_map.2 ⟨t, ht, rfl⟩))
          rw [← e]; exact (hM r (by rw [List.flatten_cons, List.mem_append]; exact .inl hr)).1.1.2
        have g3 := tal_le x
        rw [List.flatten_cons, List.length_append, List.length_cons, idxB, List.length_append]
        unfold idxE
        omega
    have g := key (wrA n A).L 5 hk.ok
    have v1 := venc_le 2
    have v2 := venc_le (wrA n A).L.length
    unfold indB
    rw [List.length_append, List.length_append]
    omega
  have h5 := sealL_len (indB (wrA n A).L)
  have h6 := textL_len (sealL (indB (wrA n A).L))
  have h7 := hk.n
  unfold madeB
  omega
theorem made_open {A : List Rc} (h : AOk A) (n : Int) : bgE (madeB n A) = 0 ∧ bgO (madeB n A) = bgL (wrA n A).L ∧ BOk (bgL (wrA n A).L) := by
  obtain ⟨h1, h2⟩ := bag_open (h.lok n)
  exact ⟨h1, h2, by rw [← h2]; exact BOk.of h1 (Nat.le_trans (made_len h n) (by decide))⟩
end Go.Proofs.YtenompgpjlbelaaDoor


namespace Go.Proofs.YtenompgpjlbelaaDoor
open Go.X
open P4
open P5
set_option linter.unusedVariables false
/-- The error of the first record that is not accepted. -/
def wrtE : Wr → List Rc → Nat
  | _, [] => 0
  | w, r :: l => if addE w r ≠ 0 then addE w r else wrtE (addW w r) l
theorem wrtE_app : ∀ (w : Wr) (l m : List Rc), wrtE w (l ++ m) = if wrtE w l ≠ 0 then wrtE w l else wrtE (l.foldl addW w) m
  | w, [], m => by rw [List.nil_append]; exact (if_neg (not_not_intro rfl)).symm
  | w, r :: l, m => by
    rw [List.cons_append, wrtE, wrtE, List.foldl_cons]
    by_cases h : addE w r ≠ 0
    · rw [if_pos h, if_pos h, if_pos h]
    · rw [if_neg h, if_neg h]
      exact wrtE_app (addW w r) l m
theorem wrtE_pre {w : Wr} {l m : List Rc} (h : wrtE w (l ++ m) = 0) : wrtE w l = 0 := by
  rw [wrtE_app] at h
  split at h
  · exact h
  · rename_i q; exact Decidable.of_not_not q
theorem wrtE_snoc0 {w : Wr} {l : List Rc} {x : Rc} (h : wrtE w l = 0) (hx : addE (l.foldl addW w) x = 0) : wrtE w (l ++ [x]) = 0 := by
  rw [wrtE_app, if_neg (not_not_intro h), wrtE, if_neg (not_not_intro hx)]
  rfl
theorem wrtE_hit {w : Wr} {l m : List Rc} {x : Rc} (h : wrtE w l = 0) (hx : addE (l.foldl addW w) x ≠ 0) : wrtE w (l ++ x :: m) = addE (l.foldl addW w) x := by
  rw [wrtE_app, if_neg (not_not_intro h), wrtE, if_pos hx]
theorem wrtE_WI (n : Int) (A : List Rc) (h : wrtE (newW n) A = 0) : WI (wrA n A) A := by
  suffices ∀ k, k ≤ A.length → WI (wrA n (A.take k)) (A.take k) by
    have := this A.length (Nat.le_refl _)
    rwa [List.take_length] at this
  intro k
  induction k with
  | zero => intro _; exact WI.new n
  | succ k ih =>
    intro hk
    have hw := ih (by omega)
    have e := take_snocG A (show k < A.length by omega)
    have h2 : wrtE (newW n) (A.take (k + 1)) = 0 := wrtE_pre (m := A.drop (k + 1)) (by rw [List.take_append_drop]; exact h)
    have h4 : wrtE (newW n) (A.take k) = 0 := wrtE_pre (m := [A.getD k default]) (by rw [← e]; exact h2)
    rw [e, wrtE_app, if_neg (not_not_intro h4)] at h2
    have h3 : addE (wrA n (A.take k)) (A.getD k default) = 0 := by
      unfold wrtE at h2
      split at h2
      · exact h2
      · rename_i q; exact Decidable.of_not_not q
    rw [e, wrA_snoc]
    exact hw.add h3
def badC (n : Int) : Prop := n < 1 ∨ 65536 < n
instance (n : Int) : Decidable (badC n) := by unfold badC; infer_instance
/-- The error of writing records with chunks of n bytes, and the string. -/
def wtE (n : Int) (A : List Rc) : Nat := if badC n then 4 else wrtE (newW n) A
def wtS (n : Int) (A : List Rc) : List UInt8 := if wtE n A = 0 then madeB n A else []
theorem wtE_ok {n : Int} {A : List Rc} (h : wtE n A = 0) : ¬ badC n ∧ wrtE (newW n) A = 0 := by
  unfold wtE at h
  split at h
  · cases h
  · rename_i q; exact ⟨q, h⟩
theorem wtE_AOk {n : Int} {A : List Rc} (h : wtE n A = 0) (hA : A.length ≤ 120) : AOk A := by
  have hw := wrtE_WI n A (wtE_ok h).2
  exact ⟨hw.ok, hw.pw, hA⟩
/-- All records of the bag of some records. -/
theorem selR_all {A : List Rc} (h : AOk A) : selR [] 0 1099511627777 A = A := by
  unfold selR
  rw [List.filter_eq_self]
  intro r hr
  have := (h.ok r hr).2.1
  exact decide_eq_true ⟨.inl rfl, by omega, by omega⟩
theorem made_all {A : List Rc} (h : AOk A) (n : Int) : bgE (madeB n A) = 0 ∧ readB (bgO (madeB n A)) [] 0 1099511627777 = (A, 0) := by
  obtain ⟨h1, h2, _⟩ := made_open h n
  refine ⟨h1, ?_⟩
  rw [h2, read_bag (h.lok n), (h.wr n).fl, selR_all h]
theorem AOk.tm {A : List Rc} (h : AOk A) : ∀ r ∈ A, 0 ≤ r.at_ ∧ r.at_ ≤ 1099511627776 := fun r hr => (h.ok r hr).2.1
theorem WI.xsA {w : Wr} {A : List Rc} (h : WI w A) (hn : A.length ≤ 120) {X : List Ch} (hX : X.map Ch.l = w.L) :
    X.length ≤ 120 ∧ (∀ x ∈ X, 0 < x.l.length ∧ x.l.length ≤ 120 ∧ (∀ q ∈ x.l, okR q)) ∧ (∀ x ∈ X, x.l.length ≤ 100000 ∧ (conB x.l).length ≤ 1000000) ∧ w.ad ≤ 120 := by
  have hk := h.lok hn
  have h1 := hk.len
  rw [← hX, List.length_map] at h1
  have h2 : ∀ x ∈ X, 0 < x.l.length ∧ x.l.length ≤ 120 ∧ (∀ q ∈ x.l, okR q) := fun x hx => by
    have hm : x.l ∈ w.L := by rw [← hX]; exact List.mem_map.2 ⟨x, hx, rfl⟩
    have h3 := hk.okX _ hm
    have h4 := (LOk.sub hm).length_le
    have h5 := hk.n
    exact ⟨h3.1, by omega, h3.2.2⟩
  refine ⟨h1, h2, fun x hx => ?_, by rw [h.ad]; exact hn⟩
  obtain ⟨_, h4, h5⟩ := h2 x hx
  have := conB_len h5
  omega
/-- How far a recording came: the machine behind it. -/
def far (n : Int) (m : Mc) (l : List Rc) (ct : Nat) : Prop :=
  (badC n → ct = m.ct) ∧ (wtE n (recM m l) = 0 → ct = m.ct + l.length) ∧
  (¬ badC n → wtE n (recM m l) ≠ 0 → ∃ i, i < l.length ∧ wtE n (recM m (l.take i)) = 0 ∧ wtE n (recM m (l.take (i + 1))) ≠ 0 ∧ (ct = m.ct + i ∨ ct = m.ct + i + 1))
theorem recM_app : ∀ (m : Mc) (a b : List Rc), recM m (a ++ b) = recM m a ++ recM (stL m a) b
  | m, [], b => rfl
  | m, r :: a, b => by
    show rec1 m r ++ recM (stM m r) (a ++ b) = rec1 m r ++ recM (stM m r) a ++ recM (stL (stM m r) a) b
    rw [recM_app (stM m r) a b, List.append_assoc]
theorem recM_tail (m : Mc) (l : List Rc) (i : Nat) : recM m l = recM m (l.take i) ++ recM (stL m (l.take i)) (l.drop i) := by
  rw [← recM_app, List.take_append_drop]
theorem fail_far {n : Int} {m : Mc} {l B R1 : List Rc} {i ct : Nat} {y : Rc} (hb : ¬ badC n) (hi : i < l.length) (h0 : wrtE (newW n) (recM m (l.take i)) = 0) (hB : wrtE (newW n) B = 0)
    (hr : recM m (l.take (i + 1)) = B ++ y :: R1) (hy : addE (wrA n B) y ≠ 0) (hct : ct = m.ct + i ∨ ct = m.ct + i + 1) :
    wtE n (recM m l) = addE (wrA n B) y ∧ wtS n (recM m l) = [] ∧ far n m l ct := by
  have e1 : wtE n (recM m l) = addE (wrA n B) y := by
    unfold wtE
    rw [if_neg hb, recM_tail m l (i + 1), hr, List.append_assoc]
    exact wrtE_hit hB hy
  have e2 : wtE n (recM m (l.take (i + 1))) = addE (wrA n B) y := by
    unfold wtE
    rw [if_neg hb, hr]
    exact wrtE_hit hB hy
  refine ⟨e1, by unfold wtS; rw [e1, if_neg hy], fun q => absurd q hb, fun q => absurd (e1.symm.trans q) hy, fun _ _ => ⟨i, hi, ?_, by rw [e2]; exact hy, hct⟩⟩
  unfold wtE
  rw [if_neg hb, h0]
end Go.Proofs.YtenompgpjlbelaaDoor


namespace Go.Proofs.YtenompgpjlbelaaDoor
open Go.X
set_option linter.unusedSimpArgs false
set_option linter.unusedVariables false
open P4
open P5
theorem encCh_rkA (X : List Ch) (i : Nat) : List.map (C.rk [Sg.whole 2, Sg.whole 3, Sg.whole 4] 6) (encCh 4 X i) = encCh 7 X i := rfl
theorem encCh_rkB (X : List Ch) (i : Nat) : List.map (C.rk [Sg.whole 2, Sg.whole 3, Sg.whole 4] 7) (encCh 4 X i) = encCh 8 X i := rfl
theorem rH42ylS0 {σ : List Sg} {H h' : List Fam} {v : T} {K : T → List Fam → Prop} {H' : List Fam} {v' : T} {N : Nat} (hk : K v' H') (hN : H.length = N := by (try simp only [↓List.length_cons, ↓List.length_nil, Nat.reduceAdd]) <;> rfl) (h : givesF σ N H σ h' = some H' := by (try simp (maxSteps := 1000000) only [givesF, setF, updF, Fam.zeroth, Fam.rk, Ck.rk, C.rk, E.rk, T.rk, key, List.map_cons, List.map_nil, List.cons_append, List.nil_append, List.length_cons, List.length_nil, Option.map_some, Option.bind_some, Nat.reduceAdd, Nat.zero_add, Nat.add_zero, Nat.add_sub_cancel_left, Int.toNat_natCast, reps, List.all_cons, List.all_nil, C.flat, List.append_eq, Bool.not_true, Bool.and_true, Bool.or_false, Bool.or_self, Bool.not_false, List.append_nil, Bool.and_self, ↓chG_rk]) <;> rfl) (hv : v.rk σ N = v' := by (try simp only [givesF, setF, updF, Fam.zeroth, Fam.rk, Ck.rk, C.rk, E.rk, T.rk, key, List.map_cons, List.map_nil, List.cons_append, List.nil_append, List.length_cons, List.length_nil, Option.map_some, Option.bind_some, Nat.reduceAdd, Nat.zero_add, Nat.add_zero, Nat.add_sub_cancel_left, Int.toNat_natCast, reps, List.all_cons, List.all_nil, C.flat, List.append_eq, Bool.not_true, Bool.and_true, Bool.or_false, Bool.or_self, Bool.not_false, List.append_nil, Bool.and_self, ↓chG_rk]) <;> rfl) : RetG σ H h' v K := ret_mk3 hN h hv hk
theorem rH42ylS1 {σ : List Sg} {H h' : List Fam} {v : T} {K : T → List Fam → Prop} {H' : List Fam} {v' : T} {N : Nat} (hk : K v' H') (hN : H.length = N := by (try simp only [↓List.length_cons, ↓List.length_nil, Nat.reduceAdd]) <;> rfl) (h : givesF σ N H σ h' = some H' := by (try simp (maxSteps := 1000000) only [givesF, setF, updF, Fam.zeroth, Fam.rk, Ck.rk, C.rk, E.rk, T.rk, key, List.map_cons, List.map_nil, List.cons_append, List.nil_append, List.length_cons, List.length_nil, Option.map_some, Option.bind_some, Nat.reduceAdd, Nat.zero_add, Nat.add_zero, Nat.add_sub_cancel_left, Int.toNat_natCast, reps, List.all_cons, List.all_nil, C.flat, List.append_eq, Bool.not_true, Bool.and_true, Bool.or_false, Bool.or_self, Bool.not_false, List.append_nil, Bool.and_self, ↓chG_rk, encCh_rkA, encR]) <;> rfl) (hv : v.rk σ N = v' := by (try simp only [givesF, setF, updF, Fam.zeroth, Fam.rk, Ck.rk, C.rk, E.rk, T.rk, key, List.map_cons, List.map_nil, List.cons_append, List.nil_append, List.length_cons, List.length_nil, Option.map_some, Option.bind_some, Nat.reduceAdd, Nat.zero_add, Nat.add_zero, Nat.add_sub_cancel_left, Int.toNat_natCast, reps, List.all_cons, List.all_nil, C.flat, List.append_eq, Bool.not_true, Bool.and_true, Bool.or_false, Bool.or_self, Bool.not_false, List.append_nil, Bool.and_self, ↓chG_rk, encCh_rkA, encR]) <;> rfl) : RetG σ H h' v K := ret_mk3 hN h hv hk
theorem rH42ylS2 {σ : List Sg} {H h' : List Fam} {v : T} {K : T → List Fam → Prop} {H' : List Fam} {v' : T} {N : Nat} (hk : K v' H') (hN : H.length = N := by (try simp only [↓List.length_cons, ↓List.length_nil, Nat.reduceAdd]) <;> rfl) (h : givesF σ N H σ h' = some H' := by (try simp (maxSteps := 1000000) only [givesF, setF, updF, Fam.zeroth, Fam.rk, Ck.rk, C.rk, E.rk, T.rk, key, List.map_cons, List.map_nil, List.cons_append, List.nil_append, List.length_cons, List.length_nil, Option.map_some, Option.bind_some, Nat.reduceAdd, Nat.zero_add, Nat.add_zero, Nat.add_sub_cancel_left, Int.toNat_natCast, reps, List.all_cons, List.all_nil, C.flat, List.append_eq, Bool.not_true, Bool.and_true, Bool.or_false, Bool.or_self, Bool.not_false, List.append_nil, Bool.and_self, ↓chG_rk, encCh_rkB, encR]) <;> rfl) (hv : v.rk σ N = v' := by (try simp only [givesF, setF, updF, Fam.zeroth, Fam.rk, Ck.rk, C.rk, E.rk, T.rk, key, List.map_cons, List.map_nil, List.cons_append, List.nil_append, List.length_cons, List.length_nil, Option.map_some, Option.bind_some, Nat.reduceAdd, Nat.zero_add, Nat.add_zero, Nat.add_sub_cancel_left, Int.toNat_natCast, reps, List.all_cons, List.all_nil, C.flat, List.append_eq, Bool.not_true, Bool.and_true, Bool.or_false, Bool.or_self, Bool.not_false, List.append_nil, Bool.and_self, ↓chG_rk, encCh_rkB, encR]) <;> rfl) : RetG σ H h' v K := ret_mk3 hN h hv hk
theorem cH42ylS3 {P : Program} {F : Nat} {args : List T} {H : List Fam} {K : T → List Fam → Prop} {σ : List Sg} {nl : List Fam} {args0 : List T} {h0 : List Fam} {Q : T → List Fam → Prop} {H2 H1 : List Fam} {N n : Nat} (hc : Ctr P F args0 h0 Q) (hk : ∀ v h', Q v h' → capsP h' → RetG σ H2 h' v K) (hap : apart σ = true := by rfl) (hnl : nl.all nilB = true := by rfl) (h1 : H ++ nl = H1 := by first | exact List.append_nil _ | ((try simp only [List.cons_append, List.nil_append]) <;> rfl)) (hN : H1.length = N := by (try simp only [↓List.length_cons, ↓List.length_nil, Nat.reduceAdd]) <;> rfl) (hn : H.length = n := by (try simp only [↓List.length_cons, ↓List.length_nil, Nat.reduceAdd]) <;> rfl) (hH : givesF σ N H1 σ h0 = some H2 := by (try simp (maxSteps := 1000000) only [givesF, setF, updF, Fam.zeroth, Fam.rk, Ck.rk, C.rk, E.rk, T.rk, key, List.map_cons, List.map_nil, List.cons_append, List.nil_append, List.length_cons, List.length_nil, Option.map_some, Option.bind_some, Nat.reduceAdd, Nat.zero_add, Nat.add_zero, Nat.add_sub_cancel_left, Int.toNat_natCast, reps, List.all_cons, List.all_nil, C.flat, List.append_eq, Bool.not_true, Bool.and_true, Bool.or_false, Bool.or_self, Bool.not_false, List.append_nil, Bool.and_self, ↓chG_rk]) <;> rfl) (hle : leS n H1 σ N σ h0 (belsK N (h0.map (Fam.rk σ N)) (argsK n args (args0.map (T.rk σ N)) True)) := by repeat' first | refine And.intro ?_ ?_ | exact xeC | fail) : CallK P F args H K := CallK.mk3 hc hap hnl h1 hN hn hH hle hk
set_option maxRecDepth 10000 in
set_option maxHeartbeats 16000000 in
theorem crecord (n : Int) (m : Mc) (w : Bool) (l : List Rc) (c : Nat) (hst : m.st < 1009) (hct : m.ct ≤ 100000) (hl : fewL l) :
    Ctr Tryd.prog 7 [.c (.ifp 29 0 0 0), .c (.sl 1 0 3 0 l.length c), .c (.i .i64 n)] [.one (mch m), .one (rcR w l c)]
      fun v h => ∃ m', far n m l m'.ct ∧ v = .t [.c (.s (mkS (wtS n (recM m l)))), .c (.i .i64 (wtE n (recM m l) : Nat))] ∧ h = [.one (mch m'), .one (rcR w l c)] := by
  have hll := hl.1
  refine Ctr.mk' tbv mixed Tryd.func7 rfl rfl rfl (fun _ _ => by kernel_rfl) (by kernel_rfl) (by rfl) (by rfl) (by (repeat' first | refine And.intro ?_ ?_ | exact xeC | fail) <;> (exact xmC)) ?_
  repeat' (first | (fail_if_success (with_reducible refine xstp ?_)); first | (with_reducible intro hc; (try simp only [capsP, and_true] at hc); (try exact xfC)) | ((fail_if_success (with_reducible first | refine xgon ?_ | intro _)); (conv => whnf); (fail_if_success (fail_if_success (with_reducible first | refine xstp ?_ | refine xgon ?_ | intro _)))))
  refine cH42ylS3 (σ := []) (nl := []) (cNewW n) ?_
  rintro v h' hq hcaps
  rcases hq with ⟨hq, rfl, rfl⟩ | ⟨hn, rfl, rfl⟩
  · have h0 : wtE n (recM m l) = 4 := if_pos hq
    have h1 : wtS n (recM m l) = [] := by unfold wtS; rw [h0]; exact if_neg (by decide)
    rw [h0, h1]
    refine rH42ylS0 ?_
    repeat' (first | (fail_if_success (with_reducible refine xstp ?_)); first | ((with_reducible refine And.intro (fun (hb : _ = true) => ?_) (fun (hb : _ = false) => ?_)) <;> replace hb := xnC hb <;> (try first | exact xfC | exact bff hb (by assumption) | exact bff (by assumption) hb)) | ((fail_if_success (with_reducible first | refine xgon ?_ | intro _)); (conv => whnf); (fail_if_success (fail_if_success (with_reducible first | refine xstp ?_ | refine xgon ?_ | intro _)))))
    refine FinK.mk ⟨[0, 1], _, _, ⟨m, ⟨fun _ => rfl, fun q => ?_, fun q => absurd hq q⟩, rfl, rfl⟩, ?_⟩
    · rw [h0] at q; exact absurd q (by decide)
    · (repeat' first | refine And.intro ?_ ?_ | exact xeC | fail)
  have hb0 : ¬ badC n := by unfold badC; omega
  have hE : wtE n (recM m l) = wrtE (newW n) (recM m l) := if_neg hb0
  refine rH42ylS0 ?_
  repeat' (first | (fail_if_success (with_reducible refine xstp ?_)); first | ((with_reducible refine And.intro (fun (hb : _ = true) => ?_) (fun (hb : _ = false) => ?_)) <;> replace hb := xnC hb <;> (try first | exact xfC | exact bff hb (by assumption) | exact bff (by assumption) hb)) | ((fail_if_success (with_reducible first | refine xgon ?_ | intro _)); (conv => whnf); (fail_if_success (fail_if_success (with_reducible first | refine xstp ?_ | refine xgon ?_ | intro _)))))
  refine LoopK.mk' {p : Nat × List Ch × Nat // p.1 ≤ l.length ∧ wrtE (newW n) (recM m (l.take p.1)) = 0 ∧ p.2.1.map Ch.l = (wrA n (recM m (l.take p.1))).L}
    (fun ⟨(i, X, c1), _⟩ => ⟨[(0, .c (.ifp 29 0 0 0)), (8, .c (.p 2 0 0)), (26, .c (.sl 1 0 3 0 l.length c)), (27, .c (.i .i64 (l.length : Nat))), (28, .c (.i .i64 (i : Nat)))],
      [.one (mch (stL m (l.take i))), .one (rcR w l c), .one (wrC (wrA n (recM m (l.take i))) 3 X.length c1), .one (chR 4 X c1), .many (chG X)]⟩) (fun p => l.length - p.1.1)
    ⟨⟨(0, [], 0), Nat.zero_le _, rfl, rfl⟩, [0, 1, 2, 3, 4], ?_⟩ ?_
  · (repeat' first | refine And.intro ?_ ?_ | exact xeC | fail)
    all_goals first
      | (exact xmC)
      | skip
  rintro ⟨⟨i, X, c1⟩, hi, hz, hX⟩
  simp only at hi hz hX
  have e2 : 0 + ((i : Nat) : Int).toNat = i := by omega
  have hW := wrtE_WI n _ hz
  have hB0 : (recM m (l.take i)).length ≤ 3 * i := by
    have := recM_len m (l.take i)
    rw [List.length_take] at this
    omega
  have hxs := hW.xsA (by omega) hX
  have hMs : (stL m (l.take i)).st < 1009 := stL_st _ _ hst
  have hMc : (stL m (l.take i)).ct = m.ct + i := by rw [stL_ct, List.length_take]; omega
  rcases Nat.lt_or_ge i l.length with hlt | hge
  · obtain ⟨hp1, hp2⟩ := hl.2 i hlt
    have hts := take_snocG l hlt
    have hr := recM_snoc m (l.take i) (l.getD i default)
    have hs := stL_snoc m (l.take i) (l.getD i default)
    rw [← hts] at hr hs
    have z1 : (mkS (l.getD i default).tp).size = (l.getD i default).tp.length := rfl
    have hin : (⟨#[105, 110, 47]⟩ : ByteArray) ++ mkS (l.getD i default).tp = mkS (inT ++ (l.getD i default).tp) := mkS_append inT _
    repeat' (first | (fail_if_success (with_reducible refine xstp ?_)); first | ((with_reducible refine And.intro (fun (hb : _ = true) => ?_) (fun (hb : _ = false) => ?_)) <;> replace hb := xnC hb <;> (try first | exact xfC | exact bff hb (by assumption) | exact bff (by assumption) hb)) | ((with_reducible refine And.intro ?_ ?_); focus exact xoC) | (with_reducible intro hc; (try simp only [capsP, and_true] at hc); (try exact xfC)) | ((fail_if_success (with_reducible first | refine xgon ?_ | intro _)); (conv => whnf); (fail_if_success (fail_if_success (with_reducible first | refine xstp ?_ | refine xgon ?_ | intro _)))))
    rw [e2]
    refine ⟨?_, ?_⟩
    · rw [z1]
      show 3 + _ ≤ _
      omega
    repeat' (first | (fail_if_success (with_reducible refine xstp ?_)); first | ((fail_if_success (with_reducible first | refine xgon ?_ | intro _)); (conv => whnf); (fail_if_success (fail_if_success (with_reducible first | refine xstp ?_ | refine xgon ?_ | intro _)))))
    rw [hin]
    generalize hx : l.getD i default = x at *
    have hxl : (inT ++ x.tp).length ≤ 100 := by
      rw [List.length_append]
      show 3 + _ ≤ _
      omega
    refine cH42ylS3 (σ := [.whole 2, .whole 3, .whole 4]) (nl := []) (cAddW (wrA n (recM m (l.take i))) X c1 (recI x) hX (show (inT ++ x.tp).length ≤ _ by omega) (by omega) hxs.2.2.1 (by omega)) ?_ (hle := by (repeat' first | refine And.intro ?_ ?_ | exact xeC | fail) <;> (exact xmC))
    rintro v h' ⟨X1, c2, hX1, rfl, rfl⟩ hcaps
    refine rH42ylS1 ?_
    by_cases h0 : addE (wrA n (recM m (l.take i))) (recI x) = 0
    · have hz1 := wrtE_snoc0 hz h0
      have hru := wrA_snoc n (recM m (l.take i)) (recI x)
      rw [← hru] at hX1 ⊢
      rw [h0]
      repeat' (first | (fail_if_success (with_reducible refine xstp ?_)); first | ((with_reducible refine And.intro (fun (hb : _ = true) => ?_) (fun (hb : _ = false) => ?_)) <;> replace hb := xnC hb <;> (try first | exact xfC | exact bff hb (by assumption) | exact bff (by assumption) hb)) | ((fail_if_success (with_reducible first | refine xgon ?_ | intro _)); (conv => whnf); (fail_if_success (fail_if_success (with_reducible first | refine xstp ?_ | refine xgon ?_ | intro _)))))
      refine cH42ylS3 (σ := [.whole 0]) (nl := []) (crecorded (stL m (l.take i)) x hMs (by omega) (by omega) (by omega)) ?_
      have hY0 := out_len (stM (stL m (l.take i)) x)
      have hst1 : (stM (stL m (l.take i)) x).st < 1009 := Nat.mod_lt _ (by decide)
      have hmem : ∀ r ∈ (outM (stM (stL m (l.take i)) x)).map (recO x.at_), r.tp.length ≤ 20 := by
        intro r hr
        obtain ⟨y, hy, rfl⟩ := List.mem_map.1 hr
        have := (out_mem hy hst1).1
        show (ouT ++ y.1).length ≤ 20
        rw [List.length_append]
        show 4 + _ ≤ 20
        omega
      have hr1 : rec1 (stL m (l.take i)) x = recI x :: (outM (stM (stL m (l.take i)) x)).map (recO x.at_) := rfl
      rw [hr1] at hr
      rw [← hs] at hst1 hr hmem ⊢
      have hYl : ((outM (stL m (l.take (i + 1)))).map (recO x.at_)).length ≤ 2 := by rw [List.length_map, hs, hY0]; omega
      generalize (outM (stL m (l.take (i + 1)))).map (recO x.at_) = Y at *
      rintro v h' ⟨cy, rfl, rfl⟩ hcaps
      refine rH42ylS1 ?_
      repeat' (first | (fail_if_success (with_reducible refine xstp ?_)); first | ((fail_if_success (with_reducible first | refine xgon ?_ | intro _)); (conv => whnf); (fail_if_success (fail_if_success (with_reducible first | refine xstp ?_ | refine xgon ?_ | intro _)))))
      refine LoopK.mk' {p : Nat × List Ch × Nat // p.1 ≤ Y.length ∧ wrtE (newW n) (recM m (l.take i) ++ [recI x] ++ Y.take p.1) = 0 ∧ p.2.1.map Ch.l = (wrA n (recM m (l.take i) ++ [recI x] ++ Y.take p.1)).L}
        (fun ⟨(j, X, c1), _⟩ => ⟨[(0, .c (.ifp 29 0 0 0)), (8, .c (.p 2 0 0)), (26, .c (.sl 1 0 3 0 l.length c)), (27, .c (.i .i64 (l.length : Nat))), (28, .c (.i .i64 (i : Nat))), (47, .c (.sl 5 0 3 0 Y.length cy)), (48, .c (.i .i64 (Y.length : Nat))), (49, .c (.i .i64 (j : Nat)))],
          [.one (mch (stL m (l.take (i + 1)))), .one (rcR w l c), .one (wrC (wrA n (recM m (l.take i) ++ [recI x] ++ Y.take j)) 3 X.length c1), .one (chR 4 X c1), .many (chG X), .one (rcR true Y cy)]⟩) (fun p => Y.length - p.1.1)
        ⟨⟨(0, X1, c2), Nat.zero_le _, by simp only [List.take_zero, List.append_nil]; exact hz1, by simp only [List.take_zero, List.append_nil]; exact hX1⟩, [0, 1, 2, 6, 7, 8], ?_⟩ ?_
      · simp only [List.take_zero, List.append_nil]
        (repeat' first | refine And.intro ?_ ?_ | exact xeC | fail)
        all_goals first
          | (exact xmC)
          | skip
      rintro ⟨⟨j, X3, c3⟩, hj, hz3, hX3⟩
      simp only at hj hz3 hX3
      have f2 : 0 + ((j : Nat) : Int).toNat = j := by omega
      have hW3 := wrtE_WI n _ hz3
      have hxs3 := hW3.xsA (by rw [List.length_append, List.length_append, List.length_take]; show _ + 1 + _ ≤ _; omega) hX3
      rcases Nat.lt_or_ge j Y.length with hjt | hjg
      · have hYs := take_snocG Y hjt
        have hm1 := hmem (Y.getD j default) (mem_getD hjt)
        have hru3 := wrA_snoc n (recM m (l.take i) ++ [recI x] ++ Y.take j) (Y.getD j default)
        have hYd : Y = Y.take j ++ Y.getD j default :: Y.drop (j + 1) := by rw [← drop_consG Y hjt, List.take_append_drop]
        repeat' (first | (fail_if_success (with_reducible refine xstp ?_)); first | ((with_reducible refine And.intro (fun (hb : _ = true) => ?_) (fun (hb : _ = false) => ?_)) <;> replace hb := xnC hb <;> (try first | exact xfC | exact bff hb (by assumption) | exact bff (by assumption) hb)) | ((with_reducible refine And.intro ?_ ?_); focus exact xoC) | (with_reducible intro hc; (try simp only [capsP, and_true] at hc); (try exact xfC)) | ((fail_if_success (with_reducible first | refine xgon ?_ | intro _)); (conv => whnf); (fail_if_success (fail_if_success (with_reducible first | refine xstp ?_ | refine xgon ?_ | intro _)))))
        rw [f2]
        refine cH42ylS3 (σ := [.whole 2, .whole 3, .whole 4]) (nl := []) (cAddW (wrA n (recM m (l.take i) ++ [recI x] ++ Y.take j)) X3 c3 (Y.getD j default) hX3 (by omega) (by omega) hxs3.2.2.1 (by omega)) ?_ (hle := by (repeat' first | refine And.intro ?_ ?_ | exact xeC | fail) <;> (exact xmC))
        rintro v h' ⟨X4, c4, hX4, rfl, rfl⟩ hcaps
        refine rH42ylS2 ?_
        by_cases h4 : addE (wrA n (recM m (l.take i) ++ [recI x] ++ Y.take j)) (Y.getD j default) = 0
        · rw [h4]
          repeat' (first | (fail_if_success (with_reducible refine xstp ?_)); first | ((with_reducible refine And.intro (fun (hb : _ = true) => ?_) (fun (hb : _ = false) => ?_)) <;> replace hb := xnC hb <;> (try first | exact xfC | exact bff hb (by assumption) | exact bff (by assumption) hb)) | ((with_reducible refine OvK.fit ?_ ?_); focus exact xoC) | ((fail_if_success (with_reducible first | refine xgon ?_ | intro _)); (conv => whnf); (fail_if_success (fail_if_success (with_reducible first | refine xstp ?_ | refine xgon ?_ | intro _)))))
          refine ⟨⟨(j + 1, X4, c4), hjt, by simp only [hYs, ← List.append_assoc]; exact wrtE_snoc0 hz3 h4, by simp only [hYs, ← List.append_assoc]; rw [hru3]; exact hX4⟩, [0, 1, 2, 7, 8, 5], by simp only; omega, ?_⟩
          simp only [hYs, ← List.append_assoc, hru3]
          (repeat' first | refine And.intro ?_ ?_ | exact xeC | fail)
          all_goals first
            | (exact xmC)
            | skip
        · have hq4 : recM m (l.take (i + 1)) = recM m (l.take i) ++ [recI x] ++ Y.take j ++ Y.getD j default :: Y.drop (j + 1) := by
            rw [hr]
            conv => lhs; rw [hYd]
            simp only [List.append_assoc, List.cons_append, List.nil_append]
          obtain ⟨q1, q2, q3⟩ := fail_far (ct := m.ct + i + 1) (R1 := Y.drop (j + 1)) hb0 hlt hz hz3 hq4 h4 (.inr rfl)
          rw [q1, q2]
          generalize addE (wrA n (recM m (l.take i) ++ [recI x] ++ Y.take j)) (Y.getD j default) = e at *
          repeat' (first | (fail_if_success (with_reducible refine xstp ?_)); first | ((with_reducible refine And.intro (fun (hb : _ = true) => ?_) (fun (hb : _ = false) => ?_)) <;> replace hb := xnC hb <;> (try first | exact xfC | exact bff hb (by assumption) | exact bff (by assumption) hb)) | ((fail_if_success (with_reducible first | refine xgon ?_ | intro _)); (conv => whnf); (fail_if_success (fail_if_success (with_reducible first | refine xstp ?_ | refine xgon ?_ | intro _)))))
          refine FinK.mk ⟨[0, 1], _, _, ⟨stL m (l.take (i + 1)), ?_, rfl, rfl⟩, ?_⟩
          · rw [hs]
            show far n m l ((stL m (l.take i)).ct + 1)
            rw [hMc]
            exact q3
          · (repeat' first | refine And.intro ?_ ?_ | exact xeC | fail)
      · have hB : recM m (l.take i) ++ [recI x] ++ Y.take j = recM m (l.take (i + 1)) := by rw [hr, List.take_of_length_le hjg]; simp
        repeat' (first | (fail_if_success (with_reducible refine xstp ?_)); first | ((with_reducible refine And.intro (fun (hb : _ = true) => ?_) (fun (hb : _ = false) => ?_)) <;> replace hb := xnC hb <;> (try first | exact xfC | exact bff hb (by assumption) | exact bff (by assumption) hb)) | ((with_reducible refine OvK.fit ?_ ?_); focus exact xoC) | (with_reducible intro hc; (try simp only [capsP, and_true] at hc); (try exact xfC)) | ((fail_if_success (with_reducible first | refine xgon ?_ | intro _)); (conv => whnf); (fail_if_success (fail_if_success (with_reducible first | refine xstp ?_ | refine xgon ?_ | intro _)))))
        refine ⟨⟨(i + 1, X3, c3), hlt, by simp only; rw [← hB]; exact hz3, by simp only; rw [← hB]; exact hX3⟩, [0, 1, 2, 3, 4], by simp only; omega, ?_⟩
        simp only [hB]
        (repeat' first | refine And.intro ?_ ?_ | exact xeC | fail)
        all_goals first
          | (exact xmC)
          | skip
    · obtain ⟨q1, q2, q3⟩ := fail_far (ct := m.ct + i) (R1 := (outM (stM (stL m (l.take i)) x)).map (recO x.at_)) hb0 hlt hz hz hr h0 (.inl rfl)
      rw [q1, q2]
      generalize addE (wrA n (recM m (l.take i))) (recI x) = e at *
      repeat' (first | (fail_if_success (with_reducible refine xstp ?_)); first | ((with_reducible refine And.intro (fun (hb : _ = true) => ?_) (fun (hb : _ = false) => ?_)) <;> replace hb := xnC hb <;> (try first | exact xfC | exact bff hb (by assumption) | exact bff (by assumption) hb)) | ((fail_if_success (with_reducible first | refine xgon ?_ | intro _)); (conv => whnf); (fail_if_success (fail_if_success (with_reducible first | refine xstp ?_ | refine xgon ?_ | intro _)))))
      refine FinK.mk ⟨[0, 1], _, _, ⟨stL m (l.take i), ?_, rfl, rfl⟩, ?_⟩
      · rw [hMc]; exact q3
      · (repeat' first | refine And.intro ?_ ?_ | exact xeC | fail)
  · obtain rfl : i = l.length := by omega
    rw [List.take_length] at hz hMc
    have hmk : XOk X := ⟨by omega, fun x hx => by have := hxs.2.1 x hx; exact ⟨this.1, by omega, this.2.2⟩⟩
    have hcl := hW.cl
    have h0 : wtE n (recM m l) = 0 := by rw [hE, hz]
    have hS : wtS n (recM m l) = madeB n (recM m l) := if_pos h0
    repeat' (first | (fail_if_success (with_reducible refine xstp ?_)); first | ((with_reducible refine And.intro (fun (hb : _ = true) => ?_) (fun (hb : _ = false) => ?_)) <;> replace hb := xnC hb <;> (try first | exact xfC | exact bff hb (by assumption) | exact bff (by assumption) hb)) | (with_reducible intro hc; (try simp only [capsP, and_true] at hc); (try exact xfC)) | ((fail_if_success (with_reducible first | refine xgon ?_ | intro _)); (conv => whnf); (fail_if_success (fail_if_success (with_reducible first | refine xstp ?_ | refine xgon ?_ | intro _)))))
    refine cH42ylS3 (σ := [.whole 2, .whole 3, .whole 4]) (nl := []) (cCloseW (wrA n (recM m (l.take l.length))) X c1 hmk hX) ?_ (hle := by (repeat' first | refine And.intro ?_ ?_ | exact xeC | fail) <;> (exact xmC))
    rw [List.take_length] at hcl ⊢
    rw [if_neg (by rw [hcl]; decide), if_neg (by rw [hcl]; decide), h0, hS]
    rintro v h' ⟨rfl, rfl⟩ hcaps
    refine rH42ylS0 ?_
    repeat' (first | (fail_if_success (with_reducible refine xstp ?_)); first | ((fail_if_success (with_reducible first | refine xgon ?_ | intro _)); (conv => whnf); (fail_if_success (fail_if_success (with_reducible first | refine xstp ?_ | refine xgon ?_ | intro _)))))
    refine FinK.mk ⟨[0, 1], _, _, ⟨stL m l, ⟨fun q => absurd q hb0, fun _ => hMc, fun _ q => absurd h0 q⟩, rfl, rfl⟩, ?_⟩
    (repeat' first | refine And.intro ?_ ?_ | exact xeC | fail)
end Go.Proofs.YtenompgpjlbelaaDoor


namespace Go.Proofs.YtenompgpjlbelaaDoor
open Go.X
set_option linter.unusedSimpArgs false
set_option linter.unusedVariables false
open P4
open P5
theorem rplS_rec (m : Mc) (l : List Rc) : rplS m 0 (recM m l) 0 = ((recM m l).length, 0) := by
  have h : chk 0 (recM m l) 0 = 0 := by unfold chk; rw [if_neg (by decide), if_neg (by decide), if_pos (recM_ok m l)]
  unfold rplS
  rw [if_neg (not_not_intro h), rpl_rec, Nat.zero_add]
theorem fewL_short {l : List Rc} (h : fewL l) : shortL l := ⟨by have := h.1; omega, fun i hi => by have := h.2 i hi; omega⟩
theorem recM_short {m : Mc} {l : List Rc} (h : fewL l) (hst : m.st < 1009) : (recM m l).length ≤ 120 ∧ shortL (recM m l) := by
  have h1 := recM_len m l
  have h0 := h.1
  refine ⟨by omega, by omega, fun i hi => ?_⟩
  have hm := mem_getD (l := recM m l) hi
  generalize (recM m l).getD i default = r at *
  have key : ∀ (m : Mc) (l : List Rc), m.st < 1009 → (∀ x ∈ l, x.pl.length ≤ 200 ∧ x.tp.length ≤ 60) → ∀ r ∈ recM m l, r.pl.length ≤ 100000 ∧ r.tp.length ≤ 100000 := by
    intro m l
    induction l generalizing m with
    | nil => intro _ _ r hr; cases hr
    | cons x l ih =>
      intro hst hl r hr
      have hx := hl x (List.mem_cons_self ..)
      have h2 : (stM m x).st < 1009 := Nat.mod_lt _ (by decide)
      rcases List.mem_append.1 hr with q | q
      · unfold rec1 at q
        rcases List.mem_cons.1 q with rfl | q
        · refine ⟨by show x.pl.length ≤ _; omega, ?_⟩
          show (inT ++ x.tp).length ≤ _
          rw [List.length_append]
          show 3 + _ ≤ _
          omega
        · obtain ⟨y, hy, rfl⟩ := List.mem_map.1 q
          have := out_mem hy h2
          refine ⟨by show y.2.length ≤ _; omega, ?_⟩
          show (ouT ++ y.1).length ≤ _
          rw [List.length_append]
          show 4 + _ ≤ _
          omega
      · exact ih (stM m x) h2 (fun y hy => hl y (List.mem_cons_of_mem _ hy)) r q
  refine key m l hst (fun x hx => ?_) r hm
  obtain ⟨k, hk, rfl⟩ := List.mem_iff_getElem.1 hx
  have := h.2 k hk
  rw [getD_at hk] at this
  exact this
/-- What a written recording answers when it is read. -/
theorem wt_read {n : Int} {A : List Rc} (h : wtE n A = 0) (hA : A.length ≤ 120) : (wtS n A).length ≤ 640000 ∧ bgE (wtS n A) = 0 ∧ allB (wtS n A) = (A, 0) ∧ AOk A := by
  have hk := wtE_AOk h hA
  have hS : wtS n A = madeB n A := if_pos h
  obtain ⟨h1, h2⟩ := made_all hk n
  have h3 := made_len hk n
  rw [hS]
  exact ⟨by omega, h1, h2, hk⟩
set_option maxRecDepth 10000 in
theorem cdigest0 : Ctr Tryd.prog 12 [.c .nils] [] fun v h => v = .c (.i .u64 0) ∧ h = [] := by
  refine Ctr.mk' tbv mixed Tryd.func12 rfl rfl rfl (fun _ _ => by kernel_rfl) (by kernel_rfl) (by rfl) (by rfl) (by (repeat' first | refine And.intro ?_ ?_ | exact xeC | fail)) ?_
  repeat' (first | (fail_if_success (with_reducible refine xstp ?_)); first | (with_reducible intro hc; (try simp only [capsP, and_true] at hc); (try exact xfC)) | ((fail_if_success (with_reducible first | refine xgon ?_ | intro _)); (conv => whnf); (fail_if_success (fail_if_success (with_reducible first | refine xstp ?_ | refine xgon ?_ | intro _)))))
  refine LoopK.mk' Unit (fun _ => ⟨[(3, .c (.i .u64 0)), (7, .c (.i .i64 0)), (8, .c (.i .i64 0))], []⟩) (fun _ => 0) ⟨(), [], ?_⟩ ?_
  · (repeat' first | refine And.intro ?_ ?_ | exact xeC | fail)
  rintro ⟨⟩
  repeat' (first | (fail_if_success (with_reducible refine xstp ?_)); first | ((with_reducible refine And.intro (fun (hb : _ = true) => ?_) (fun (hb : _ = false) => ?_)) <;> replace hb := xnC hb <;> (try first | exact xfC | exact bff hb (by assumption) | exact bff (by assumption) hb)) | (with_reducible intro hc; (try simp only [capsP, and_true] at hc); (try exact xfC)) | ((fail_if_success (with_reducible first | refine xgon ?_ | intro _)); (conv => whnf); (fail_if_success (fail_if_success (with_reducible first | refine xstp ?_ | refine xgon ?_ | intro _)))))
  exact FinK.mk ⟨[], _, _, ⟨rfl, rfl⟩, by (repeat' first | refine And.intro ?_ ?_ | exact xeC | fail)⟩
def awM : Mc := ⟨1, 0⟩
def awA : List Rc := [⟨5, [103, 111], [120]⟩]
theorem awFew : fewL awA := ⟨by decide, fun i hi => by
  have : i = 0 := by have : awA.length = 1 := rfl; omega
  subst this
  decide⟩
theorem awE : wtE 500 (recM awM awA) = 0 := by decide
theorem awLen : (recM awM awA).length = 1 := by decide
theorem aw_rowA {f : Nat → List C} (h : f 0 = rowOf encR awA 0) (i : Nat) (hi : i < awA.length) : f i = rowOf encR awA i :=
  match i, hi with
  | 0, _ => h
theorem rH42ylT0 {σ : List Sg} {H h' : List Fam} {v : T} {K : T → List Fam → Prop} {H' : List Fam} {v' : T} {N : Nat} (hk : K v' H') (hN : H.length = N := by (try simp only [↓List.length_cons, ↓List.length_nil, Nat.reduceAdd]) <;> rfl) (h : givesF σ N H σ h' = some H' := by (try simp (maxSteps := 1000000) only [givesF, setF, updF, Fam.zeroth, Fam.rk, Ck.rk, C.rk, E.rk, T.rk, key, List.map_cons, List.map_nil, List.cons_append, List.nil_append, List.length_cons, List.length_nil, Option.map_some, Option.bind_some, Nat.reduceAdd, Nat.zero_add, Nat.add_zero, Nat.add_sub_cancel_left, Int.toNat_natCast, reps, List.all_cons, List.all_nil, C.flat, List.append_eq, Bool.not_true, Bool.and_true, Bool.or_false, Bool.or_self, Bool.not_false, List.append_nil, Bool.and_self, encR]) <;> rfl) (hv : v.rk σ N = v' := by (try simp only [givesF, setF, updF, Fam.zeroth, Fam.rk, Ck.rk, C.rk, E.rk, T.rk, key, List.map_cons, List.map_nil, List.cons_append, List.nil_append, List.length_cons, List.length_nil, Option.map_some, Option.bind_some, Nat.reduceAdd, Nat.zero_add, Nat.add_zero, Nat.add_sub_cancel_left, Int.toNat_natCast, reps, List.all_cons, List.all_nil, C.flat, List.append_eq, Bool.not_true, Bool.and_true, Bool.or_false, Bool.or_self, Bool.not_false, List.append_nil, Bool.and_self, encR]) <;> rfl) : RetG σ H h' v K := ret_mk3 hN h hv hk
set_option maxRecDepth 10000 in
set_option maxHeartbeats 16000000 in
theorem cawake42 : Ctr Tryd.prog 6 [] [] fun v h => v = .c .tt ∧ h = [] := by
  have hR := recM_short (m := awM) awFew (by decide)
  obtain ⟨hl, hE, hA, hk⟩ := wt_read awE hR.1
  have hrp := rplS_rec awM awA
  have hle := awLen
  have k1 := crecord 500 awM true awA 1 (by decide) (by decide) awFew
  have k2 := creplay awM (wtS 500 (recM awM awA)) hl (recM awM awA) 0 0 hE hA (by decide) (by decide) (fun _ => hR.2)
  have k3 := rrecords awM true awA 1 (by decide) (by decide) (fewL_short awFew)
  rw [awE] at k1
  rw [hrp, hle] at k2
  rw [hle] at k3
  clear hrp hle hk hR hE hA hl
  generalize wtS 500 (recM awM awA) = s at *
  generalize recM awM awA = R at *
  generalize stL awM awA = sM at *
  refine Ctr.mk' tbv mixed Tryd.func6 rfl rfl rfl (fun _ _ => by kernel_rfl) (by kernel_rfl) (by rfl) (by rfl) (by (repeat' first | refine And.intro ?_ ?_ | exact xeC | fail)) ?_
  repeat' (first | (fail_if_success (with_reducible refine xstp ?_)); first | (with_reducible intro hc; (try simp only [capsP, and_true] at hc); (try exact xfC)) | ((fail_if_success (with_reducible first | refine xgon ?_ | intro _)); (conv => whnf); (fail_if_success (fail_if_success (with_reducible first | refine xstp ?_ | refine xgon ?_ | intro _)))))
  refine xcal (σ := [.whole 0, .whole 1]) (nl := []) (k1) ?_ (hle := by (repeat' first | refine And.intro ?_ ?_ | exact xeC | fail) <;> (first | exact aw_rowA rfl | skip))
  rintro v h' ⟨m', hf, rfl, rfl⟩ hcaps
  refine rH42ylT0 ?_
  repeat' (first | (fail_if_success (with_reducible refine xstp ?_)); first | ((fail_if_success (with_reducible first | refine xgon ?_ | intro _)); (conv => whnf); (fail_if_success (fail_if_success (with_reducible first | refine xstp ?_ | refine xgon ?_ | intro _)))))
  refine xcal (σ := [.whole 2]) (nl := []) (k2) ?_
  rintro v h' ⟨m2, rfl, rfl⟩ hcaps
  refine rH42ylT0 ?_
  repeat' (first | (fail_if_success (with_reducible refine xstp ?_)); first | ((fail_if_success (with_reducible first | refine xgon ?_ | intro _)); (conv => whnf); (fail_if_success (fail_if_success (with_reducible first | refine xstp ?_ | refine xgon ?_ | intro _)))))
  refine xcal (σ := [.whole 3, .whole 4]) (nl := []) (k3) ?_ (hle := by (repeat' first | refine And.intro ?_ ?_ | exact xeC | fail) <;> (first | exact aw_rowA rfl | skip))
  rintro v h' ⟨c3, rfl, rfl⟩ hcaps
  refine rH42ylT0 ?_
  repeat' (first | (fail_if_success (with_reducible refine xstp ?_)); first | ((with_reducible refine And.intro (fun (hb : _ = true) => ?_) (fun (hb : _ = false) => ?_)) <;> replace hb := xnC hb <;> (try first | exact xfC | exact bff hb (by assumption) | exact bff (by assumption) hb)) | ((fail_if_success (with_reducible first | refine xgon ?_ | intro _)); (conv => whnf); (fail_if_success (fail_if_success (with_reducible first | refine xstp ?_ | refine xgon ?_ | intro _)))))
  refine xcal (σ := []) (nl := []) (cdigest0) ?_
  rintro v h' ⟨rfl, rfl⟩ hcaps
  refine xret ?_
  repeat' (first | (fail_if_success (with_reducible refine xstp ?_)); first | ((fail_if_success (with_reducible first | refine xgon ?_ | intro _)); (conv => whnf); (fail_if_success (fail_if_success (with_reducible first | refine xstp ?_ | refine xgon ?_ | intro _)))))
  exact FinK.mk ⟨[], _, _, ⟨rfl, rfl⟩, by (repeat' first | refine And.intro ?_ ?_ | exact xeC | fail)⟩
end Go.Proofs.YtenompgpjlbelaaDoor


namespace Go.Proofs.YtenompgpjlbelaaDoor
open Go.RowKit
namespace Bs
theorem bytes_ext {a b : ByteArray} (h : a.data.toList = b.data.toList) : a = b := by
  cases a; cases b; congr 1; exact Array.toList_inj.1 h

theorem ret_int {k : IntKind} {a b : Int} (h : a = b) : Ending.returned (.int k a) = .returned (.int k b) := by rw [h]
theorem val_int {k : IntKind} {a b : Int} (h : a = b) : Value.int k a = .int k b := by rw [h]
theorem ret_str {a b : ByteArray} (h : a = b) : Ending.returned (.string a) = .returned (.string b) := by rw [h]
/-- A string out of a list of bytes. -/
def mk (l : List UInt8) : ByteArray := ⟨l.toArray⟩
theorem mk_list (l : List UInt8) : (mk l).data.toList = l := rfl
theorem mk_size (l : List UInt8) : (mk l).size = l.length := by simp [mk, ByteArray.size]
theorem len_list (s : ByteArray) : s.data.toList.length = s.size := by rw [Array.length_toList]; rfl
theorem mk_of (s : ByteArray) : mk s.data.toList = s := by cases s; rfl
theorem mk_append (l : List UInt8) (s : ByteArray) : mk l ++ s = mk (l ++ s.data.toList) := by
  apply ByteArray.ext; simp [mk]
theorem mk_append' (l m : List UInt8) : mk l ++ mk m = mk (l ++ m) := mk_append l (mk m)
theorem append_eq (s t : ByteArray) : s ++ t = mk (s.data.toList ++ t.data.toList) := by
  rw [← mk_append, mk_of]

def byteV (b : UInt8) : Value := .int .u8 (b.toNat : Int)

/-- The converted string of an owned row of bytes. -/
theorem run_convert_own {P : Program} {w : World} (src dst e : TypeId) (hs : P.underlying src = some (.slice e)) (he : P.underlying e = some (.int .u8)) (hd : P.underlying dst = some .string)
    {B : Nat} {v : Value} {l : List UInt8} {n : Nat} (h : w.ownsRow B e 1 v n (l.map byteV)) : (convert src dst v).run P w = .ok (.string (mk l)) w := by
  have hn : n = l.length := by have := h.1; simp at this; omega
  subst hn
  have hc := @World.ownsRow.cells w B e 1 v _ _ h
  rcases h.2 with ⟨rfl, h0⟩ | ⟨g, cap, cur, rfl, _⟩
  · have : l = [] := by simpa using h0
    subst this
    exact Lib.run_convert_nil_bytes (P := P) w src dst e 0 hs he hd
  · refine run_convert_bytes_back w src dst e _ cap l hs he hd fun j hj => ?_
    exact hc rfl j _ (by simp [byteV, hj])

theorem cell_new1 (w : World) (v : Value) (e : TypeId) : ∀ (j : Nat) (u : Value), [v][j]? = some u → (w.alloc (.cells #[v] e)).cell? ((⟨w.heap.size, 0, none⟩ : Addr).add j) = some u := by
  intro j u hj
  match j, hj with
  | 0, hj => simp at hj; subst hj; simp [Addr.add]

theorem push2_at {α : Type} (a : Array α) (x y : α) : ((a.push x).push y)[a.size]? = some x := by
  rw [Array.getElem?_push, if_neg (by simp), Array.getElem?_push_size]
theorem push2_at1 {α : Type} (a : Array α) (x y : α) : ((a.push x).push y)[a.size + 1]? = some y := by
  rw [Array.getElem?_push, if_pos (by simp)]
theorem al {w a : World} (h : Below w.heap.size w a) (o : Obj) : Below w.heap.size w (a.alloc o) := h.alloc h.size o
/-- Block g holds the row l, and none of its cells is frozen. -/
def Row (w : World) (g : Nat) (l : List Value) : Prop := ∃ C e fz, w.heap[g]? = some (.cells C e fz) ∧ ∀ j, j < l.length → C[j]? = l[j]? ∧ ¬ (fz.1 ≤ j ∧ j < fz.2)
theorem Row.cell {w : World} {g : Nat} {l : List Value} (h : Row w g l) {j : Nat} {v : Value} (hv : l[j]? = some v) : w.cell? ⟨g, j, none⟩ = some v := by
  obtain ⟨C, e, fz, hh, hc⟩ := h
  have hj : j < l.length := (List.getElem?_eq_some_iff.1 hv).1
  simp [World.cell?, hh, (hc j hj).1, hv]
theorem Row.free {w : World} {g : Nat} {l : List Value} (h : Row w g l) {j : Nat} (hj : j < l.length) : w.frozen? ⟨g, j, none⟩ = false := by
  obtain ⟨C, e, fz, hh, hc⟩ := h
  have := (hc j hj).2
  obtain ⟨lo, hi⟩ := fz
  simp only [World.frozen?, hh, Bool.and_eq_false_iff, decide_eq_false_iff_not]
  simp only at this
  omega
theorem Row.lt {w : World} {g : Nat} {l : List Value} (h : Row w g l) : g < w.heap.size := by
  obtain ⟨C, e, fz, hh, hc⟩ := h
  exact (Array.getElem?_eq_some_iff.1 hh).1
theorem Row.of_block {w w' : World} {g : Nat} {l : List Value} (h : Row w g l) (hb : w'.heap[g]? = w.heap[g]?) : Row w' g l := by
  obtain ⟨C, e, fz, hh, hc⟩ := h
  exact ⟨C, e, fz, hb.trans hh, hc⟩
theorem Row.al {w : World} {g : Nat} {l : List Value} (h : Row w g l) (o : Obj) : Row (w.alloc o) g l := h.of_block (Below.heap_alloc w o g h.lt)
theorem Row.set {w : World} {g : Nat} {l : List Value} (h : Row w g l) (j : Nat) (v : Value) : Row (w.setCell ⟨g, j, none⟩ v) g (l.set j v) := by
  obtain ⟨C, e, fz, hh, hc⟩ := h
  refine ⟨C.setIfInBounds j v, e, fz, ?_, ?_⟩
  · simp [World.setCell, Array.getElem?_modify, hh]
  · intro i hi
    rw [List.length_set] at hi
    refine ⟨?_, (hc i hi).2⟩
    have hcs : i < C.size := by
      have := (hc i hi).1
      rw [List.getElem?_eq_getElem hi] at this
      exact (Array.getElem?_eq_some_iff.1 this).1
    rw [Array.getElem?_setIfInBounds, List.getElem?_set]
    by_cases hji : j = i
    · subst hji; simp [hcs, hi]
    · simp [hji, (hc i hi).1]
theorem Row.other {w : World} {g : Nat} {l : List Value} (h : Row w g l) (a : Addr) (v : Value) (hne : g ≠ a.block) : Row (w.setCell a v) g l := h.of_block (Below.heap_setCell w a v g hne)
theorem Row.below {w w' : World} {g B : Nat} {l : List Value} (h : Row w g l) (hb : Below B w w') (hg : g < B) : Row w' g l := h.of_block (hb.block g hg)
/-- The bytes of a string, as a new block holds them. -/
theorem Row.bytes {w : World} {g : Nat} (s : ByteArray) (cap : Nat) (e : TypeId) (m : Nat) (hm : s.size ≤ m) (h : w.heap[g]? = some (.cells (bytesRow s cap) e (m, m + 1))) : Row w g (s.data.toList.map byteV) := by
  refine ⟨_, _, _, h, fun j hj => ?_⟩
  rw [List.length_map, len_list] at hj
  constructor
  · unfold bytesRow
    rw [Array.getElem?_append_left (by rw [Array.size_map]; exact hj), Array.getElem?_map, List.getElem?_map, Array.getElem?_toList]
    rfl
  · simp only; omega
/-- Behind '[]byte(s)'. -/
theorem Row.new (s : ByteArray) (w : World) (cap : Nat) (e : TypeId) : Row (w.alloc (.cells (bytesRow s cap) e ((bytesRow s cap).size, (bytesRow s cap).size + 1))).drew w.heap.size (s.data.toList.map byteV) := by
  refine Row.bytes s cap e (bytesRow s cap).size (by unfold bytesRow; rw [Array.size_append, Array.size_map]; exact Nat.le_add_right _ _) ?_
  show (w.heap.push _)[w.heap.size]? = _
  rw [Array.getElem?_push_size]
theorem tl_inj {a b : ByteArray} (h : a.toList = b.toList) : a = b := by
  rw [ByteArray.toList_eq, ByteArray.toList_eq] at h
  exact bytes_ext h
theorem tl_beq (a b : ByteArray) : (a.toList == b.toList) = decide (a = b) := by
  by_cases h : a = b
  · subst h; simp
  · have : (a.toList == b.toList) = false := by
      rw [beq_eq_false_iff_ne]; exact fun e => h (tl_inj e)
    simp [h, this]

end Bs
end Go.Proofs.YtenompgpjlbelaaDoor


namespace Go.Proofs.YtenompgpjlbelaaDoor
open Go.RowKit

set_option maxHeartbeats 400000 in
theorem fold_any (n : Nat) (s : ByteArray) (w : World) (hs : s.size ≤ maxLen) (hn : n < 18446744073709551616) :
    Calls Tryd.prog 49 #[.int .u64 n, .string s] w fun e w' => e = .returned (.int .u64 (P5.fnvF s.data.toList n)) ∧ w' = w := by
  unfold maxLen at hs
  have HN := Lib.hid hn
  clear hn
  go_enter Tryd.func49, Tryd.ntmps49
  go_wp2
  go_loop [0, 8] (fun x i => ∃ k : Nat, k ≤ s.size ∧ i = .int .i64 k ∧ x = .int .u64 (P5.fnvF (s.data.toList.take k) n)) (fun _ i => s.size - (intOf i).toNat)
  case atStart => exact ⟨0, Nat.zero_le _, rfl, by rw [List.take_zero]; rfl⟩
  case round =>
    obtain ⟨k, hk, rfl, rfl⟩ := hrel
    by_cases hlt : k < s.size
    · have HS : Hid (IntKind.u64.wrap (bits .xor .u64 ((P5.fnvF (s.data.toList.take k) n : Nat) : Int) (IntKind.u64.wrap (s[k].toNat : Int)) * 1099511628211) = ((P5.fnvF (s.data.toList.take (k + 1)) n : Nat) : Int)) :=
        Lib.hid (by rw [P5.take_snoc s k hlt, P5.fnvF_snoc]; exact P5.fnv_step _ _ (P5.fnvF_lt _ HN.out))
      go_wp2
      go_round
      case rel => exact ⟨k + 1, by omega, by go_num, Bs.val_int HS.out⟩
      case measure => simp [intOf]; omega
    · have HK : Hid (P5.fnvF (s.data.toList.take k) n = P5.fnvF s.data.toList n) := Lib.hid (by rw [P5.take_all s k (by omega)])
      go_wp2
      go_ret
      exact ⟨Bs.ret_int (by rw [HK.out]), rfl⟩

set_option maxHeartbeats 400000 in
theorem rhash_any (s : ByteArray) (w : World) (hs : s.size ≤ maxLen) :
    Calls Tryd.prog 38 #[.string s] w fun e w' => e = .returned (.int .u64 (P5.fnv s.data.toList)) ∧ w' = w := by
  unfold maxLen at hs
  go_enter Tryd.func38, Tryd.ntmps38
  go_wp2
  go_loop [3, 4] (fun x i => ∃ k : Nat, k ≤ s.size ∧ i = .int .i64 k ∧ x = .int .u64 (P5.fnvF (s.data.toList.take k) P5.fnv0)) (fun _ i => s.size - (intOf i).toNat)
  case atStart => exact ⟨0, Nat.zero_le _, rfl, by rw [List.take_zero]; rfl⟩
  case round =>
    obtain ⟨k, hk, rfl, rfl⟩ := hrel
    by_cases hlt : k < s.size
    · have HS : Hid (IntKind.u64.wrap (bits .xor .u64 ((P5.fnvF (s.data.toList.take k) P5.fnv0 : Nat) : Int) (IntKind.u64.wrap (s[k].toNat : Int)) * 1099511628211) = ((P5.fnvF (s.data.toList.take (k + 1)) P5.fnv0 : Nat) : Int)) :=
        Lib.hid (by rw [P5.take_snoc s k hlt, P5.fnvF_snoc]; exact P5.fnv_step _ _ (P5.fnvF_lt _ P5.fnv0_lt))
      go_wp2
      go_round
      case rel => exact ⟨k + 1, by omega, by go_num, Bs.val_int HS.out⟩
      case measure => simp [intOf]; omega
    · have HK : Hid (P5.fnvF (s.data.toList.take k) P5.fnv0 = P5.fnv s.data.toList) := Lib.hid (by rw [P5.take_all s k (by omega)]; rfl)
      go_wp2
      go_ret
      exact ⟨Bs.ret_int (by rw [HK.out]), rfl⟩

set_option maxHeartbeats 400000 in
theorem hash_any (s : ByteArray) (w : World) (hs : s.size ≤ maxLen) :
    Calls Tryd.prog 36 #[.string s] w fun e w' => e = .returned (.int .u64 (P5.fnv s.data.toList)) ∧ Below w.heap.size w w' := by
  unfold maxLen at hs
  go_enter Tryd.func36, Tryd.ntmps36
  go_wp2
  go_loopw [3, 4] (fun x i w' => ∃ pos k : Nat, k ≤ s.size ∧ k ≤ pos ∧ w' = w.iter s pos ∧ i = .int .i64 k ∧ x = .int .u64 (P5.fnvF (s.data.toList.take k) P5.fnv0)) (fun _ _ w' => s.size - w'.iterPos w.heap.size)
  case atStart => exact ⟨0, 0, Nat.zero_le _, Nat.zero_le _, rfl, rfl, by rw [List.take_zero]; rfl⟩
  case round =>
    obtain ⟨pos, k, hk, hkp, rfl, rfl, rfl⟩ := hrel
    have HF := Lib.hid (P5.fnvF_lt (s.data.toList.take k) P5.fnv0_lt)
    by_cases hp : pos < s.size
    · have hnx : ∀ ty, (Instr.next (.pointer (some ⟨w.heap.size, 0, none⟩)) true ty).run Tryd.prog (w.iter s pos) = _ := fun ty => run_next_any w s pos ty hp
      have hwd := P5.width_pos s pos hp
      have HC := Lib.hid (P5.fnv_cut s k pos hkp P5.fnv0)
      have hsz : (s.extract k pos).size ≤ maxLen := by rw [ByteArray.size_extract]; unfold maxLen; omega
      go_wp2_with (go_at_call 49; refine (fold_any _ _ _ hsz HF.out).mono ?_; rintro e w' ⟨rfl, rfl⟩; rw [HC.out])
      go_roundw
      case rel => exact ⟨_, pos, by omega, by omega, rfl, rfl, rfl⟩
      case measure => simp; omega
    · have hnx : ∀ ty, (Instr.next (.pointer (some ⟨w.heap.size, 0, none⟩)) true ty).run Tryd.prog (w.iter s pos) = _ := fun ty => run_next_end w s pos ty hp
      have HC := Lib.hid (P5.fnv_cut s k s.size hk P5.fnv0)
      have hsz : (s.extract k s.size).size ≤ maxLen := by rw [ByteArray.size_extract]; unfold maxLen; omega
      have HA := Lib.hid (P5.take_all s s.size (Nat.le_refl _))
      go_wp2_with (go_at_call 49; refine (fold_any _ _ _ hsz HF.out).mono ?_; rintro e w' ⟨rfl, rfl⟩; rw [HC.out])
      go_ret
      exact ⟨Bs.ret_int (by rw [HA.out]; rfl), (Below.refl _ _).alloc (Nat.le_refl _) _⟩

theorem Tryd.infoU8 : (Tryd.prog.info? 5).map (fun i => (i.zero, i.size, i.bytes)) = some (some (.int .u8 0), 1, 1) := by kernel_rfl

theorem Tryd.le8 (n : Nat) (hn : n < 18446744073709551616) : ∃ b0 b1 b2 b3 b4 b5 b6 b7 : UInt8, P5.le 8 n = [b0, b1, b2, b3, b4, b5, b6, b7] ∧ (b0.toNat : Int) = (n : Int) % 256 ∧ (b1.toNat : Int) = (n : Int) / 256 % 256 ∧ (b2.toNat : Int) = (n : Int) / 65536 % 256 ∧ (b3.toNat : Int) = (n : Int) / 16777216 % 256 ∧
    (b4.toNat : Int) = (n : Int) / 4294967296 % 256 ∧ (b5.toNat : Int) = (n : Int) / 1099511627776 % 256 ∧ (b6.toNat : Int) = (n : Int) / 281474976710656 % 256 ∧ (b7.toNat : Int) = (n : Int) / 72057594037927936 := by
  refine ⟨_, _, _, _, _, _, _, _, rfl, ?_, ?_, ?_, ?_, ?_, ?_, ?_, ?_⟩ <;> rw [P5.byte_mod] <;> omega

def Arr8 (n : Nat) (e : Ending) : Prop := ∃ b0 b1 b2 b3 b4 b5 b6 b7 : UInt8, P5.le 8 n = [b0, b1, b2, b3, b4, b5, b6, b7] ∧ e = .returned (.agg #[.int .u8 (b0.toNat : Int), .int .u8 (b1.toNat : Int), .int .u8 (b2.toNat : Int), .int .u8 (b3.toNat : Int), .int .u8 (b4.toNat : Int), .int .u8 (b5.toNat : Int), .int .u8 (b6.toNat : Int), .int .u8 (b7.toNat : Int)])

set_option maxHeartbeats 800000 in
theorem eight8_any (n : Nat) (w : World) (hn : n < 18446744073709551616) :
    Calls Tryd.prog 35 #[.int .u64 n, .int .i64 8] w fun e w' => Arr8 n e ∧ Below w.heap.size w w' := by
  go_enter Tryd.func35, Tryd.ntmps35
  go_wp2
  go_rounds 9
  obtain ⟨b0, b1, b2, b3, b4, b5, b6, b7, hl, h0, h1, h2, h3, h4, h5, h6, h7⟩ := Tryd.le8 n hn
  refine bodyPost_ret (v := .agg #[.int .u8 (b0.toNat : Int), .int .u8 (b1.toNat : Int), .int .u8 (b2.toNat : Int), .int .u8 (b3.toNat : Int), .int .u8 (b4.toNat : Int), .int .u8 (b5.toNat : Int), .int .u8 (b6.toNat : Int), .int .u8 (b7.toNat : Int)]) ?_ rfl ⟨⟨b0, b1, b2, b3, b4, b5, b6, b7, hl, rfl⟩, ((Below.refl _ _).alloc (Nat.le_refl _) _).alloc (by simp) _⟩
  rw [h0, h1, h2, h3, h4, h5, h6, h7]; clear h0 h1 h2 h3 h4 h5 h6 h7 hl
  simp [results, Tryd.results35, go_sem]

set_option maxHeartbeats 400000 in
theorem bytes_any (n k : Nat) (w : World) (hk : k ≤ 8) (hn : n < 18446744073709551616) :
    Calls Tryd.prog 51 #[.int .u64 n, .int .i64 k] w fun e w' => e = .returned (.string (Bs.mk (P5.le k n))) ∧ Below w.heap.size w w' := by
  obtain ⟨i0, hi, hz0, hz1, hz2⟩ := info_parts Tryd.infoU8
  go_enter Tryd.func51, Tryd.ntmps51
  go_wp2
  go_loopw [0, 5, 6] (fun x v i wr => ∃ j : Nat, j ≤ k ∧ i = .int .i64 j ∧ x = .int .u64 ((n / 256 ^ j : Nat) : Int) ∧ wr.ownsRow w.heap.size 5 1 v j ((P5.le j n).map Bs.byteV) ∧ Below w.heap.size w wr) (fun _ _ i _ => k - (intOf i).toNat)
  case atStart => exact ⟨0, Nat.zero_le _, rfl, by simp, World.ownsRow_nil _ _ _ _, Below.refl _ _⟩
  case round =>
    obtain ⟨j, hj, rfl, rfl, hown, hbel⟩ := hrel
    by_cases hlt : j < k
    · have HL := Lib.hid (P5.le_snoc j n)
      have HD := Lib.hid (P5.div_pow n j)
      have hsz := hbel.size
      have hy : n / 256 ^ j < 18446744073709551616 := Nat.lt_of_le_of_lt (Nat.div_le_self _ _) hn
      generalize n / 256 ^ j = y at *
      go_wp2_with (at_builtin; refine wpList_append_own _ rfl _ _ 71 rfl w.heap.size 5 i0 (.int .u8 0) 1 1 Tryd.underlying71 hi hz0 hz1 hz2 rfl (by decide) _ _ _ rfl (hown.alloc _) ⟨wr.heap.size, 0, none⟩ 1 1 [.int .u8 ((y : Int) % 256)] rfl rfl (Bs.cell_new1 _ _ _) ?c2 ?c3 ?c4 ?c5 ?_)
      case c2 => intro u hu; simp at hu; subst hu; rfl
      case c3 => unfold maxLen; omega
      case c4 => omega
      case c5 => simp; omega
      intro v' w1 hown' hgrow _
      go_wp2
      go_roundw
      case rel =>
        refine ⟨j + 1, by omega, by go_num, by rw [HD.out]; exact Bs.val_int (by omega), ?_, ?_⟩
        · rw [HL.out, List.map_append]
          have e : [UInt8.ofNat (y % 256)].map Bs.byteV = [.int .u8 ((y : Int) % 256)] := by simp only [List.map_cons, List.map_nil, Bs.byteV, P5.byte_mod]
          rw [e]; exact hown'
        · exact (hbel.alloc hsz _).grown hgrow (by simp; omega) (fun k hk => (hown.lt k hk).1)
      case measure => simp [intOf]; omega
    · have hjk : j = k := by omega
      subst hjk
      have hcv := fun d hd => Bs.run_convert_own (P := Tryd.prog) 71 d 5 Tryd.underlying71 Tryd.underlying5 hd hown
      go_wp2
      go_ret
      exact ⟨rfl, hbel⟩
set_option maxHeartbeats 400000 in
theorem link_any (x : Nat) (s : ByteArray) (w : World) (hx : x < 18446744073709551616) (hs : s.size ≤ 140737488355328) :
    Calls Tryd.prog 39 #[.int .u64 x, .string s] w fun e w' => e = .returned (.string (Bs.mk (P5.linkL x s.data.toList))) ∧ Below w.heap.size w w' := by
  have HL := Lib.hid (show Bs.mk (P5.le 8 x) ++ Bs.mk (P5.le 8 s.size) ++ s = Bs.mk (P5.linkL x s.data.toList) by rw [P5.linkL, Bs.mk_append', Bs.mk_append, List.append_assoc, Bs.len_list])
  have hsz : (Bs.mk (P5.le 8 x)).size ≤ 8 := by rw [Bs.mk_size, P5.le_length]; omega
  have hsz2 : (Bs.mk (P5.le 8 s.size)).size ≤ 8 := by rw [Bs.mk_size, P5.le_length]; omega
  have hsz3 : (Bs.mk (P5.le 8 x) ++ Bs.mk (P5.le 8 s.size)).size ≤ 16 := by rw [ByteArray.size_append]; omega
  go_enter Tryd.func39, Tryd.ntmps39
  go_wp2_with fail
  refine (bytes_any _ 8 _ (by omega) hx).mono ?_
  rintro e w1 ⟨rfl, hb⟩
  go_wp2_with fail
  refine (bytes_any _ 8 _ (by omega) (by omega)).mono ?_
  rintro e w2 ⟨rfl, hb2⟩
  go_wp2
  go_ret
  exact ⟨Bs.ret_str HL.out, hb.trans (hb2.mono hb.size)⟩

set_option maxHeartbeats 400000 in
theorem rchain_any (x : Nat) (s : ByteArray) (w : World) (hx : x < 18446744073709551616) (hs : s.size ≤ 140737488355328) :
    Calls Tryd.prog 25 #[.int .u64 x, .string s] w fun e w' => e = .returned (.int .u64 (P5.chain x s.data.toList)) ∧ Below w.heap.size w w' := by
  have hsz : (Bs.mk (P5.linkL x s.data.toList)).size ≤ maxLen := by rw [Bs.mk_size, P5.linkL_length, Bs.len_list]; unfold maxLen; omega
  go_enter Tryd.func25, Tryd.ntmps25
  go_wp2_with fail
  refine (link_any _ _ _ hx hs).mono ?_
  rintro e w1 ⟨rfl, hb⟩
  go_wp2_with fail
  refine (rhash_any _ _ hsz).mono ?_
  rintro e w2 ⟨rfl, rfl⟩
  go_wp2
  go_ret
  exact ⟨rfl, hb⟩

theorem conv8 (W : World) (i : Nat) (b0 b1 b2 b3 b4 b5 b6 b7 : UInt8)
    (hc : W.heap[i]? = some (.cells #[.int .u8 (b0.toNat : Int), .int .u8 (b1.toNat : Int), .int .u8 (b2.toNat : Int), .int .u8 (b3.toNat : Int), .int .u8 (b4.toNat : Int), .int .u8 (b5.toNat : Int), .int .u8 (b6.toNat : Int), .int .u8 (b7.toNat : Int)] 68 (0, 0))) :
    (convert 71 9 (.slice (some ⟨i, 0, none⟩) 8 8)).run Tryd.prog W = .ok (.string (Bs.mk [b0, b1, b2, b3, b4, b5, b6, b7])) W := by
  refine run_convert_bytes_back _ 71 9 5 _ 8 [b0, b1, b2, b3, b4, b5, b6, b7] Tryd.underlying71 Tryd.underlying5 Tryd.underlying9 fun j hj => ?_
  have : j = 0 ∨ j = 1 ∨ j = 2 ∨ j = 3 ∨ j = 4 ∨ j = 5 ∨ j = 6 ∨ j = 7 := by simp at hj; omega
  rcases this with rfl | rfl | rfl | rfl | rfl | rfl | rfl | rfl <;> simp [Addr.add, World.cell?, hc]

theorem conv8a (W : World) (X : Obj) (b0 b1 b2 b3 b4 b5 b6 b7 : UInt8) :
    (convert 71 9 (.slice (some ⟨W.heap.size, 0, none⟩) 8 8)).run Tryd.prog ((W.alloc (.cells #[.int .u8 (b0.toNat : Int), .int .u8 (b1.toNat : Int), .int .u8 (b2.toNat : Int), .int .u8 (b3.toNat : Int), .int .u8 (b4.toNat : Int), .int .u8 (b5.toNat : Int), .int .u8 (b6.toNat : Int), .int .u8 (b7.toNat : Int)] 68)).alloc X).drew =
      .ok (.string (Bs.mk [b0, b1, b2, b3, b4, b5, b6, b7])) ((W.alloc (.cells #[.int .u8 (b0.toNat : Int), .int .u8 (b1.toNat : Int), .int .u8 (b2.toNat : Int), .int .u8 (b3.toNat : Int), .int .u8 (b4.toNat : Int), .int .u8 (b5.toNat : Int), .int .u8 (b6.toNat : Int), .int .u8 (b7.toNat : Int)] 68)).alloc X).drew := by
  refine conv8 _ _ b0 b1 b2 b3 b4 b5 b6 b7 ?_
  exact Bs.push2_at W.heap _ X
theorem conv8b (W : World) (X : Obj) (b0 b1 b2 b3 b4 b5 b6 b7 : UInt8) :
    (convert 71 9 (.slice (some ⟨W.heap.size + 1, 0, none⟩) 8 8)).run Tryd.prog ((W.alloc X).alloc (.cells #[.int .u8 (b0.toNat : Int), .int .u8 (b1.toNat : Int), .int .u8 (b2.toNat : Int), .int .u8 (b3.toNat : Int), .int .u8 (b4.toNat : Int), .int .u8 (b5.toNat : Int), .int .u8 (b6.toNat : Int), .int .u8 (b7.toNat : Int)] 68)).drew =
      .ok (.string (Bs.mk [b0, b1, b2, b3, b4, b5, b6, b7])) ((W.alloc X).alloc (.cells #[.int .u8 (b0.toNat : Int), .int .u8 (b1.toNat : Int), .int .u8 (b2.toNat : Int), .int .u8 (b3.toNat : Int), .int .u8 (b4.toNat : Int), .int .u8 (b5.toNat : Int), .int .u8 (b6.toNat : Int), .int .u8 (b7.toNat : Int)] 68)).drew := by
  refine conv8 _ _ b0 b1 b2 b3 b4 b5 b6 b7 ?_
  exact Bs.push2_at1 W.heap X _

set_option maxHeartbeats 400000 in
theorem chain_any (x : Nat) (s : ByteArray) (w : World) (hx : x < 18446744073709551616) (hs : s.size ≤ 140737488355328) :
    Calls Tryd.prog 23 #[.int .u64 x, .string s] w fun e w' => e = .returned (.int .u64 (P5.chain x s.data.toList)) ∧ Below w.heap.size w w' := by
  go_enter Tryd.func23, Tryd.ntmps23
  go_wp2_with fail
  refine (eight8_any _ _ hx).mono ?_
  rintro e w1 ⟨⟨a0, a1, a2, a3, a4, a5, a6, a7, hla, rfl⟩, hb⟩
  have HLA := Lib.hid hla
  clear hla
  go_wp2_with fail
  refine (eight8_any _ _ (by omega)).mono ?_
  rintro e w2 ⟨⟨b0, b1, b2, b3, b4, b5, b6, b7, hlb, rfl⟩, hb2⟩
  have HLB := Lib.hid hlb
  clear hlb
  have hca := conv8a w2
  have hcb := conv8b w2
  have hz1 : (Bs.mk [a0, a1, a2, a3, a4, a5, a6, a7]).size ≤ 8 := by rw [Bs.mk_size]; exact Nat.le_refl _
  have hz2 : (Bs.mk [b0, b1, b2, b3, b4, b5, b6, b7]).size ≤ 8 := by rw [Bs.mk_size]; exact Nat.le_refl _
  have hz3 : (Bs.mk [a0, a1, a2, a3, a4, a5, a6, a7] ++ Bs.mk [b0, b1, b2, b3, b4, b5, b6, b7]).size ≤ 16 := by rw [ByteArray.size_append]; omega
  have hz4 : (Bs.mk [a0, a1, a2, a3, a4, a5, a6, a7] ++ Bs.mk [b0, b1, b2, b3, b4, b5, b6, b7] ++ s).size ≤ maxLen := by rw [ByteArray.size_append]; unfold maxLen; omega
  have HE := Lib.hid (show P5.fnv ((Bs.mk [a0, a1, a2, a3, a4, a5, a6, a7]).data.toList ++ ((Bs.mk [b0, b1, b2, b3, b4, b5, b6, b7]).data.toList ++ s.data.toList)) = P5.chain x s.data.toList by
    rw [P5.chain, P5.linkL, HLA.out, Bs.len_list, HLB.out, Bs.mk_list, Bs.mk_list])
  go_wp2
  go_region_with (go_at_call 36; refine (hash_any _ _ hz4).mono ?_; rintro e w3 ⟨rfl, hb3⟩)
  all_goals (go_wp2; go_ret)
  all_goals exact ⟨Bs.ret_int (by rw [HE.out]), ((((hb.trans (hb2.mono hb.size)).alloc (Nat.le_trans hb.size hb2.size) _).alloc (by have := hb.size; have := hb2.size; simp; omega) _).drew).trans (hb3.mono (by have := hb.size; have := hb2.size; simp; omega))⟩
end Go.Proofs.YtenompgpjlbelaaDoor


namespace Go.Proofs.YtenompgpjlbelaaDoor
open Go.Shelf
def lays171_ren : Go.Shelf.Ren := ⟨fun | 171 => 24 | 243 => 37 | 246 => 50 | 283 => 58 | 284 => 59 | 285 => 60 | 286 => 61 | 129 => 74 | 317 => 73 | 318 => 75 | 319 => 76 | 320 => 77 | 337 => 96 | 338 => 97 | n => n, fun | 3 => 3 | 9 => 9 | 2 => 2 | 4 => 4 | 171 => 101 | 0 => 0 | 53 => 40 | 37 => 71 | 5 => 5 | 173 => 104 | 212 => 116 | 51 => 91 | 20 => 20 | 213 => 117 | 46 => 88 | 232 => 143 | 233 => 144 | n => n, fun | 17 => 0 | 18 => 1 | 19 => 2 | n => n⟩
theorem lays171 : Go.Proofs.LaysM.n171 Tryd.prog lays171_ren := {
  mixed := by kernel_rfl
  f129 := Tryd.func74.trans (congrArg some (by kernel_rfl))
  f171 := Tryd.func24.trans (congrArg some (by kernel_rfl))
  f243 := Tryd.func37.trans (congrArg some (by kernel_rfl))
  f246 := Tryd.func50.trans (congrArg some (by kernel_rfl))
  f283 := Tryd.func58.trans (congrArg some (by kernel_rfl))
  f284 := Tryd.func59.trans (congrArg some (by kernel_rfl))
  f285 := Tryd.func60.trans (congrArg some (by kernel_rfl))
  f286 := Tryd.func61.trans (congrArg some (by kernel_rfl))
  f317 := Tryd.func73.trans (congrArg some (by kernel_rfl))
  f318 := Tryd.func75.trans (congrArg some (by kernel_rfl))
  f319 := Tryd.func76.trans (congrArg some (by kernel_rfl))
  f320 := Tryd.func77.trans (congrArg some (by kernel_rfl))
  f337 := Tryd.func96.trans (congrArg some (by kernel_rfl))
  f338 := Tryd.func97.trans (congrArg some (by kernel_rfl))
  t0 := Tryd.underlying0
  a0 := Tryd.isAgg0
  z0 := Tryd.sizeOf0
  v0 := Tryd.zeroValue0
  t2 := Tryd.underlying2
  a2 := Tryd.isAgg2
  z2 := Tryd.sizeOf2
  v2 := Tryd.zeroValue2
  t3 := Tryd.underlying3
  a3 := Tryd.isAgg3
  z3 := Tryd.sizeOf3
  v3 := Tryd.zeroValue3
  t4 := Tryd.underlying4
  a4 := Tryd.isAgg4
  z4 := Tryd.sizeOf4
  v4 := Tryd.zeroValue4
  t5 := Tryd.underlying5
  a5 := Tryd.isAgg5
  z5 := Tryd.sizeOf5
  v5 := Tryd.zeroValue5
  t9 := Tryd.underlying9
  a9 := Tryd.isAgg9
  z9 := Tryd.sizeOf9
  v9 := Tryd.zeroValue9
  t20 := Tryd.underlying20
  a20 := Tryd.isAgg20
  z20 := Tryd.sizeOf20
  v20 := Tryd.zeroValue20
  t37 := Tryd.underlying71
  a37 := Tryd.isAgg71
  z37 := Tryd.sizeOf71
  v37 := Tryd.zeroValue71
  t46 := Tryd.underlying88
  a46 := Tryd.isAgg88
  z46 := Tryd.sizeOf88
  v46 := Tryd.zeroValue88
  t51 := Tryd.underlying91
  a51 := Tryd.isAgg91
  z51 := Tryd.sizeOf91
  v51 := Tryd.zeroValue91
  t53 := Tryd.underlying40
  a53 := Tryd.isAgg40
  z53 := Tryd.sizeOf40
  v53 := Tryd.zeroValue40
  t171 := Tryd.underlying101
  a171 := Tryd.isAgg101
  z171 := Tryd.sizeOf101
  v171 := Tryd.zeroValue101
  t173 := Tryd.underlying104
  a173 := Tryd.isAgg104
  z173 := Tryd.sizeOf104
  v173 := Tryd.zeroValue104
  t212 := Tryd.underlying116
  a212 := Tryd.isAgg116
  z212 := Tryd.sizeOf116
  v212 := Tryd.zeroValue116
  t213 := Tryd.underlying117
  a213 := Tryd.isAgg117
  z213 := Tryd.sizeOf117
  t232 := Tryd.underlying143
  a232 := Tryd.isAgg143
  z232 := Tryd.sizeOf143
  v232 := Tryd.zeroValue143
  t233 := Tryd.underlying144
  a233 := Tryd.isAgg144
  z233 := Tryd.sizeOf144
  v233 := Tryd.zeroValue144
  g17 := by kernel_rfl
  g18 := by kernel_rfl
  g19 := by kernel_rfl
  i0 := by kernel_rfl
  i2 := by kernel_rfl
  i3 := by kernel_rfl
  i4 := by kernel_rfl
  i5 := by kernel_rfl
  i9 := by kernel_rfl
  i20 := by kernel_rfl
  i37 := by kernel_rfl
  i46 := by kernel_rfl
  i51 := by kernel_rfl
  i53 := by kernel_rfl
  i171 := by kernel_rfl
  i173 := by kernel_rfl
  i212 := by kernel_rfl
  i232 := by kernel_rfl
  i233 := by kernel_rfl
  m17 := by kernel_rfl
  m18 := by kernel_rfl
  m19 := by kernel_rfl }
open Go.X Go.RowKit
set_option linter.unusedSimpArgs false
set_option linter.unusedVariables false
/-- A contract out of the library's own walk: numbers and strings in, one out, nothing of the heap. -/
theorem ctr_nil {P : Program} {F : Nat} {args : List T} {v : T} (hcf : ∀ (args : Array Value) (W : World), (callFunc F args).run P W = .ok (.enter F args) W) (hb : v.bel 0)
    (run : ∀ β W, PinW W → Calls P F (args.map (T.ren β)).toArray W fun e W' => e = .returned (v.ren β) ∧ Below W.heap.size W W') :
    Ctr P F args [] fun u h' => u = v ∧ h' = [] := by
  refine ⟨hcf, fun β W hf hp => (run β W hp.1).mono fun e W' ⟨he, hl⟩ => ?_⟩
  have hno : ∀ f x, Go.X.get [] f x = .no := fun f x => by simp [Go.X.get]
  refine ⟨v, [], β, ⟨rfl, rfl⟩, he, hb, ⟨Nat.le_refl _, fun _ _ _ => rfl, ⟨fun f x => ?_, fun f x g y hne ho hkn => ?_⟩, ⟨(fun i v hv => by cases hv), (fun f x => ?_)⟩, hl.os, hl.tape, hl.output, hl.size, fun b hb _ => hl.block b hb, fun f x ho => ?_, fun f x ho => ?_⟩⟩
  · rw [hno]; trivial
  · rw [hno] at ho; cases ho
  · rw [hno]; trivial
  · rw [hno] at ho; cases ho
  · rw [hno] at ho; cases ho
theorem pow_at : Tryd.prog.globalNamed "internal/strconv.uint64pow10" = some 0 := by kernel_rfl
theorem pin_tab {W : World} (h : PinW W) : Lib.TabIs Tryd.prog W "internal/strconv.uint64pow10" .u64 Lib.pow10Tab := by
  obtain ⟨t, fr, e⟩ := h _ (List.mem_singleton.2 rfl)
  unfold Lib.TabIs World.var?
  rw [pow_at]
  simp only [Option.bind_some]
  rw [e]
theorem tab_pin {W : World} (h : Lib.TabIs Tryd.prog W "internal/strconv.uint64pow10" .u64 Lib.pow10Tab) : PinW W := by
  intro p hp
  obtain rfl := List.mem_singleton.1 hp
  unfold Lib.TabIs World.var? at h
  rw [pow_at] at h
  simp only [Option.bind_some] at h
  split at h
  · rename_i cs t fr e
    rw [Option.some.inj h] at e
    exact ⟨t, fr, e⟩
  · cases h
/-- The decimal numeral. -/
def numL (n : Int) : List UInt8 := if n < 0 then 45 :: dig n.natAbs else dig n.toNat
theorem dig_dec : ∀ u : Nat, Lib.decDigits u = dig u := by
  intro u
  induction u using Nat.strongRecOn with
  | _ u ih =>
  rw [Lib.decDigits, dig]
  by_cases h : u < 10
  · rw [dif_pos h, if_pos h]
  · rw [dif_neg h, if_neg h, ih (u / 10) (by omega)]
theorem itoa_num (n : Int) : Lib.itoa n = numL n := by
  unfold Lib.itoa numL
  rw [dig_dec, dig_dec]
theorem grow_below (w : World) (k : Nat) (os : Array Obj) : Below w.heap.size w (Go.Sort.grow (w.drewN k) os) := by
  refine ⟨rfl, rfl, rfl, ?_, fun b hb => ?_⟩
  · show w.heap.size ≤ (w.heap ++ os).size
    rw [Array.size_append]; omega
  · show (w.heap ++ os)[b]? = _
    rw [Array.getElem?_append_left hb]
theorem citoa (n : Int) (h0 : -9223372036854775808 ≤ n) (h1 : n ≤ 9223372036854775807) :
    Ctr Tryd.prog 24 [.c (.i .i64 n)] [] fun v h => v = .c (.s (mkS (numL n))) ∧ h = [] :=
  ctr_nil (fun _ _ => by kernel_rfl) trivial fun β W hp => (Any.strconv_Itoa lays171 n h0 h1 W (pin_tab hp)).mono fun e W' ⟨he, k, os, hw⟩ => by
    subst hw
    rw [he, itoa_num]
    exact ⟨rfl, grow_below W k os⟩
theorem cchain (x : Nat) (l : List UInt8) (hx : x < 18446744073709551616) (hl : l.length ≤ 140737488355328) :
    Ctr Tryd.prog 23 [.c (.i .u64 (x : Nat)), .c (.s (mkS l))] [] fun v h => v = .c (.i .u64 (P5.chain x l : Nat)) ∧ h = [] :=
  ctr_nil (fun _ _ => by kernel_rfl) trivial fun β W _ => (chain_any x (mkS l) W hx hl).mono fun e W' ⟨he, hw⟩ => ⟨he, hw⟩
theorem crchain (x : Nat) (l : List UInt8) (hx : x < 18446744073709551616) (hl : l.length ≤ 140737488355328) :
    Ctr Tryd.prog 25 [.c (.i .u64 (x : Nat)), .c (.s (mkS l))] [] fun v h => v = .c (.i .u64 (P5.chain x l : Nat)) ∧ h = [] :=
  ctr_nil (fun _ _ => by kernel_rfl) trivial fun β W _ => (rchain_any x (mkS l) W hx hl).mono fun e W' ⟨he, hw⟩ => ⟨he, hw⟩
theorem chain_lt (x : Nat) (l : List UInt8) : P5.chain x l < 18446744073709551616 := P5.fnv_lt _
set_option maxRecDepth 10000 in
theorem rnumber (n : Int) (h0 : -1000000000000000 ≤ n) (h1 : n ≤ 1000000000000000) :
    Ctr Tryd.prog 26 [.c (.i .i64 n)] [] fun v h => v = .c (.s (mkS (numL n))) ∧ h = [] := by
  refine Ctr.mk' tbv mixed Tryd.func26 rfl rfl rfl (fun _ _ => by kernel_rfl) (by kernel_rfl) (by rfl) (by rfl) (by (repeat' first | refine And.intro ?_ ?_ | exact xeC | fail)) ?_
  repeat' (first | (fail_if_success (with_reducible refine xstp ?_)); first | ((with_reducible refine And.intro (fun (hb : _ = true) => ?_) (fun (hb : _ = false) => ?_)) <;> replace hb := xnC hb <;> (try first | exact xfC | exact bff hb (by assumption) | exact bff (by assumption) hb)) | ((with_reducible refine OvK.fit ?_ ?_); focus exact xoC) | (with_reducible intro hc; (try simp only [capsP, and_true] at hc); (try exact xfC)) | ((fail_if_success (with_reducible first | refine xgon ?_ | intro _)); (conv => whnf); (fail_if_success (fail_if_success (with_reducible first | refine xstp ?_ | refine xgon ?_ | intro _)))))
  · have e : 0 - n = ((n.natAbs : Nat) : Int) := by omega
    have en : numL n = 45 :: dig n.natAbs := if_pos hb
    have hd := dig_le n.natAbs
    have z : (mkS (dig n.natAbs)).size = (dig n.natAbs).length := rfl
    have hc : (⟨#[45]⟩ : ByteArray) ++ mkS (dig n.natAbs) = mkS (45 :: dig n.natAbs) := mkS_append [45] _
    rw [e]
    refine xcal (σ := []) (nl := []) (rdigits n.natAbs (by omega)) ?_
    rintro v h' ⟨rfl, rfl⟩ hcaps
    refine xret ?_
    repeat' (first | (fail_if_success (with_reducible refine xstp ?_)); first | ((fail_if_success (with_reducible first | refine xgon ?_ | intro _)); (conv => whnf); (fail_if_success (fail_if_success (with_reducible first | refine xstp ?_ | refine xgon ?_ | intro _)))))
    refine ⟨?_, ?_⟩
    · rw [z]
      show 1 + _ ≤ _
      omega
    repeat' (first | (fail_if_success (with_reducible refine xstp ?_)); first | ((fail_if_success (with_reducible first | refine xgon ?_ | intro _)); (conv => whnf); (fail_if_success (fail_if_success (with_reducible first | refine xstp ?_ | refine xgon ?_ | intro _)))))
    rw [hc, en]
    exact FinK.mk ⟨[], _, _, ⟨rfl, rfl⟩, by (repeat' first | refine And.intro ?_ ?_ | exact xeC | fail)⟩
  · have e : n = ((n.toNat : Nat) : Int) := by omega
    have en : numL n = dig n.toNat := if_neg (by omega)
    rw [en]
    rw [e]
    simp only [Int.toNat_natCast]
    refine xcal (σ := []) (nl := []) (rdigits n.toNat (by omega)) ?_
    rintro v h' ⟨rfl, rfl⟩ hcaps
    refine xret ?_
    repeat' (first | (fail_if_success (with_reducible refine xstp ?_)); first | ((fail_if_success (with_reducible first | refine xgon ?_ | intro _)); (conv => whnf); (fail_if_success (fail_if_success (with_reducible first | refine xstp ?_ | refine xgon ?_ | intro _)))))
    exact FinK.mk ⟨[], _, _, ⟨rfl, rfl⟩, by (repeat' first | refine And.intro ?_ ?_ | exact xeC | fail)⟩
/-- What is hashed of a record; the digest of records. -/
def recD (r : Rc) : List UInt8 := numL r.at_ ++ [32] ++ r.tp ++ [32] ++ r.pl
def digL (l : List Rc) : Nat := l.foldl (fun h r => P5.chain h (recD r)) 0
theorem digL_snoc (l : List Rc) (r : Rc) : digL (l ++ [r]) = P5.chain (digL l) (recD r) := by unfold digL; rw [List.foldl_append, List.foldl_cons, List.foldl_nil]
theorem digL_lt (l : List Rc) : digL l < 18446744073709551616 := by
  rcases List.eq_nil_or_concat l with rfl | ⟨m, r, rfl⟩
  · decide
  · rw [List.concat_eq_append, digL_snoc]; exact chain_lt _ _
theorem dig_len17 : ∀ (k n : Nat), n < 10 ^ (k + 1) → (dig n).length ≤ k + 1 := by
  intro k
  induction k with
  | zero => intro n h; rw [dig_lt (by omega)]; exact Nat.le_refl _
  | succ k ih =>
    intro n h
    by_cases h1 : n < 10
    · rw [dig_lt h1]; exact Nat.le_add_left _ _
    · rw [dig_ge h1, List.length_append]
      have := ih (n / 10) (by rw [Nat.pow_succ] at h; omega)
      show (dig (n / 10)).length + 1 ≤ _
      omega
theorem num_len {n : Int} (h0 : -1000000000000000 ≤ n) (h1 : n ≤ 1000000000000000) : (numL n).length ≤ 20 := by
  unfold numL
  split
  · have := dig_len17 15 n.natAbs (Nat.lt_of_lt_of_le (show n.natAbs < 10000000000000000 by omega) (by decide))
    rw [List.length_cons]; omega
  · have := dig_len17 15 n.toNat (Nat.lt_of_lt_of_le (show n.toNat < 10000000000000000 by omega) (by decide))
    omega
/-- Records of the law: short, and of times that are not too great. -/
def dgOk (l : List Rc) : Prop := fewL l ∧ ∀ i, i < l.length → -1000000000000000 ≤ (l.getD i default).at_ ∧ (l.getD i default).at_ ≤ 1000000000000000
theorem rec_str (r : Rc) : ((((mkS (numL r.at_) ++ mkS [32]) ++ mkS r.tp) ++ mkS [32]) ++ mkS r.pl) = mkS (recD r) := by
  rw [mkS_append, mkS_append, mkS_append, mkS_append]; rfl
theorem rH42yjK0 {σ : List Sg} {H h' : List Fam} {v : T} {K : T → List Fam → Prop} {H' : List Fam} {v' : T} {N : Nat} (hk : K v' H') (hN : H.length = N := by (try simp only [↓List.length_cons, ↓List.length_nil, Nat.reduceAdd]) <;> rfl) (h : givesF σ N H σ h' = some H' := by (try simp (maxSteps := 1000000) only [givesF, setF, updF, Fam.zeroth, Fam.rk, Ck.rk, C.rk, E.rk, T.rk, key, List.map_cons, List.map_nil, List.cons_append, List.nil_append, List.length_cons, List.length_nil, Option.map_some, Option.bind_some, Nat.reduceAdd, Nat.zero_add, Nat.add_zero, Nat.add_sub_cancel_left, Int.toNat_natCast, reps, List.all_cons, List.all_nil, C.flat, List.append_eq, Bool.not_true, Bool.and_true, Bool.or_false, Bool.or_self, Bool.not_false, List.append_nil, Bool.and_self, encR]) <;> rfl) (hv : v.rk σ N = v' := by (try simp only [givesF, setF, updF, Fam.zeroth, Fam.rk, Ck.rk, C.rk, E.rk, T.rk, key, List.map_cons, List.map_nil, List.cons_append, List.nil_append, List.length_cons, List.length_nil, Option.map_some, Option.bind_some, Nat.reduceAdd, Nat.zero_add, Nat.add_zero, Nat.add_sub_cancel_left, Int.toNat_natCast, reps, List.all_cons, List.all_nil, C.flat, List.append_eq, Bool.not_true, Bool.and_true, Bool.or_false, Bool.or_self, Bool.not_false, List.append_nil, Bool.and_self, encR]) <;> rfl) : RetG σ H h' v K := ret_mk3 hN h hv hk
set_option maxRecDepth 10000 in
set_option maxHeartbeats 8000000 in
theorem cdigest (w : Bool) (l : List Rc) (c : Nat) (hl : dgOk l) :
    Ctr Tryd.prog 12 [.c (.sl 0 0 3 0 l.length c)] [.one (rcR w l c)] fun v h => v = .c (.i .u64 (digL l : Nat)) ∧ h = [.one (rcR w l c)] := by
  have hll := hl.1.1
  refine Ctr.mk' tbv mixed Tryd.func12 rfl rfl rfl (fun _ _ => by kernel_rfl) (by kernel_rfl) (by rfl) (by rfl) (by (repeat' first | refine And.intro ?_ ?_ | exact xeC | fail)) ?_
  repeat' (first | (fail_if_success (with_reducible refine xstp ?_)); first | (with_reducible intro hc; (try simp only [capsP, and_true] at hc); (try exact xfC)) | ((fail_if_success (with_reducible first | refine xgon ?_ | intro _)); (conv => whnf); (fail_if_success (fail_if_success (with_reducible first | refine xstp ?_ | refine xgon ?_ | intro _)))))
  refine LoopK.mk' {i : Nat // i ≤ l.length}
    (fun ⟨i, _⟩ => ⟨[(3, .c (.i .u64 (digL (l.take i) : Nat))), (6, .c (.sl 0 0 3 0 l.length c)), (7, .c (.i .i64 (l.length : Nat))), (8, .c (.i .i64 (i : Nat)))], [.one (rcR w l c)]⟩) (fun t => l.length - t.1)
    ⟨⟨0, Nat.zero_le _⟩, [0], ?_⟩ ?_
  · (repeat' first | refine And.intro ?_ ?_ | exact xeC | fail)
  rintro ⟨i, hi⟩
  have e3 : 0 + ((i : Nat) : Int).toNat = i := by omega
  rcases Nat.lt_or_ge i l.length with hlt | hge
  · obtain ⟨p1, p2⟩ := hl.1.2 i hlt
    obtain ⟨q1, q2⟩ := hl.2 i hlt
    have hsn := take_snocG l hlt
    have hds := digL_snoc (l.take i) (l.getD i default)
    rw [← hsn] at hds
    have hd := digL_lt (l.take i)
    have hnl := num_len q1 q2
    have hrs := rec_str (l.getD i default)
    have hrl : (recD (l.getD i default)).length ≤ 300 := by unfold recD; simp only [List.length_append, List.length_singleton]; omega
    repeat' (first | (fail_if_success (with_reducible refine xstp ?_)); first | ((with_reducible refine And.intro (fun (hb : _ = true) => ?_) (fun (hb : _ = false) => ?_)) <;> replace hb := xnC hb <;> (try first | exact xfC | exact bff hb (by assumption) | exact bff (by assumption) hb)) | ((with_reducible refine And.intro ?_ ?_); focus exact xoC) | (with_reducible intro hc; (try simp only [capsP, and_true] at hc); (try exact xfC)) | ((fail_if_success (with_reducible first | refine xgon ?_ | intro _)); (conv => whnf); (fail_if_success (fail_if_success (with_reducible first | refine xstp ?_ | refine xgon ?_ | intro _)))))
    rw [e3]
    generalize l.getD i default = x at *
    have c1 : mkS (numL x.at_) ++ (⟨#[32]⟩ : ByteArray) = mkS (numL x.at_ ++ [32]) := mkS_append _ [32]
    have c2 : mkS (numL x.at_ ++ [32]) ++ mkS x.tp = mkS (numL x.at_ ++ [32] ++ x.tp) := mkS_append _ _
    have c3 : mkS (numL x.at_ ++ [32] ++ x.tp) ++ (⟨#[32]⟩ : ByteArray) = mkS (numL x.at_ ++ [32] ++ x.tp ++ [32]) := mkS_append _ [32]
    have c4 : mkS (numL x.at_ ++ [32] ++ x.tp ++ [32]) ++ mkS x.pl = mkS (recD x) := mkS_append _ _
    refine xcal (σ := []) (nl := []) (citoa x.at_ (by omega) (by omega)) ?_
    rintro v h' ⟨rfl, rfl⟩ hcaps
    refine rH42yjK0 ?_
    repeat' (first | (fail_if_success (with_reducible refine xstp ?_)); first | ((with_reducible refine And.intro ?_ ?_); focus exact xoC) | ((fail_if_success (with_reducible first | refine xgon ?_ | intro _)); (conv => whnf); (fail_if_success (fail_if_success (with_reducible first | refine xstp ?_ | refine xgon ?_ | intro _)))))
    refine ⟨?_, ?_⟩
    · have hx : (numL x.at_).length ≤ 300 := by (try simp only [List.length_append, List.length_singleton]); omega
      have hy : ([32]).length ≤ 300 := by (try simp only [List.length_singleton]); omega
      exact Nat.le_trans (show (mkS (numL x.at_)).size + (mkS ([32])).size ≤ 600 from Nat.add_le_add hx hy) (by decide)
    repeat' (first | (fail_if_success (with_reducible refine xstp ?_)); first | ((fail_if_success (with_reducible first | refine xgon ?_ | intro _)); (conv => whnf); (fail_if_success (fail_if_success (with_reducible first | refine xstp ?_ | refine xgon ?_ | intro _)))))
    rw [c1]
    refine ⟨?_, ?_⟩
    · have hx : (numL x.at_ ++ [32]).length ≤ 300 := by (try simp only [List.length_append, List.length_singleton]); omega
      have hy : (x.tp).length ≤ 300 := by (try simp only [List.length_singleton]); omega
      exact Nat.le_trans (show (mkS (numL x.at_ ++ [32])).size + (mkS (x.tp)).size ≤ 600 from Nat.add_le_add hx hy) (by decide)
    repeat' (first | (fail_if_success (with_reducible refine xstp ?_)); first | ((fail_if_success (with_reducible first | refine xgon ?_ | intro _)); (conv => whnf); (fail_if_success (fail_if_success (with_reducible first | refine xstp ?_ | refine xgon ?_ | intro _)))))
    rw [c2]
    refine ⟨?_, ?_⟩
    · have hx : (numL x.at_ ++ [32] ++ x.tp).length ≤ 300 := by (try simp only [List.length_append, List.length_singleton]); omega
      have hy : ([32]).length ≤ 300 := by (try simp only [List.length_singleton]); omega
      exact Nat.le_trans (show (mkS (numL x.at_ ++ [32] ++ x.tp)).size + (mkS ([32])).size ≤ 600 from Nat.add_le_add hx hy) (by decide)
    repeat' (first | (fail_if_success (with_reducible refine xstp ?_)); first | ((fail_if_success (with_reducible first | refine xgon ?_ | intro _)); (conv => whnf); (fail_if_success (fail_if_success (with_reducible first | refine xstp ?_ | refine xgon ?_ | intro _)))))
    rw [c3]
    refine ⟨?_, ?_⟩
    · have hx : (numL x.at_ ++ [32] ++ x.tp ++ [32]).length ≤ 300 := by (try simp only [List.length_append, List.length_singleton]); omega
      have hy : (x.pl).length ≤ 300 := by (try simp only [List.length_singleton]); omega
      exact Nat.le_trans (show (mkS (numL x.at_ ++ [32] ++ x.tp ++ [32])).size + (mkS (x.pl)).size ≤ 600 from Nat.add_le_add hx hy) (by decide)
    repeat' (first | (fail_if_success (with_reducible refine xstp ?_)); first | ((fail_if_success (with_reducible first | refine xgon ?_ | intro _)); (conv => whnf); (fail_if_success (fail_if_success (with_reducible first | refine xstp ?_ | refine xgon ?_ | intro _)))))
    rw [c4]
    refine xcal (σ := []) (nl := []) (cchain (digL (l.take i)) (recD x) hd (by omega)) ?_
    rintro v h' ⟨rfl, rfl⟩ hcaps
    refine rH42yjK0 ?_
    repeat' (first | (fail_if_success (with_reducible refine xstp ?_)); first | ((with_reducible refine OvK.fit ?_ ?_); focus exact xoC) | ((fail_if_success (with_reducible first | refine xgon ?_ | intro _)); (conv => whnf); (fail_if_success (fail_if_success (with_reducible first | refine xstp ?_ | refine xgon ?_ | intro _)))))
    refine ⟨⟨i + 1, hlt⟩, [0], by simp only; omega, ?_⟩
    simp only [hds]
    (repeat' first | refine And.intro ?_ ?_ | exact xeC | fail)
  · obtain rfl : i = l.length := by omega
    repeat' (first | (fail_if_success (with_reducible refine xstp ?_)); first | ((with_reducible refine And.intro (fun (hb : _ = true) => ?_) (fun (hb : _ = false) => ?_)) <;> replace hb := xnC hb <;> (try first | exact xfC | exact bff hb (by assumption) | exact bff (by assumption) hb)) | (with_reducible intro hc; (try simp only [capsP, and_true] at hc); (try exact xfC)) | ((fail_if_success (with_reducible first | refine xgon ?_ | intro _)); (conv => whnf); (fail_if_success (fail_if_success (with_reducible first | refine xstp ?_ | refine xgon ?_ | intro _)))))
    rw [List.take_length]
    refine FinK.mk ⟨[0], _, _, ⟨rfl, rfl⟩, ?_⟩
    (repeat' first | refine And.intro ?_ ?_ | exact xeC | fail)
end Go.Proofs.YtenompgpjlbelaaDoor


namespace Go.Proofs.YtenompgpjlbelaaDoor
open Go.X
set_option linter.unusedSimpArgs false
set_option linter.unusedVariables false
open P4
open P5
theorem rH42yjL0 {σ : List Sg} {H h' : List Fam} {v : T} {K : T → List Fam → Prop} {H' : List Fam} {v' : T} {N : Nat} (hk : K v' H') (hN : H.length = N := by (try simp only [↓List.length_cons, ↓List.length_nil, Nat.reduceAdd]) <;> rfl) (h : givesF σ N H σ h' = some H' := by (try simp (maxSteps := 1000000) only [givesF, setF, updF, Fam.zeroth, Fam.rk, Ck.rk, C.rk, E.rk, T.rk, key, List.map_cons, List.map_nil, List.cons_append, List.nil_append, List.length_cons, List.length_nil, Option.map_some, Option.bind_some, Nat.reduceAdd, Nat.zero_add, Nat.add_zero, Nat.add_sub_cancel_left, Int.toNat_natCast, reps, List.all_cons, List.all_nil, C.flat, List.append_eq, Bool.not_true, Bool.and_true, Bool.or_false, Bool.or_self, Bool.not_false, List.append_nil, Bool.and_self, encR]) <;> rfl) (hv : v.rk σ N = v' := by (try simp only [givesF, setF, updF, Fam.zeroth, Fam.rk, Ck.rk, C.rk, E.rk, T.rk, key, List.map_cons, List.map_nil, List.cons_append, List.nil_append, List.length_cons, List.length_nil, Option.map_some, Option.bind_some, Nat.reduceAdd, Nat.zero_add, Nat.add_zero, Nat.add_sub_cancel_left, Int.toNat_natCast, reps, List.all_cons, List.all_nil, C.flat, List.append_eq, Bool.not_true, Bool.and_true, Bool.or_false, Bool.or_self, Bool.not_false, List.append_nil, Bool.and_self, encR]) <;> rfl) : RetG σ H h' v K := ret_mk3 hN h hv hk
set_option maxRecDepth 10000 in
set_option maxHeartbeats 8000000 in
theorem rdigest (w : Bool) (l : List Rc) (c : Nat) (hl : dgOk l) :
    Ctr Tryd.prog 13 [.c (.sl 0 0 3 0 l.length c)] [.one (rcR w l c)] fun v h => v = .c (.i .u64 (digL l : Nat)) ∧ h = [.one (rcR w l c)] := by
  have hll := hl.1.1
  refine Ctr.mk' tbv mixed Tryd.func13 rfl rfl rfl (fun _ _ => by kernel_rfl) (by kernel_rfl) (by rfl) (by rfl) (by (repeat' first | refine And.intro ?_ ?_ | exact xeC | fail)) ?_
  repeat' (first | (fail_if_success (with_reducible refine xstp ?_)); first | (with_reducible intro hc; (try simp only [capsP, and_true] at hc); (try exact xfC)) | ((fail_if_success (with_reducible first | refine xgon ?_ | intro _)); (conv => whnf); (fail_if_success (fail_if_success (with_reducible first | refine xstp ?_ | refine xgon ?_ | intro _)))))
  refine LoopK.mk' {i : Nat // i ≤ l.length}
    (fun ⟨i, _⟩ => ⟨[(0, .c (.sl 0 0 3 0 l.length c)), (3, .c (.i .u64 (digL (l.take i) : Nat))), (4, .c (.i .i64 (i : Nat)))], [.one (rcR w l c)]⟩) (fun t => l.length - t.1)
    ⟨⟨0, Nat.zero_le _⟩, [0], ?_⟩ ?_
  · (repeat' first | refine And.intro ?_ ?_ | exact xeC | fail)
  rintro ⟨i, hi⟩
  have e3 : 0 + ((i : Nat) : Int).toNat = i := by omega
  rcases Nat.lt_or_ge i l.length with hlt | hge
  · obtain ⟨p1, p2⟩ := hl.1.2 i hlt
    obtain ⟨q1, q2⟩ := hl.2 i hlt
    have hsn := take_snocG l hlt
    have hds := digL_snoc (l.take i) (l.getD i default)
    rw [← hsn] at hds
    have hd := digL_lt (l.take i)
    have hnl := num_len q1 q2
    have hrl : (recD (l.getD i default)).length ≤ 300 := by unfold recD; simp only [List.length_append, List.length_singleton]; omega
    have c1 : mkS (numL (l.getD i default).at_) ++ (⟨#[32]⟩ : ByteArray) = mkS (numL (l.getD i default).at_ ++ [32]) := mkS_append _ [32]
    have c2 : mkS (numL (l.getD i default).at_ ++ [32]) ++ mkS (l.getD i default).tp = mkS (numL (l.getD i default).at_ ++ [32] ++ (l.getD i default).tp) := mkS_append _ _
    have c3 : mkS (numL (l.getD i default).at_ ++ [32] ++ (l.getD i default).tp) ++ (⟨#[32]⟩ : ByteArray) = mkS (numL (l.getD i default).at_ ++ [32] ++ (l.getD i default).tp ++ [32]) := mkS_append _ [32]
    have c4 : mkS (numL (l.getD i default).at_ ++ [32] ++ (l.getD i default).tp ++ [32]) ++ mkS (l.getD i default).pl = mkS (recD (l.getD i default)) := mkS_append _ _
    repeat' (first | (fail_if_success (with_reducible refine xstp ?_)); first | ((with_reducible refine And.intro (fun (hb : _ = true) => ?_) (fun (hb : _ = false) => ?_)) <;> replace hb := xnC hb <;> (try first | exact xfC | exact bff hb (by assumption) | exact bff (by assumption) hb)) | ((with_reducible refine And.intro ?_ ?_); focus exact xoC) | (with_reducible intro hc; (try simp only [capsP, and_true] at hc); (try exact xfC)) | ((fail_if_success (with_reducible first | refine xgon ?_ | intro _)); (conv => whnf); (fail_if_success (fail_if_success (with_reducible first | refine xstp ?_ | refine xgon ?_ | intro _)))))
    rw [e3]
    generalize l.getD i default = x at *
    refine xcal (σ := []) (nl := []) (rnumber x.at_ (by omega) (by omega)) ?_
    rintro v h' ⟨rfl, rfl⟩ hcaps
    refine rH42yjL0 ?_
    repeat' (first | (fail_if_success (with_reducible refine xstp ?_)); first | ((with_reducible refine And.intro ?_ ?_); focus exact xoC) | ((fail_if_success (with_reducible first | refine xgon ?_ | intro _)); (conv => whnf); (fail_if_success (fail_if_success (with_reducible first | refine xstp ?_ | refine xgon ?_ | intro _)))))
    refine ⟨?_, ?_⟩
    · have hx : (numL x.at_).length ≤ 300 := by (try simp only [List.length_append, List.length_singleton]); omega
      have hy : ([32]).length ≤ 300 := by (try simp only [List.length_singleton]); omega
      exact Nat.le_trans (show (mkS (numL x.at_)).size + (mkS ([32])).size ≤ 600 from Nat.add_le_add hx hy) (by decide)
    repeat' (first | (fail_if_success (with_reducible refine xstp ?_)); first | ((fail_if_success (with_reducible first | refine xgon ?_ | intro _)); (conv => whnf); (fail_if_success (fail_if_success (with_reducible first | refine xstp ?_ | refine xgon ?_ | intro _)))))
    rw [c1]
    refine ⟨?_, ?_⟩
    · have hx : (numL x.at_ ++ [32]).length ≤ 300 := by (try simp only [List.length_append, List.length_singleton]); omega
      have hy : (x.tp).length ≤ 300 := by (try simp only [List.length_singleton]); omega
      exact Nat.le_trans (show (mkS (numL x.at_ ++ [32])).size + (mkS (x.tp)).size ≤ 600 from Nat.add_le_add hx hy) (by decide)
    repeat' (first | (fail_if_success (with_reducible refine xstp ?_)); first | ((fail_if_success (with_reducible first | refine xgon ?_ | intro _)); (conv => whnf); (fail_if_success (fail_if_success (with_reducible first | refine xstp ?_ | refine xgon ?_ | intro _)))))
    rw [c2]
    refine ⟨?_, ?_⟩
    · have hx : (numL x.at_ ++ [32] ++ x.tp).length ≤ 300 := by (try simp only [List.length_append, List.length_singleton]); omega
      have hy : ([32]).length ≤ 300 := by (try simp only [List.length_singleton]); omega
      exact Nat.le_trans (show (mkS (numL x.at_ ++ [32] ++ x.tp)).size + (mkS ([32])).size ≤ 600 from Nat.add_le_add hx hy) (by decide)
    repeat' (first | (fail_if_success (with_reducible refine xstp ?_)); first | ((fail_if_success (with_reducible first | refine xgon ?_ | intro _)); (conv => whnf); (fail_if_success (fail_if_success (with_reducible first | refine xstp ?_ | refine xgon ?_ | intro _)))))
    rw [c3]
    refine ⟨?_, ?_⟩
    · have hx : (numL x.at_ ++ [32] ++ x.tp ++ [32]).length ≤ 300 := by (try simp only [List.length_append, List.length_singleton]); omega
      have hy : (x.pl).length ≤ 300 := by (try simp only [List.length_singleton]); omega
      exact Nat.le_trans (show (mkS (numL x.at_ ++ [32] ++ x.tp ++ [32])).size + (mkS (x.pl)).size ≤ 600 from Nat.add_le_add hx hy) (by decide)
    repeat' (first | (fail_if_success (with_reducible refine xstp ?_)); first | ((fail_if_success (with_reducible first | refine xgon ?_ | intro _)); (conv => whnf); (fail_if_success (fail_if_success (with_reducible first | refine xstp ?_ | refine xgon ?_ | intro _)))))
    rw [c4]
    refine xcal (σ := []) (nl := []) (crchain (digL (l.take i)) (recD x) hd (by omega)) ?_
    rintro v h' ⟨rfl, rfl⟩ hcaps
    refine rH42yjL0 ?_
    repeat' (first | (fail_if_success (with_reducible refine xstp ?_)); first | ((with_reducible refine OvK.fit ?_ ?_); focus exact xoC) | ((fail_if_success (with_reducible first | refine xgon ?_ | intro _)); (conv => whnf); (fail_if_success (fail_if_success (with_reducible first | refine xstp ?_ | refine xgon ?_ | intro _)))))
    refine ⟨⟨i + 1, hlt⟩, [0], by simp only; omega, ?_⟩
    simp only [hds]
    (repeat' first | refine And.intro ?_ ?_ | exact xeC | fail)
  · obtain rfl : i = l.length := by omega
    repeat' (first | (fail_if_success (with_reducible refine xstp ?_)); first | ((with_reducible refine And.intro (fun (hb : _ = true) => ?_) (fun (hb : _ = false) => ?_)) <;> replace hb := xnC hb <;> (try first | exact xfC | exact bff hb (by assumption) | exact bff (by assumption) hb)) | (with_reducible intro hc; (try simp only [capsP, and_true] at hc); (try exact xfC)) | ((fail_if_success (with_reducible first | refine xgon ?_ | intro _)); (conv => whnf); (fail_if_success (fail_if_success (with_reducible first | refine xstp ?_ | refine xgon ?_ | intro _)))))
    rw [List.take_length]
    refine FinK.mk ⟨[0], _, _, ⟨rfl, rfl⟩, ?_⟩
    (repeat' first | refine And.intro ?_ ?_ | exact xeC | fail)
set_option maxRecDepth 10000 in
set_option maxHeartbeats 8000000 in
theorem ldigests (w : Bool) (l : List Rc) (c : Nat) (hl : l.length ≤ 9223372036854775807) :
    Ctr Tryd.prog 4 [.c (.sl 0 0 3 0 l.length c)] [.one (rcR w l c)] fun v h => v = .c .tt ∧ h = [.one (rcR w l c)] := by
  refine Ctr.mk' tbv mixed Tryd.func4 rfl rfl rfl (fun _ _ => by kernel_rfl) (by kernel_rfl) (by rfl) (by rfl) (by (repeat' first | refine And.intro ?_ ?_ | exact xeC | fail)) ?_
  repeat' (first | (fail_if_success (with_reducible refine xstp ?_)); first | (with_reducible intro hc; (try simp only [capsP, and_true] at hc); (try exact xfC)) | ((fail_if_success (with_reducible first | refine xgon ?_ | intro _)); (conv => whnf); (fail_if_success (fail_if_success (with_reducible first | refine xstp ?_ | refine xgon ?_ | intro _)))))
  refine xcal (σ := [.whole 0]) (nl := []) (clong w l c hl) ?_
  rintro v h' ⟨hq, rfl⟩ hcaps
  rcases hq with rfl | ⟨rfl, hf⟩
  · refine xret ?_
    repeat' (first | (fail_if_success (with_reducible refine xstp ?_)); first | ((fail_if_success (with_reducible first | refine xgon ?_ | intro _)); (conv => whnf); (fail_if_success (fail_if_success (with_reducible first | refine xstp ?_ | refine xgon ?_ | intro _)))))
    refine xcal (σ := []) (nl := []) (cawake42) ?_
    rintro v h' ⟨rfl, rfl⟩ hcaps
    refine xret ?_
    repeat' (first | (fail_if_success (with_reducible refine xstp ?_)); first | ((fail_if_success (with_reducible first | refine xgon ?_ | intro _)); (conv => whnf); (fail_if_success (fail_if_success (with_reducible first | refine xstp ?_ | refine xgon ?_ | intro _)))))
    refine FinK.mk ⟨[0], _, _, ⟨rfl, rfl⟩, ?_⟩
    (repeat' first | refine And.intro ?_ ?_ | exact xeC | fail)
  have hl40 := hf.1
  refine xret ?_
  repeat' (first | (fail_if_success (with_reducible refine xstp ?_)); first | ((fail_if_success (with_reducible first | refine xgon ?_ | intro _)); (conv => whnf); (fail_if_success (fail_if_success (with_reducible first | refine xstp ?_ | refine xgon ?_ | intro _)))))
  refine LoopK.mk' {i : Nat // i ≤ l.length ∧ ∀ k, k < i → -1000000000000000 ≤ (l.getD k default).at_ ∧ (l.getD k default).at_ ≤ 1000000000000000}
    (fun ⟨i, _⟩ => ⟨[(0, .c (.sl 0 0 3 0 l.length c)), (3, .c (.i .i64 (i : Nat)))], [.one (rcR w l c)]⟩) (fun t => l.length - t.1)
    ⟨⟨0, Nat.zero_le _, fun k hk => absurd hk (Nat.not_lt_zero k)⟩, [0], ?_⟩ ?_
  · (repeat' first | refine And.intro ?_ ?_ | exact xeC | fail)
  rintro ⟨i, hi, hok⟩
  rcases Nat.lt_or_ge i l.length with hlt | hge
  · skip
    repeat' (first | (fail_if_success (with_reducible refine xstp ?_)); first | ((with_reducible refine And.intro (fun (hb : _ = true) => ?_) (fun (hb : _ = false) => ?_)) <;> replace hb := xnC hb <;> (try first | exact xfC | exact bff hb (by assumption) | exact bff (by assumption) hb)) | ((with_reducible refine And.intro ?_ ?_); focus exact xoC) | ((with_reducible refine OvK.fit ?_ ?_); focus exact xoC) | (with_reducible intro hc; (try simp only [capsP, and_true] at hc); (try exact xfC)) | ((fail_if_success (with_reducible first | refine xgon ?_ | intro _)); (conv => whnf); (fail_if_success (fail_if_success (with_reducible first | refine xstp ?_ | refine xgon ?_ | intro _)))))
    · skip
      refine xcal (σ := []) (nl := []) (cawake42) ?_
      rintro v h' ⟨rfl, rfl⟩ hcaps
      refine xret ?_
      repeat' (first | (fail_if_success (with_reducible refine xstp ?_)); first | ((fail_if_success (with_reducible first | refine xgon ?_ | intro _)); (conv => whnf); (fail_if_success (fail_if_success (with_reducible first | refine xstp ?_ | refine xgon ?_ | intro _)))))
      refine FinK.mk ⟨[0], _, _, ⟨rfl, rfl⟩, ?_⟩
      (repeat' first | refine And.intro ?_ ?_ | exact xeC | fail)
    · skip
      refine xcal (σ := []) (nl := []) (cawake42) ?_
      rintro v h' ⟨rfl, rfl⟩ hcaps
      refine xret ?_
      repeat' (first | (fail_if_success (with_reducible refine xstp ?_)); first | ((fail_if_success (with_reducible first | refine xgon ?_ | intro _)); (conv => whnf); (fail_if_success (fail_if_success (with_reducible first | refine xstp ?_ | refine xgon ?_ | intro _)))))
      refine FinK.mk ⟨[0], _, _, ⟨rfl, rfl⟩, ?_⟩
      (repeat' first | refine And.intro ?_ ?_ | exact xeC | fail)
    · refine ⟨⟨i + 1, hlt, fun k hk => ?_⟩, [0], by simp only; omega, ?_⟩
      · rcases Nat.lt_or_ge k i with q | q
        · exact hok k q
        · obtain rfl : k = i := by omega
          exact ⟨by omega, by omega⟩
      · (repeat' first | refine And.intro ?_ ?_ | exact xeC | fail)
  · have hdg : dgOk l := ⟨hf, fun k hk => hok k (by omega)⟩
    repeat' (first | (fail_if_success (with_reducible refine xstp ?_)); first | ((with_reducible refine And.intro (fun (hb : _ = true) => ?_) (fun (hb : _ = false) => ?_)) <;> replace hb := xnC hb <;> (try first | exact xfC | exact bff hb (by assumption) | exact bff (by assumption) hb)) | (with_reducible intro hc; (try simp only [capsP, and_true] at hc); (try exact xfC)) | ((fail_if_success (with_reducible first | refine xgon ?_ | intro _)); (conv => whnf); (fail_if_success (fail_if_success (with_reducible first | refine xstp ?_ | refine xgon ?_ | intro _)))))
    refine xcal (σ := [.whole 0]) (nl := []) (cdigest w l c hdg) ?_
    rintro v h' ⟨rfl, rfl⟩ hcaps
    refine xret ?_
    repeat' (first | (fail_if_success (with_reducible refine xstp ?_)); first | ((fail_if_success (with_reducible first | refine xgon ?_ | intro _)); (conv => whnf); (fail_if_success (fail_if_success (with_reducible first | refine xstp ?_ | refine xgon ?_ | intro _)))))
    refine xcal (σ := [.whole 0]) (nl := []) (rdigest w l c hdg) ?_
    rintro v h' ⟨rfl, rfl⟩ hcaps
    refine xret ?_
    repeat' (first | (fail_if_success (with_reducible refine xstp ?_)); first | ((with_reducible refine And.intro (fun (hb : _ = true) => ?_) (fun (hb : _ = false) => ?_)) <;> replace hb := xnC hb <;> (try first | exact xfC | exact bff hb (by assumption) | exact bff (by assumption) hb)) | ((fail_if_success (with_reducible first | refine xgon ?_ | intro _)); (conv => whnf); (fail_if_success (fail_if_success (with_reducible first | refine xstp ?_ | refine xgon ?_ | intro _)))))
    refine xcal (σ := []) (nl := []) (cawake42) ?_
    rintro v h' ⟨rfl, rfl⟩ hcaps
    refine xret ?_
    repeat' (first | (fail_if_success (with_reducible refine xstp ?_)); first | ((fail_if_success (with_reducible first | refine xgon ?_ | intro _)); (conv => whnf); (fail_if_success (fail_if_success (with_reducible first | refine xstp ?_ | refine xgon ?_ | intro _)))))
    refine FinK.mk ⟨[0], _, _, ⟨rfl, rfl⟩, ?_⟩
    (repeat' first | refine And.intro ?_ ?_ | exact xeC | fail)
end Go.Proofs.YtenompgpjlbelaaDoor


namespace Go.Proofs.YtenompgpjlbelaaDoor
open Go.X Go.RowKit
set_option linter.unusedVariables false
theorem one_read {β : Nm} {W : World} {ck : Ck} (h : ck.holds β W (β 0 0)) (ho : ck.owned = false) : Fits β [.one ck] W ∧ ∀ f x, (Go.X.get [.one ck] f x).owned = false := by
  have hno := get_ones_own (h := [ck]) (by intro q hq; rw [List.mem_singleton.1 hq]; exact ho)
  exact ⟨fits_read (get_ones (h := [ck]) (fun f q hf => by
    match f, hf with
    | 0, hf => cases hf; exact h
    | f + 1, hf => simp at hf)) hno, hno⟩
theorem ft_Rc {l : List C} (h : FT [.i .i64, .s, .s] l) : ∃ x : Rc, l = encR x ∧ True := by
  obtain ⟨a, _, rfl, ha, h1⟩ := FT_i h
  obtain ⟨b, _, rfl, hb, h2⟩ := FT_s h1
  obtain ⟨c, _, rfl, hc, h3⟩ := FT_s h2
  obtain rfl := FT_nil h3
  exact ⟨⟨a, b.data.toList, c.data.toList⟩, by unfold encR; simp only [mkS_of], trivial⟩
theorem recs_view {W : World} {v : Value} (k : VK W (.sl [.i .i64, .s, .s]) v) (e : ∀ a n c, v = .slice (some a) n c → a.spot = none) :
    ∃ (A : Nat × Nat × Fl) (l : List Rc) (c : Nat), l.length ≤ 9223372036854775807 ∧ (∀ β f x, β f x = A → (C.sl f x 3 0 l.length c).ren β = v) ∧ ∀ β, (rcR false l c).holds β W A := by
  obtain ⟨A, n, c, g, hv, hh, hn, hc, hnc, hg⟩ := row_view (by rfl) k e
  obtain ⟨l, hl, hge, hp⟩ := list_of encR (Pr := fun _ => True) (fun i hi => ft_Rc (hg i hi))
  subst hl
  exact ⟨A, l, c, by unfold maxLen at hn; omega, hv, fun β => holds_row_congr (hh _ _) hge⟩
end Go.Proofs.YtenompgpjlbelaaDoor


namespace Go.Proofs.YtenompgpjlbelaaDoor
open Go.X Go.RowKit
set_option linter.unusedVariables false
theorem pin_of_laid {W : World} (hL : laidMetH Tryd.prog [("math/bits.deBruijn32tab", Rows.laid_math_bits_deBruijn32tab), ("math/bits.deBruijn64tab", Rows.laid_math_bits_deBruijn64tab), ("internal/strconv.uint64pow10", Rows.laid_internal_strconv_uint64pow10)] W) : PinW W := by
  rw [MakeChecks.laidMetH_plain _ _ _ (by kernel_rfl)] at hL
  have h : laidMet Tryd.prog (("internal/strconv.uint64pow10", Lib.tabData .u64 Lib.pow10Tab) :: []) W := laidMet.tail (laidMet.tail hL)
  exact tab_pin (Lib.tabIs_of_head (t := 116) (e := 40) (n := 20) pow_at (by kernel_rfl) (by kernel_rfl) (by kernel_rfl) (by kernel_rfl) (by kernel_rfl) h)
theorem walk_PlayerDigests (W : World) (v0 : Value) (k0 : VK W (.sl [.i .i64, .s, .s]) v0) (e0 : ∀ a n c, v0 = .slice (some a) n c → a.spot = none) (hp : PinW W) :
    Calls Tryd.prog 4 #[v0] W fun e W' => e = .returned (.bool true) ∧ Below W.heap.size W W' := by
  obtain ⟨A, l, c, hl, hv, hh⟩ := recs_view k0 e0
  obtain ⟨hf, hno⟩ := one_read (β := fun _ _ => A) (W := W) (ck := rcR false l c) (hh _) rfl
  have hv' := hv (fun _ _ => A) 0 0 rfl
  have := glue ((ldigests false l c hl).mono' fun v h q => q.1) hf hno hp
  simp only [List.map_cons, List.map_nil, T.ren, hv'] at this
  exact this
end Go.Proofs.YtenompgpjlbelaaDoor

