/- Part 4 of the texts that a walk of this program rests on: an abstract machine, its soundness, contracts of functions. No statement of the seat is proved in this file. -/
import Derived.Test.YtofcadbfjbefkaaQ3
namespace Go.Proofs.Ytofcadbfjbefkaa
open Go.X
set_option linter.unusedSimpArgs false
set_option linter.unusedVariables false
def prnS (id : Int) (W : Ws) (m : List Smp) (s : Smp) : List Smp := if ndB s.q W then m else m.filter fun x => !isS id s.q x
/-- The samples behind the pruning. -/
def prn (id : Int) (q : Qos) (W : Ws) : List Smp := if q.keep = true ∧ q.dur = false then W.l.foldl (prnS id W) W.l else W.l
def smpW (id : Int) (W : Ws) (at' : Int) (p : ByteArray) : Smp := ⟨id, W.la + 1, at', p⟩
def wrE (id : Int) (q : Qos) (W : Ws) (at' : Int) (p : ByteArray) : Int := addE q (prn id q W) (smpW id W at' p)
def wrN (id : Int) (q : Qos) (W : Ws) (at' : Int) (p : ByteArray) : Int := if wrE id q W at' p = 0 then W.la + 1 else 0
def wrW (id : Int) (q : Qos) (W : Ws) (at' : Int) (p : ByteArray) : Ws := ⟨newS q (prn id q W) (smpW id W at' p), if wrE id q W at' p = 0 then W.la + 1 else W.la, W.M, W.ck, W.D⟩
theorem prn_len (id : Int) (W : Ws) : ∀ (t m : List Smp), (t.foldl (prnS id W) m).length ≤ m.length
  | [], m => Nat.le_refl _
  | s :: t, m => by
    refine Nat.le_trans (prn_len id W t _) ?_
    unfold prnS
    split
    · exact Nat.le_refl _
    · exact List.length_filter_le _ _
theorem prn_succ (id : Int) (W : Ws) {k : Nat} (hk : k < W.l.length) : (W.l.take (k + 1)).foldl (prnS id W) W.l = prnS id W ((W.l.take k).foldl (prnS id W) W.l) (W.l.getD k default) := by
  rw [← List.take_append_getElem hk, List.foldl_append, getD_at hk]
  rfl
abbrev wA (id per : Int) (q : Qos) (W : Ws) (c : Nat) (cf : Nat → Nat) : List Fam :=
  [.one (wrc 1 2 id per W.la q), .one (hist 6 q W.l.length c), .one (peM 4 W.M W.ck), .one .no, prs 5 W.D cf, rqs W.D cf, .one (smps true W.l c)]
theorem rH18oC0 {σ : List Sg} {H h' : List Fam} {v : T} {K : T → List Fam → Prop} {H' : List Fam} {v' : T} {N : Nat} (hk : K v' H') (hN : H.length = N := by (try simp only [↓List.length_cons, ↓List.length_nil, Nat.reduceAdd]) <;> rfl) (h : givesF σ N H σ h' = some H' := by (try simp (maxSteps := 1000000) only [givesF, setF, updF, Fam.zeroth, Fam.rk, Ck.rk, C.rk, E.rk, T.rk, key, List.map_cons, List.map_nil, List.cons_append, List.nil_append, List.length_cons, List.length_nil, Option.map_some, Option.bind_some, Nat.reduceAdd, Nat.zero_add, Nat.add_zero, Nat.add_sub_cancel_left, Int.toNat_natCast, reps, List.all_cons, List.all_nil, C.flat, List.append_eq, Bool.not_true, Bool.and_true, Bool.or_false, Bool.or_self, Bool.not_false, List.append_nil, Bool.and_self, ↓prC_rk, ↓rqO_rk, encS]) <;> rfl) (hv : v.rk σ N = v' := by (try simp only [givesF, setF, updF, Fam.zeroth, Fam.rk, Ck.rk, C.rk, E.rk, T.rk, key, List.map_cons, List.map_nil, List.cons_append, List.nil_append, List.length_cons, List.length_nil, Option.map_some, Option.bind_some, Nat.reduceAdd, Nat.zero_add, Nat.add_zero, Nat.add_sub_cancel_left, Int.toNat_natCast, reps, List.all_cons, List.all_nil, C.flat, List.append_eq, Bool.not_true, Bool.and_true, Bool.or_false, Bool.or_self, Bool.not_false, List.append_nil, Bool.and_self, ↓prC_rk, ↓rqO_rk, encS]) <;> rfl) : RetG σ H h' v K := ret_mk3 hN h hv hk
theorem rH18oC1 {σ : List Sg} {H h' : List Fam} {v : T} {K : T → List Fam → Prop} {H' : List Fam} {v' : T} {N : Nat} (hk : K v' H') (hN : H.length = N := by (try simp only [↓List.length_cons, ↓List.length_nil, Nat.reduceAdd]) <;> rfl) (h : givesF σ N H σ h' = some H' := by (try simp (maxSteps := 1000000) only [givesF, setF, updF, Fam.zeroth, Fam.rk, Ck.rk, C.rk, E.rk, T.rk, key, List.map_cons, List.map_nil, List.cons_append, List.nil_append, List.length_cons, List.length_nil, Option.map_some, Option.bind_some, Nat.reduceAdd, Nat.zero_add, Nat.add_zero, Nat.add_sub_cancel_left, Int.toNat_natCast, reps, List.all_cons, List.all_nil, C.flat, List.append_eq, Bool.not_true, Bool.and_true, Bool.or_false, Bool.or_self, Bool.not_false, List.append_nil, Bool.and_self, ↓prC_rk, ↓rqO_rk]) <;> rfl) (hv : v.rk σ N = v' := by (try simp only [givesF, setF, updF, Fam.zeroth, Fam.rk, Ck.rk, C.rk, E.rk, T.rk, key, List.map_cons, List.map_nil, List.cons_append, List.nil_append, List.length_cons, List.length_nil, Option.map_some, Option.bind_some, Nat.reduceAdd, Nat.zero_add, Nat.add_zero, Nat.add_sub_cancel_left, Int.toNat_natCast, reps, List.all_cons, List.all_nil, C.flat, List.append_eq, Bool.not_true, Bool.and_true, Bool.or_false, Bool.or_self, Bool.not_false, List.append_nil, Bool.and_self, ↓prC_rk, ↓rqO_rk]) <;> rfl) : RetG σ H h' v K := ret_mk3 hN h hv hk
theorem cH18oC2 {P : Program} {F : Nat} {args : List T} {H : List Fam} {K : T → List Fam → Prop} {σ : List Sg} {nl : List Fam} {args0 : List T} {h0 : List Fam} {Q : T → List Fam → Prop} {H2 H1 : List Fam} {N n : Nat} (hc : Ctr P F args0 h0 Q) (hk : ∀ v h', Q v h' → capsP h' → RetG σ H2 h' v K) (hap : apart σ = true := by rfl) (hnl : nl.all nilB = true := by rfl) (h1 : H ++ nl = H1 := by first | exact List.append_nil _ | ((try simp only [List.cons_append, List.nil_append]) <;> rfl)) (hN : H1.length = N := by (try simp only [↓List.length_cons, ↓List.length_nil, Nat.reduceAdd]) <;> rfl) (hn : H.length = n := by (try simp only [↓List.length_cons, ↓List.length_nil, Nat.reduceAdd]) <;> rfl) (hH : givesF σ N H1 σ h0 = some H2 := by (try simp (maxSteps := 1000000) only [givesF, setF, updF, Fam.zeroth, Fam.rk, Ck.rk, C.rk, E.rk, T.rk, key, List.map_cons, List.map_nil, List.cons_append, List.nil_append, List.length_cons, List.length_nil, Option.map_some, Option.bind_some, Nat.reduceAdd, Nat.zero_add, Nat.add_zero, Nat.add_sub_cancel_left, Int.toNat_natCast, reps, List.all_cons, List.all_nil, C.flat, List.append_eq, Bool.not_true, Bool.and_true, Bool.or_false, Bool.or_self, Bool.not_false, List.append_nil, Bool.and_self, ↓prC_rk, ↓rqO_rk]) <;> rfl) (hle : leS n H1 σ N σ h0 (belsK N (h0.map (Fam.rk σ N)) (argsK n args (args0.map (T.rk σ N)) True)) := by repeat' first | refine And.intro ?_ ?_ | exact xeC | fail) : CallK P F args H K := CallK.mk3 hc hap hnl h1 hN hn hH hle hk
set_option maxRecDepth 10000 in
set_option maxHeartbeats 8000000 in
theorem cwrite (id per : Int) (q : Qos) (W : Ws) (c : Nat) (cf : Nat → Nat) (at' : Int) (p : ByteArray) (hW : WOk W) (hl : W.l.length ≤ 1000000) (hla : 0 ≤ W.la ∧ W.la ≤ 1000000) :
    Ctr Try.prog 7 [.c (.p 0 0 0), .c (.i .i64 at'), .c (.s p)] (wB id per q W c cf)
      fun v h => ∃ c', v = .t [.c (.i .i64 (wrN id q W at' p)), .c (.i .i64 (wrE id q W at' p))] ∧ h = wA id per q (wrW id q W at' p) c' cf := by
  refine Ctr.mk' tbv mixed Try.func7 rfl rfl rfl (fun _ _ => by kernel_rfl) (by kernel_rfl) (by rfl) (by rfl) (by (repeat' first | refine And.intro ?_ ?_ | exact xeC | fail) <;> exact xmC) ?_
  repeat' (first | (fail_if_success (with_reducible refine xstp ?_)); first | ((with_reducible refine And.intro (fun (hb : _ = true) => ?_) (fun (hb : _ = false) => ?_)) <;> replace hb := xnC hb <;> (try first | exact xfC | exact bff hb (by assumption) | exact bff (by assumption) hb)) | ((with_reducible refine And.intro ?_ ?_); focus exact xoC) | (with_reducible intro hc; (try simp only [capsP, and_true] at hc); (try exact xfC)) | ((fail_if_success (with_reducible first | refine xgon ?_ | intro _)); (conv => whnf); (fail_if_success (fail_if_success (with_reducible first | refine xstp ?_ | refine xgon ?_ | intro _)))))
  rotate_left 1
  · have hd : q.dur = true := by assumption
    have hm : prn id q W = W.l := by unfold prn; exact if_neg (fun h => by rw [hd] at h; cases h.2)
    refine cH18oC2 (σ := [.whole 1, .whole 3]) (nl := []) (iadd q (W.l) c ⟨id, W.la + 1, at', p⟩ (by omega)) ?_
    rintro v h' ⟨co, c2, rfl, rfl⟩ hcaps
    refine rH18oC0 ?_
    have e3 : wrE id q W at' p = addE q (W.l) ⟨id, W.la + 1, at', p⟩ := by rw [← hm]; rfl
    have e2 : (wrW id q W at' p).l = newS q (W.l) ⟨id, W.la + 1, at', p⟩ := by rw [← hm]; rfl
    repeat' (first | (fail_if_success (with_reducible refine xstp ?_)); first | ((with_reducible refine And.intro (fun (hb : _ = true) => ?_) (fun (hb : _ = false) => ?_)) <;> replace hb := xnC hb <;> (try first | exact xfC | exact bff hb (by assumption) | exact bff (by assumption) hb)) | ((with_reducible refine And.intro ?_ ?_); focus exact xoC) | ((fail_if_success (with_reducible first | refine xgon ?_ | intro _)); (conv => whnf); (fail_if_success (fail_if_success (with_reducible first | refine xstp ?_ | refine xgon ?_ | intro _)))))
    · have he : wrE id q W at' p ≠ 0 := by rw [e3]; assumption
      have e0 : wrN id q W at' p = 0 := if_neg he
      have e1 : (wrW id q W at' p).la = W.la := if_neg he
      refine FinK.mk ⟨[0, 1, 2, 3, 4, 5, 6], _, _, ⟨c2, rfl, rfl⟩, ?_⟩
      unfold wA
      rw [e0, e1, e2, e3]
      (repeat' first | refine And.intro ?_ ?_ | exact xeC | fail)
      all_goals (exact xmC)
    · have he : wrE id q W at' p = 0 := by rw [e3]; assumption
      have e0 : wrN id q W at' p = W.la + 1 := if_pos he
      have e1 : (wrW id q W at' p).la = W.la + 1 := if_pos he
      refine FinK.mk ⟨[0, 1, 2, 3, 4, 5, 6], _, _, ⟨c2, rfl, rfl⟩, ?_⟩
      unfold wA
      rw [e0, e1, e2, he]
      (repeat' first | refine And.intro ?_ ?_ | exact xeC | fail)
      all_goals (exact xmC)
  · have hd : q.keep = false := by assumption
    have hm : prn id q W = W.l := by unfold prn; exact if_neg (fun h => by rw [hd] at h; cases h.1)
    refine cH18oC2 (σ := [.whole 1, .whole 3]) (nl := []) (iadd q (W.l) c ⟨id, W.la + 1, at', p⟩ (by omega)) ?_
    rintro v h' ⟨co, c2, rfl, rfl⟩ hcaps
    refine rH18oC0 ?_
    have e3 : wrE id q W at' p = addE q (W.l) ⟨id, W.la + 1, at', p⟩ := by rw [← hm]; rfl
    have e2 : (wrW id q W at' p).l = newS q (W.l) ⟨id, W.la + 1, at', p⟩ := by rw [← hm]; rfl
    repeat' (first | (fail_if_success (with_reducible refine xstp ?_)); first | ((with_reducible refine And.intro (fun (hb : _ = true) => ?_) (fun (hb : _ = false) => ?_)) <;> replace hb := xnC hb <;> (try first | exact xfC | exact bff hb (by assumption) | exact bff (by assumption) hb)) | ((with_reducible refine And.intro ?_ ?_); focus exact xoC) | ((fail_if_success (with_reducible first | refine xgon ?_ | intro _)); (conv => whnf); (fail_if_success (fail_if_success (with_reducible first | refine xstp ?_ | refine xgon ?_ | intro _)))))
    · have he : wrE id q W at' p ≠ 0 := by rw [e3]; assumption
      have e0 : wrN id q W at' p = 0 := if_neg he
      have e1 : (wrW id q W at' p).la = W.la := if_neg he
      refine FinK.mk ⟨[0, 1, 2, 3, 4, 5, 6], _, _, ⟨c2, rfl, rfl⟩, ?_⟩
      unfold wA
      rw [e0, e1, e2, e3]
      (repeat' first | refine And.intro ?_ ?_ | exact xeC | fail)
      all_goals (exact xmC)
    · have he : wrE id q W at' p = 0 := by rw [e3]; assumption
      have e0 : wrN id q W at' p = W.la + 1 := if_pos he
      have e1 : (wrW id q W at' p).la = W.la + 1 := if_pos he
      refine FinK.mk ⟨[0, 1, 2, 3, 4, 5, 6], _, _, ⟨c2, rfl, rfl⟩, ?_⟩
      unfold wA
      rw [e0, e1, e2, he]
      (repeat' first | refine And.intro ?_ ?_ | exact xeC | fail)
      all_goals (exact xmC)
  have hk1 : q.keep = true := by assumption
  have hk2 : q.dur = false := by assumption
  refine cH18oC2 (σ := [.whole 1, .whole 3]) (nl := []) (ilist q W.l c hl) ?_
  rintro v h' ⟨c', rfl, rfl⟩ hcaps
  refine rH18oC1 ?_
  repeat' (first | (fail_if_success (with_reducible refine xstp ?_)); first | ((fail_if_success (with_reducible first | refine xgon ?_ | intro _)); (conv => whnf); (fail_if_success (fail_if_success (with_reducible first | refine xstp ?_ | refine xgon ?_ | intro _)))))
  refine LoopK.mk' ({k : Nat // k ≤ W.l.length} × Nat)
    (fun ⟨⟨k, _⟩, cc⟩ => ⟨[(0, .c (.p 0 0 0)), (1, .c (.i .i64 at')), (2, .c (.s p)), (38, .c (.sl 6 0 4 0 W.l.length c')), (39, .c (.i .i64 W.l.length)), (40, .c (.i .i64 k))],
      [.one (wrc 1 2 id per W.la q), .one (hist 7 q ((W.l.take k).foldl (prnS id W) W.l).length cc), .one (peM 4 W.M W.ck), .one .no, prs 5 W.D cf, rqs W.D cf, .one (smps true W.l c'), .one (smps true ((W.l.take k).foldl (prnS id W) W.l) cc)]⟩)
    (fun k => W.l.length - k.1.1)
    ⟨⟨⟨0, Nat.zero_le _⟩, c⟩, [0, 1, 2, 3, 4, 5, 6, 3], ?_⟩ ?_
  · (repeat' first | refine And.intro ?_ ?_ | exact xeC | fail)
    all_goals (exact xmC)
  rintro ⟨⟨k, hk⟩, cc⟩
  have hml := prn_len id W (W.l.take k) W.l
  repeat' (first | (fail_if_success (with_reducible refine xstp ?_)); first | ((with_reducible refine And.intro (fun (hb : _ = true) => ?_) (fun (hb : _ = false) => ?_)) <;> replace hb := xnC hb <;> (try first | exact xfC | exact bff hb (by assumption) | exact bff (by assumption) hb)) | ((with_reducible refine And.intro ?_ ?_); focus exact xoC) | (with_reducible intro hc; (try simp only [capsP, and_true] at hc); (try exact xfC)) | ((fail_if_success (with_reducible first | refine xgon ?_ | intro _)); (conv => whnf); (fail_if_success (fail_if_success (with_reducible first | refine xstp ?_ | refine xgon ?_ | intro _)))))
  · have hsk := prn_succ id W (show k < W.l.length by omega)
    simp only [Int.toNat_natCast, Nat.zero_add]
    refine cH18oC2 (σ := [.whole 0, .name 1, .whole 2, .whole 4, .name 5]) (nl := []) (cneeded id per W.la q W cf (W.l.getD k default).q hW) ?_ (hle := by (repeat' first | refine And.intro ?_ ?_ | exact xeC | fail) <;> (exact xmC))
    rintro v h' ⟨rfl, rfl⟩ hcaps
    refine rH18oC1 ?_
    repeat' (first | (fail_if_success (with_reducible refine xstp ?_)); first | ((with_reducible refine And.intro (fun (hb : _ = true) => ?_) (fun (hb : _ = false) => ?_)) <;> replace hb := xnC hb <;> (try first | exact xfC | exact bff hb (by assumption) | exact bff (by assumption) hb)) | ((with_reducible refine And.intro ?_ ?_); focus exact xoC) | ((fail_if_success (with_reducible first | refine xgon ?_ | intro _)); (conv => whnf); (fail_if_success (fail_if_success (with_reducible first | refine xstp ?_ | refine xgon ?_ | intro _)))))
    · have hn : ndB (W.l.getD k default).q W = false := by assumption
      unfold prnS at hsk
      rw [hn] at hsk
      refine cH18oC2 (σ := [.whole 1, .whole 7]) (nl := []) (iremove q ((W.l.take k).foldl (prnS id W) W.l) cc id (W.l.getD k default).q (by omega)) ?_
      rintro v h' ⟨c2, rfl, rfl⟩ hcaps
      refine rH18oC1 ?_
      repeat' (first | (fail_if_success (with_reducible refine xstp ?_)); first | ((with_reducible refine And.intro ?_ ?_); focus exact xoC) | ((fail_if_success (with_reducible first | refine xgon ?_ | intro _)); (conv => whnf); (fail_if_success (fail_if_success (with_reducible first | refine xstp ?_ | refine xgon ?_ | intro _)))))
      refine ⟨⟨⟨k + 1, by omega⟩, c2⟩, [0, 1, 2, 3, 4, 5, 6, 9], by simp only; omega, ?_⟩
      unfold prnS
      simp only [hsk]
      (repeat' first | refine And.intro ?_ ?_ | exact xeC | fail)
      all_goals first | (exact xmC) | skip
      all_goals trace_state
    · have hn : ndB (W.l.getD k default).q W = true := by assumption
      unfold prnS at hsk
      rw [hn] at hsk
      refine ⟨⟨⟨k + 1, by omega⟩, cc⟩, [0, 1, 2, 3, 4, 5, 6, 7], by simp only; omega, ?_⟩
      unfold prnS
      simp only [hsk]
      (repeat' first | refine And.intro ?_ ?_ | exact xeC | fail)
      all_goals first | (exact xmC) | skip
      all_goals trace_state
  · have ek : W.l.take k = W.l := List.take_of_length_le (by omega)
    have hm : prn id q W = (W.l.take k).foldl (prnS id W) W.l := by rw [ek]; unfold prn; exact if_pos ⟨hk1, hk2⟩
    refine cH18oC2 (σ := [.whole 1, .whole 7]) (nl := []) (iadd q ((W.l.take k).foldl (prnS id W) W.l) cc ⟨id, W.la + 1, at', p⟩ (by omega)) ?_
    rintro v h' ⟨co, c2, rfl, rfl⟩ hcaps
    refine rH18oC0 ?_
    have e3 : wrE id q W at' p = addE q ((W.l.take k).foldl (prnS id W) W.l) ⟨id, W.la + 1, at', p⟩ := by rw [← hm]; rfl
    have e2 : (wrW id q W at' p).l = newS q ((W.l.take k).foldl (prnS id W) W.l) ⟨id, W.la + 1, at', p⟩ := by rw [← hm]; rfl
    repeat' (first | (fail_if_success (with_reducible refine xstp ?_)); first | ((with_reducible refine And.intro (fun (hb : _ = true) => ?_) (fun (hb : _ = false) => ?_)) <;> replace hb := xnC hb <;> (try first | exact xfC | exact bff hb (by assumption) | exact bff (by assumption) hb)) | ((with_reducible refine And.intro ?_ ?_); focus exact xoC) | ((fail_if_success (with_reducible first | refine xgon ?_ | intro _)); (conv => whnf); (fail_if_success (fail_if_success (with_reducible first | refine xstp ?_ | refine xgon ?_ | intro _)))))
    · have he : wrE id q W at' p ≠ 0 := by rw [e3]; assumption
      have e0 : wrN id q W at' p = 0 := if_neg he
      have e1 : (wrW id q W at' p).la = W.la := if_neg he
      refine FinK.mk ⟨[0, 1, 2, 3, 4, 5, 8], _, _, ⟨c2, rfl, rfl⟩, ?_⟩
      unfold wA
      rw [e0, e1, e2, e3]
      (repeat' first | refine And.intro ?_ ?_ | exact xeC | fail)
      all_goals (exact xmC)
    · have he : wrE id q W at' p = 0 := by rw [e3]; assumption
      have e0 : wrN id q W at' p = W.la + 1 := if_pos he
      have e1 : (wrW id q W at' p).la = W.la + 1 := if_pos he
      refine FinK.mk ⟨[0, 1, 2, 3, 4, 5, 8], _, _, ⟨c2, rfl, rfl⟩, ?_⟩
      unfold wA
      rw [e0, e1, e2, he]
      (repeat' first | refine And.intro ?_ ?_ | exact xeC | fail)
      all_goals (exact xmC)
end Go.Proofs.Ytofcadbfjbefkaa


namespace Go.Proofs.Ytofcadbfjbefkaa
open Go.X
set_option linter.unusedSimpArgs false
set_option linter.unusedVariables false
def wthn (o r : Int) : Prop := r = 0 ∨ (o ≠ 0 ∧ o ≤ r)
instance (o r : Int) : Decidable (wthn o r) := by unfold wthn; infer_instance
def viol (o r : Qos) : Int :=
  if r.rel = true ∧ o.rel = false then 1 else if r.dur = true ∧ o.dur = false then 2
  else if ¬ wthn o.dead r.dead then 3 else if ¬ wthn o.lease r.lease then 4 else 0

set_option maxRecDepth 10000 in
theorem cqwithin (o r : Int) : Ctr Try.prog 53 [.c (.i .i64 o), .c (.i .i64 r)] [] fun v h => v = .c (.b (decide (wthn o r))) ∧ h = [] := by
  refine Ctr.mk' tbv mixed Try.func53 rfl rfl rfl (fun _ _ => by kernel_rfl) (by kernel_rfl) (by rfl) (by rfl) (by (repeat' first | refine And.intro ?_ ?_ | exact xeC | fail)) ?_
  repeat' (first | (fail_if_success (with_reducible refine xstp ?_)); first | ((with_reducible refine And.intro (fun (hb : _ = true) => ?_) (fun (hb : _ = false) => ?_)) <;> replace hb := xnC hb <;> (try first | exact xfC | exact bff hb (by assumption) | exact bff (by assumption) hb)) | (with_reducible intro hc; (try simp only [capsP, and_true] at hc); (try exact xfC)) | ((fail_if_success (with_reducible first | refine xgon ?_ | intro _)); (conv => whnf); (fail_if_success (fail_if_success (with_reducible first | refine xstp ?_ | refine xgon ?_ | intro _)))))
  all_goals (
    refine FinK.mk ⟨[], _, _, ⟨rfl, rfl⟩, ?_⟩; (repeat' first | refine And.intro ?_ ?_ | exact xeC | fail)
    all_goals first | exact decide_eq_decide.2 (by unfold wthn; omega) | exact (decide_eq_true (by unfold wthn; omega)).symm | exact (decide_eq_false (by unfold wthn; omega)).symm | exact decide_eq_true (by unfold wthn; omega) | exact decide_eq_false (by unfold wthn; omega) | (apply Bool.eq_iff_iff.2; simp [wthn]; omega))

theorem rH18oD0 {σ : List Sg} {H h' : List Fam} {v : T} {K : T → List Fam → Prop} {H' : List Fam} {v' : T} {N : Nat} (hk : K v' H') (hN : H.length = N := by (try simp only [↓List.length_cons, ↓List.length_nil, Nat.reduceAdd]) <;> rfl) (h : givesF σ N H σ h' = some H' := by (try simp (maxSteps := 1000000) only [givesF, setF, updF, Fam.zeroth, Fam.rk, Ck.rk, C.rk, E.rk, T.rk, key, List.map_cons, List.map_nil, List.cons_append, List.nil_append, List.length_cons, List.length_nil, Option.map_some, Option.bind_some, Nat.reduceAdd, Nat.zero_add, Nat.add_zero, Nat.add_sub_cancel_left, Int.toNat_natCast, reps, List.all_cons, List.all_nil, C.flat, List.append_eq, Bool.not_true, Bool.and_true, Bool.or_false, Bool.or_self, Bool.not_false, List.append_nil, Bool.and_self, ↓prC_rk, ↓rqO_rk]) <;> rfl) (hv : v.rk σ N = v' := by (try simp only [givesF, setF, updF, Fam.zeroth, Fam.rk, Ck.rk, C.rk, E.rk, T.rk, key, List.map_cons, List.map_nil, List.cons_append, List.nil_append, List.length_cons, List.length_nil, Option.map_some, Option.bind_some, Nat.reduceAdd, Nat.zero_add, Nat.add_zero, Nat.add_sub_cancel_left, Int.toNat_natCast, reps, List.all_cons, List.all_nil, C.flat, List.append_eq, Bool.not_true, Bool.and_true, Bool.or_false, Bool.or_self, Bool.not_false, List.append_nil, Bool.and_self, ↓prC_rk, ↓rqO_rk]) <;> rfl) : RetG σ H h' v K := ret_mk3 hN h hv hk
theorem cH18oD2 {P : Program} {F : Nat} {args : List T} {H : List Fam} {K : T → List Fam → Prop} {σ : List Sg} {nl : List Fam} {args0 : List T} {h0 : List Fam} {Q : T → List Fam → Prop} {H2 H1 : List Fam} {N n : Nat} (hc : Ctr P F args0 h0 Q) (hk : ∀ v h', Q v h' → capsP h' → RetG σ H2 h' v K) (hap : apart σ = true := by rfl) (hnl : nl.all nilB = true := by rfl) (h1 : H ++ nl = H1 := by first | exact List.append_nil _ | ((try simp only [List.cons_append, List.nil_append]) <;> rfl)) (hN : H1.length = N := by (try simp only [↓List.length_cons, ↓List.length_nil, Nat.reduceAdd]) <;> rfl) (hn : H.length = n := by (try simp only [↓List.length_cons, ↓List.length_nil, Nat.reduceAdd]) <;> rfl) (hH : givesF σ N H1 σ h0 = some H2 := by (try simp (maxSteps := 1000000) only [givesF, setF, updF, Fam.zeroth, Fam.rk, Ck.rk, C.rk, E.rk, T.rk, key, List.map_cons, List.map_nil, List.cons_append, List.nil_append, List.length_cons, List.length_nil, Option.map_some, Option.bind_some, Nat.reduceAdd, Nat.zero_add, Nat.add_zero, Nat.add_sub_cancel_left, Int.toNat_natCast, reps, List.all_cons, List.all_nil, C.flat, List.append_eq, Bool.not_true, Bool.and_true, Bool.or_false, Bool.or_self, Bool.not_false, List.append_nil, Bool.and_self, ↓prC_rk, ↓rqO_rk]) <;> rfl) (hle : leS n H1 σ N σ h0 (belsK N (h0.map (Fam.rk σ N)) (argsK n args (args0.map (T.rk σ N)) True)) := by repeat' first | refine And.intro ?_ ?_ | exact xeC | fail) : CallK P F args H K := CallK.mk3 hc hap hnl h1 hN hn hH hle hk
set_option maxRecDepth 10000 in
set_option maxHeartbeats 4000000 in
theorem cviol (o r : Qos) : Ctr Try.prog 38 [.a (encQ o), .a (encQ r)] [] fun v h => v = .c (.i .i64 (viol o r)) ∧ h = [] := by
  refine Ctr.mk' tbv mixed Try.func38 rfl rfl rfl (fun _ _ => by kernel_rfl) (by kernel_rfl) (by rfl) (by rfl) (by (repeat' first | refine And.intro ?_ ?_ | exact xeC | fail)) ?_
  repeat' (first | (fail_if_success (with_reducible refine xstp ?_)); first | ((with_reducible refine And.intro (fun (hb : _ = true) => ?_) (fun (hb : _ = false) => ?_)) <;> replace hb := xnC hb <;> (try first | exact xfC | exact bff hb (by assumption) | exact bff (by assumption) hb)) | (with_reducible intro hc; (try simp only [capsP, and_true] at hc); (try exact xfC)) | ((fail_if_success (with_reducible first | refine xgon ?_ | intro _)); (conv => whnf); (fail_if_success (fail_if_success (with_reducible first | refine xstp ?_ | refine xgon ?_ | intro _)))))
  · refine FinK.mk ⟨[], _, _, ⟨rfl, rfl⟩, ?_⟩; (repeat' first | refine And.intro ?_ ?_ | exact xeC | fail)
    all_goals (unfold viol; simp_all)
  · refine FinK.mk ⟨[], _, _, ⟨rfl, rfl⟩, ?_⟩; (repeat' first | refine And.intro ?_ ?_ | exact xeC | fail)
    all_goals (unfold viol; simp_all)
  · refine cH18oD2 (σ := []) (nl := []) (cqwithin o.dead r.dead) ?_
    rintro v h' ⟨rfl, rfl⟩ hcaps
    refine rH18oD0 ?_
    repeat' (first | (fail_if_success (with_reducible refine xstp ?_)); first | ((with_reducible refine And.intro (fun (hb : _ = true) => ?_) (fun (hb : _ = false) => ?_)) <;> replace hb := xnC hb <;> (try first | exact xfC | exact bff hb (by assumption) | exact bff (by assumption) hb)) | ((fail_if_success (with_reducible first | refine xgon ?_ | intro _)); (conv => whnf); (fail_if_success (fail_if_success (with_reducible first | refine xstp ?_ | refine xgon ?_ | intro _)))))
    · refine FinK.mk ⟨[], _, _, ⟨rfl, rfl⟩, ?_⟩; (repeat' first | refine And.intro ?_ ?_ | exact xeC | fail)
      all_goals (unfold viol; simp_all)
    · refine cH18oD2 (σ := []) (nl := []) (cqwithin o.lease r.lease) ?_
      rintro v h' ⟨rfl, rfl⟩ hcaps
      refine rH18oD0 ?_
      repeat' (first | (fail_if_success (with_reducible refine xstp ?_)); first | ((with_reducible refine And.intro (fun (hb : _ = true) => ?_) (fun (hb : _ = false) => ?_)) <;> replace hb := xnC hb <;> (try first | exact xfC | exact bff hb (by assumption) | exact bff (by assumption) hb)) | ((fail_if_success (with_reducible first | refine xgon ?_ | intro _)); (conv => whnf); (fail_if_success (fail_if_success (with_reducible first | refine xstp ?_ | refine xgon ?_ | intro _)))))
      all_goals (
        refine FinK.mk ⟨[], _, _, ⟨rfl, rfl⟩, ?_⟩; (repeat' first | refine And.intro ?_ ?_ | exact xeC | fail)
        all_goals (unfold viol; simp_all))
  · refine cH18oD2 (σ := []) (nl := []) (cqwithin o.dead r.dead) ?_
    rintro v h' ⟨rfl, rfl⟩ hcaps
    refine rH18oD0 ?_
    repeat' (first | (fail_if_success (with_reducible refine xstp ?_)); first | ((with_reducible refine And.intro (fun (hb : _ = true) => ?_) (fun (hb : _ = false) => ?_)) <;> replace hb := xnC hb <;> (try first | exact xfC | exact bff hb (by assumption) | exact bff (by assumption) hb)) | ((fail_if_success (with_reducible first | refine xgon ?_ | intro _)); (conv => whnf); (fail_if_success (fail_if_success (with_reducible first | refine xstp ?_ | refine xgon ?_ | intro _)))))
    · refine FinK.mk ⟨[], _, _, ⟨rfl, rfl⟩, ?_⟩; (repeat' first | refine And.intro ?_ ?_ | exact xeC | fail)
      all_goals (unfold viol; simp_all)
    · refine cH18oD2 (σ := []) (nl := []) (cqwithin o.lease r.lease) ?_
      rintro v h' ⟨rfl, rfl⟩ hcaps
      refine rH18oD0 ?_
      repeat' (first | (fail_if_success (with_reducible refine xstp ?_)); first | ((with_reducible refine And.intro (fun (hb : _ = true) => ?_) (fun (hb : _ = false) => ?_)) <;> replace hb := xnC hb <;> (try first | exact xfC | exact bff hb (by assumption) | exact bff (by assumption) hb)) | ((fail_if_success (with_reducible first | refine xgon ?_ | intro _)); (conv => whnf); (fail_if_success (fail_if_success (with_reducible first | refine xstp ?_ | refine xgon ?_ | intro _)))))
      all_goals (
        refine FinK.mk ⟨[], _, _, ⟨rfl, rfl⟩, ?_⟩; (repeat' first | refine And.intro ?_ ?_ | exact xeC | fail)
        all_goals (unfold viol; simp_all))
  · refine FinK.mk ⟨[], _, _, ⟨rfl, rfl⟩, ?_⟩; (repeat' first | refine And.intro ?_ ?_ | exact xeC | fail)
    all_goals (unfold viol; simp_all)
  · refine cH18oD2 (σ := []) (nl := []) (cqwithin o.dead r.dead) ?_
    rintro v h' ⟨rfl, rfl⟩ hcaps
    refine rH18oD0 ?_
    repeat' (first | (fail_if_success (with_reducible refine xstp ?_)); first | ((with_reducible refine And.intro (fun (hb : _ = true) => ?_) (fun (hb : _ = false) => ?_)) <;> replace hb := xnC hb <;> (try first | exact xfC | exact bff hb (by assumption) | exact bff (by assumption) hb)) | ((fail_if_success (with_reducible first | refine xgon ?_ | intro _)); (conv => whnf); (fail_if_success (fail_if_success (with_reducible first | refine xstp ?_ | refine xgon ?_ | intro _)))))
    · refine FinK.mk ⟨[], _, _, ⟨rfl, rfl⟩, ?_⟩; (repeat' first | refine And.intro ?_ ?_ | exact xeC | fail)
      all_goals (unfold viol; simp_all)
    · refine cH18oD2 (σ := []) (nl := []) (cqwithin o.lease r.lease) ?_
      rintro v h' ⟨rfl, rfl⟩ hcaps
      refine rH18oD0 ?_
      repeat' (first | (fail_if_success (with_reducible refine xstp ?_)); first | ((with_reducible refine And.intro (fun (hb : _ = true) => ?_) (fun (hb : _ = false) => ?_)) <;> replace hb := xnC hb <;> (try first | exact xfC | exact bff hb (by assumption) | exact bff (by assumption) hb)) | ((fail_if_success (with_reducible first | refine xgon ?_ | intro _)); (conv => whnf); (fail_if_success (fail_if_success (with_reducible first | refine xstp ?_ | refine xgon ?_ | intro _)))))
      all_goals (
        refine FinK.mk ⟨[], _, _, ⟨rfl, rfl⟩, ?_⟩; (repeat' first | refine And.intro ?_ ?_ | exact xeC | fail)
        all_goals (unfold viol; simp_all))
  · refine cH18oD2 (σ := []) (nl := []) (cqwithin o.dead r.dead) ?_
    rintro v h' ⟨rfl, rfl⟩ hcaps
    refine rH18oD0 ?_
    repeat' (first | (fail_if_success (with_reducible refine xstp ?_)); first | ((with_reducible refine And.intro (fun (hb : _ = true) => ?_) (fun (hb : _ = false) => ?_)) <;> replace hb := xnC hb <;> (try first | exact xfC | exact bff hb (by assumption) | exact bff (by assumption) hb)) | ((fail_if_success (with_reducible first | refine xgon ?_ | intro _)); (conv => whnf); (fail_if_success (fail_if_success (with_reducible first | refine xstp ?_ | refine xgon ?_ | intro _)))))
    · refine FinK.mk ⟨[], _, _, ⟨rfl, rfl⟩, ?_⟩; (repeat' first | refine And.intro ?_ ?_ | exact xeC | fail)
      all_goals (unfold viol; simp_all)
    · refine cH18oD2 (σ := []) (nl := []) (cqwithin o.lease r.lease) ?_
      rintro v h' ⟨rfl, rfl⟩ hcaps
      refine rH18oD0 ?_
      repeat' (first | (fail_if_success (with_reducible refine xstp ?_)); first | ((with_reducible refine And.intro (fun (hb : _ = true) => ?_) (fun (hb : _ = false) => ?_)) <;> replace hb := xnC hb <;> (try first | exact xfC | exact bff hb (by assumption) | exact bff (by assumption) hb)) | ((fail_if_success (with_reducible first | refine xgon ?_ | intro _)); (conv => whnf); (fail_if_success (fail_if_success (with_reducible first | refine xstp ?_ | refine xgon ?_ | intro _)))))
      all_goals (
        refine FinK.mk ⟨[], _, _, ⟨rfl, rfl⟩, ?_⟩; (repeat' first | refine And.intro ?_ ?_ | exact xeC | fail)
        all_goals (unfold viol; simp_all))

theorem rH18oD1 {σ : List Sg} {H h' : List Fam} {v : T} {K : T → List Fam → Prop} {H' : List Fam} {v' : T} {N : Nat} (hk : K v' H') (hN : H.length = N := by (try simp only [↓List.length_cons, ↓List.length_nil, Nat.reduceAdd]) <;> rfl) (h : givesF σ N H σ h' = some H' := by (try simp (maxSteps := 1000000) only [givesF, setF, updF, Fam.zeroth, Fam.rk, Ck.rk, C.rk, E.rk, T.rk, key, List.map_cons, List.map_nil, List.cons_append, List.nil_append, List.length_cons, List.length_nil, Option.map_some, Option.bind_some, Nat.reduceAdd, Nat.zero_add, Nat.add_zero, Nat.add_sub_cancel_left, Int.toNat_natCast, reps, List.all_cons, List.all_nil, C.flat, List.append_eq, Bool.not_true, Bool.and_true, Bool.or_false, Bool.or_self, Bool.not_false, List.append_nil, Bool.and_self, ↓prC_rk, ↓rqO_rk, encQ]) <;> rfl) (hv : v.rk σ N = v' := by (try simp only [givesF, setF, updF, Fam.zeroth, Fam.rk, Ck.rk, C.rk, E.rk, T.rk, key, List.map_cons, List.map_nil, List.cons_append, List.nil_append, List.length_cons, List.length_nil, Option.map_some, Option.bind_some, Nat.reduceAdd, Nat.zero_add, Nat.add_zero, Nat.add_sub_cancel_left, Int.toNat_natCast, reps, List.all_cons, List.all_nil, C.flat, List.append_eq, Bool.not_true, Bool.and_true, Bool.or_false, Bool.or_self, Bool.not_false, List.append_nil, Bool.and_self, ↓prC_rk, ↓rqO_rk, encQ]) <;> rfl) : RetG σ H h' v K := ret_mk3 hN h hv hk
set_option maxRecDepth 10000 in
theorem ccompat (o r : Qos) : Ctr Try.prog 24 [.a (encQ o), .a (encQ r)] [] fun v h => v = .c (.b (decide (viol o r = 0))) ∧ h = [] := by
  refine Ctr.mk' tbv mixed Try.func24 rfl rfl rfl (fun _ _ => by kernel_rfl) (by kernel_rfl) (by rfl) (by rfl) (by (repeat' first | refine And.intro ?_ ?_ | exact xeC | fail)) ?_
  repeat' (first | (fail_if_success (with_reducible refine xstp ?_)); first | (with_reducible intro hc; (try simp only [capsP, and_true] at hc); (try exact xfC)) | ((fail_if_success (with_reducible first | refine xgon ?_ | intro _)); (conv => whnf); (fail_if_success (fail_if_success (with_reducible first | refine xstp ?_ | refine xgon ?_ | intro _)))))
  refine cH18oD2 (σ := []) (nl := []) (cviol o r) ?_
  rintro v h' ⟨rfl, rfl⟩ hcaps
  refine rH18oD1 ?_
  repeat' (first | (fail_if_success (with_reducible refine xstp ?_)); first | ((fail_if_success (with_reducible first | refine xgon ?_ | intro _)); (conv => whnf); (fail_if_success (fail_if_success (with_reducible first | refine xstp ?_ | refine xgon ?_ | intro _)))))
  refine FinK.mk ⟨[], _, _, ⟨rfl, rfl⟩, ?_⟩; (repeat' first | refine And.intro ?_ ?_ | exact xeC | fail)


/-- The first number of a reader that is matched. -/
def staF (q q2 : Qos) (W : Ws) : Int := if q.dur = true ∧ q2.dur = true then W.l.foldl (fun a s => min a s.q) (W.la + 1) else W.la + 1
def newP (q q2 : Qos) (W : Ws) (nd at' : Int) : Pr := ⟨nd, q.rel && q2.rel, staF q q2 W, staF q q2 W - 1, staF q q2 W - 1, [], decide (1 < staF q q2 W), at'⟩
def addPW (W : Ws) (r : Int) (p : Pr) : Ws := ⟨W.l, W.la, W.M ++ [(W.ck, r)], W.ck + 1, fun y => if y = r.toNat then some p else W.D y⟩
def maE (q : Qos) (r nd at' : Int) (q2 : Qos) (W : Ws) : Int :=
  if r < 1 ∨ 1073741824 < r ∨ nd < 0 ∨ 8 ≤ nd ∨ at' < 0 ∨ 1099511627776 < at' then 4 else if ¬ okQ q2 then 4 else if ¬ viol q q2 = 0 then 14 else if (W.get r).isSome then 7
  else if 32 ≤ W.M.length then 15 else 0
def maW (q : Qos) (r nd at' : Int) (q2 : Qos) (W : Ws) : Ws := if maE q r nd at' q2 W = 0 then addPW W r (newP q q2 W nd at') else W
def updC (cf : Nat → Nat) (w : Int) (c : Nat) : Nat → Nat := fun y => if y = w.toNat then c else cf y
theorem addPW_lt {W : Ws} {r : Int} {p : Pr} {i : Nat} (hi : i < W.M.length) : (addPW W r p).M.getD i default = W.M.getD i default := by
  simp [addPW, List.getD, List.getElem?_append_left hi]
theorem addPW_eq {W : Ws} {r : Int} {p : Pr} : (addPW W r p).M.getD W.M.length default = (W.ck, r) := by
  simp [addPW, List.getD]
theorem addPW_len {W : Ws} {r : Int} {p : Pr} : (addPW W r p).M.length = W.M.length + 1 := by simp [addPW]
theorem mapP_adopt {W : Ws} {w : Int} {p : Pr} {σ : List Sg} {a b : Nat} {f : Nat} (h1 : ∀ x, key σ 0 f x = (if x = w.toNat then b else a, if x = w.toNat then 0 else x)) (hno : ∀ i, i < W.M.length → (W.M.getD i default).2 ≠ w) (hW : WOk W) (hw : 1 ≤ w) (i : Nat) (hi : i < (addPW W w p).M.length) :
    (if i = W.M.length then (W.ck, Key.i w, E.c (.p b 0 0)) else ((W.M.getD i default).1, Key.i (W.M.getD i default).2, E.c (.p a (W.M.getD i default).2.toNat 0))) =
      (((addPW W w p).M.getD i default).1, Key.i ((addPW W w p).M.getD i default).2, E.rk σ 0 (.c (.p f ((addPW W w p).M.getD i default).2.toNat 0))) := by
  rw [addPW_len] at hi
  by_cases h : i = W.M.length
  · subst h
    rw [addPW_eq]
    simp [E.rk, C.rk, h1]
  · have hlt : i < W.M.length := by omega
    have h2 := (hW.a i hlt).1
    have h3 : ¬ (W.M.getD i default).2.toNat = w.toNat := fun e => hno i hlt (by omega)
    rw [if_neg h, addPW_lt hlt]
    simp only [E.rk, C.rk, h1, if_neg h3]
theorem leK_cong {N : Nat} {q q' q'' : Ck} {A : Prop} (h : q' = q'') (hk : q.leK N q'' A) : q.leK N q' A := by
  rw [h]; exact hk
theorem sta_min : ∀ (t : List Smp) (a : Int), (∀ s ∈ t, 1 ≤ s.q) → 1 ≤ a → 1 ≤ t.foldl (fun a s => min a s.q) a ∧ t.foldl (fun a s => min a s.q) a ≤ a
  | [], a, _, h => ⟨h, Int.le_refl _⟩
  | s :: t, a, h, ha => by
    have h1 := h s (List.mem_cons_self ..)
    have := sta_min t (min a s.q) (fun x hx => h x (List.mem_cons_of_mem _ hx)) (by omega)
    simp only [List.foldl_cons]
    omega
theorem sta_le {l : List Smp} {la : Int} (h : ∀ s ∈ l, 1 ≤ s.q) (hla : 0 ≤ la ∧ la ≤ 1000000) (k : Nat) : 1 ≤ (l.take k).foldl (fun a s => min a s.q) (la + 1) ∧ (l.take k).foldl (fun a s => min a s.q) (la + 1) ≤ la + 1 :=
  sta_min _ _ (fun s hs => h s (List.take_subset _ _ hs)) (by omega)
abbrev wM (id per : Int) (q : Qos) (W : Ws) (c : Nat) (cf : Nat → Nat) : List Fam :=
  [.one (wrc 1 2 id per W.la q), .one (hist 3 q W.l.length c), .one (peM 6 W.M W.ck), .one (smps true W.l c), .one .no, .one .no, prs 7 W.D cf, rqs W.D cf]
set_option maxRecDepth 10000 in
set_option maxHeartbeats 16000000 in
theorem cmatchW (id per : Int) (q : Qos) (W : Ws) (c : Nat) (cf : Nat → Nat) (r nd at' : Int) (q2 : Qos) (hW : WOk W) (hl : W.l.length ≤ 1000000) (hla : 0 ≤ W.la ∧ W.la ≤ 1000000) (hpos : ∀ s ∈ W.l, 1 ≤ s.q) :
    Ctr Try.prog 8 [.c (.p 0 0 0), .c (.i .i64 r), .c (.i .i64 nd), .c (.i .i64 at'), .a (encQ q2)] (wB id per q W c cf)
      fun v h => ∃ cf', v = .c (.i .i64 (maE q r nd at' q2 W)) ∧ h = wM id per q (maW q r nd at' q2 W) c cf' := by
  refine Ctr.mk' tbv mixed Try.func8 rfl rfl rfl (fun _ _ => by kernel_rfl) (by kernel_rfl) (by rfl) (by rfl) (by (repeat' first | refine And.intro ?_ ?_ | exact xeC | fail) <;> exact xmC) ?_
  repeat' (first | (fail_if_success (with_reducible refine xstp ?_)); first | ((with_reducible refine And.intro (fun (hb : _ = true) => ?_) (fun (hb : _ = false) => ?_)) <;> replace hb := xnC hb <;> (try first | exact xfC | exact bff hb (by assumption) | exact bff (by assumption) hb)) | (with_reducible intro hc; (try simp only [capsP, and_true] at hc); (try exact xfC)) | ((fail_if_success (with_reducible first | refine xgon ?_ | intro _)); (conv => whnf); (fail_if_success (fail_if_success (with_reducible first | refine xstp ?_ | refine xgon ?_ | intro _)))))
  all_goals try (
    have e1 : maE q r nd at' q2 W = 4 := by
      unfold maE
      rw [if_pos (by omega)]
    have e2 : maW q r nd at' q2 W = W := by unfold maW; rw [e1]; rfl
    rw [e1, e2]
    refine FinK.mk ⟨[0, 1, 2, 3, 4, 5, 4, 5], _, _, ⟨cf, rfl, rfl⟩, ?_⟩
    (repeat' first | refine And.intro ?_ ?_ | exact xeC | fail)
    all_goals (exact xmC)
    done)
  have hA : ¬ (r < 1 ∨ 1073741824 < r ∨ nd < 0 ∨ 8 ≤ nd ∨ at' < 0 ∨ 1099511627776 < at') := by omega
  have hw : 1 ≤ r := by omega
  refine cH18oD2 (σ := []) (nl := []) (icheck q2) ?_
  rintro v h' ⟨rfl, rfl⟩ hcaps
  refine rH18oD1 ?_
  repeat' (first | (fail_if_success (with_reducible refine xstp ?_)); first | ((with_reducible refine And.intro (fun (hb : _ = true) => ?_) (fun (hb : _ = false) => ?_)) <;> replace hb := xnC hb <;> (try first | exact xfC | exact bff hb (by assumption) | exact bff (by assumption) hb)) | ((fail_if_success (with_reducible first | refine xgon ?_ | intro _)); (conv => whnf); (fail_if_success (fail_if_success (with_reducible first | refine xstp ?_ | refine xgon ?_ | intro _)))))
  · have hq : ¬ okQ q2 := fun h => hb (if_pos h)
    have e0 : checkI q2 = 4 := if_neg hq
    rw [e0]
    have e1 : maE q r nd at' q2 W = 4 := by
      unfold maE
      rw [if_neg hA, if_pos hq]
    have e2 : maW q r nd at' q2 W = W := by unfold maW; rw [e1]; rfl
    rw [e1, e2]
    refine FinK.mk ⟨[0, 1, 2, 3, 4, 5, 4, 5], _, _, ⟨cf, rfl, rfl⟩, ?_⟩
    (repeat' first | refine And.intro ?_ ?_ | exact xeC | fail)
    all_goals (exact xmC)
  have hq : okQ q2 := by
    by_cases h : okQ q2
    · exact h
    · exfalso
      rw [show checkI q2 = 4 from if_neg h] at hb
      omega
  refine cH18oD2 (σ := []) (nl := []) (ccompat q q2) ?_
  rintro v h' ⟨rfl, rfl⟩ hcaps
  refine rH18oD1 ?_
  repeat' (first | (fail_if_success (with_reducible refine xstp ?_)); first | ((with_reducible refine And.intro (fun (hb : _ = true) => ?_) (fun (hb : _ = false) => ?_)) <;> replace hb := xnC hb <;> (try first | exact xfC | exact bff hb (by assumption) | exact bff (by assumption) hb)) | (with_reducible refine Both.mk ?_ ?_) | ((with_reducible refine And.intro ?_ ?_); focus exact xoC) | (with_reducible intro hc; (try simp only [capsP, and_true] at hc); (try exact xfC)) | ((fail_if_success (with_reducible first | refine xgon ?_ | intro _)); (conv => whnf); (fail_if_success (fail_if_success (with_reducible first | refine xstp ?_ | refine Both.mk ?_ ?_ | refine xgon ?_ | intro _)))))
  · have hv : ¬ viol q q2 = 0 := by assumption
    have e1 : maE q r nd at' q2 W = 14 := by
      unfold maE
      rw [if_neg hA, if_neg (by simpa using hq), if_pos hv]
    have e2 : maW q r nd at' q2 W = W := by unfold maW; rw [e1]; rfl
    rw [e1, e2]
    refine FinK.mk ⟨[0, 1, 2, 3, 4, 5, 4, 5], _, _, ⟨cf, rfl, rfl⟩, ?_⟩
    (repeat' first | refine And.intro ?_ ?_ | exact xeC | fail)
    all_goals (exact xmC)
  all_goals have hv : viol q q2 = 0 := by assumption
  · rename_i i hi
    obtain ⟨p, hm, hD, h1⟩ := getP_yes hW hi (Key.i.inj hc)
    have e1 : maE q r nd at' q2 W = 7 := by
      unfold maE
      rw [if_neg hA, if_neg (by simpa using hq), if_neg (by simpa using hv), hm]
      rfl
    have e2 : maW q r nd at' q2 W = W := by unfold maW; rw [e1]; rfl
    rw [e1, e2]
    refine FinK.mk ⟨[0, 1, 2, 3, 4, 5, 4, 5], _, _, ⟨cf, rfl, rfl⟩, ?_⟩
    (repeat' first | refine And.intro ?_ ?_ | exact xeC | fail)
    all_goals (exact xmC)
  · have hn : W.get r = none := getP_no hW fun i hi h => hc i hi (by rw [h])
    have e1 : maE q r nd at' q2 W = 15 := by
      unfold maE
      rw [if_neg hA, if_neg (by simpa using hq), if_neg (by simpa using hv), hn]
      show (if 32 ≤ W.M.length then (15 : Int) else 0) = 15
      exact if_pos (by omega)
    have e2 : maW q r nd at' q2 W = W := by unfold maW; rw [e1]; rfl
    rw [e1, e2]
    refine FinK.mk ⟨[0, 1, 2, 3, 4, 5, 4, 5], _, _, ⟨cf, rfl, rfl⟩, ?_⟩
    (repeat' first | refine And.intro ?_ ?_ | exact xeC | fail)
    all_goals (exact xmC)
  · have hsl := sta_le (la := W.la) hpos hla
    refine cH18oD2 (σ := [.whole 1, .whole 3]) (nl := []) (ilist q W.l c hl) ?_
    rintro v h' ⟨c', rfl, rfl⟩ hcaps
    refine rH18oD1 ?_
    repeat' (first | (fail_if_success (with_reducible refine xstp ?_)); first | ((fail_if_success (with_reducible first | refine xgon ?_ | intro _)); (conv => whnf); (fail_if_success (fail_if_success (with_reducible first | refine xstp ?_ | refine xgon ?_ | intro _)))))
    refine LoopK.mk' {k : Nat // k ≤ W.l.length}
      (fun ⟨k, _⟩ => ⟨[(0, .c (.p 0 0 0)), (1, .c (.i .i64 r)), (2, .c (.i .i64 nd)), (3, .c (.i .i64 at')), (9, .c (.p 6 0 0)), (12, .c (.i .i64 ((W.l.take k).foldl (fun a s => min a s.q) (W.la + 1)))), (91, .c (.sl 7 0 4 0 W.l.length c')), (92, .c (.i .i64 W.l.length)), (93, .c (.i .i64 k))],
        [.one (wrc 1 2 id per W.la q), .one (hist 3 q W.l.length c), .one (peM 4 W.M W.ck), .one (smps true W.l c), prs 5 W.D cf, rqs W.D cf, .one (.cells true (encQ q2)), .one (smps true W.l c')]⟩)
      (fun k => W.l.length - k.1)
      ⟨⟨0, Nat.zero_le _⟩, [0, 1, 2, 3, 4, 5, 6, 7], ?_⟩ ?_
    · (repeat' first | refine And.intro ?_ ?_ | exact xeC | fail)
      all_goals (exact xmC)
    rintro ⟨k, hk⟩
    have hsk := hsl k
    repeat' (first | (fail_if_success (with_reducible refine xstp ?_)); first | ((with_reducible refine And.intro (fun (hb : _ = true) => ?_) (fun (hb : _ = false) => ?_)) <;> replace hb := xnC hb <;> (try first | exact xfC | exact bff hb (by assumption) | exact bff (by assumption) hb)) | (with_reducible refine Both.mk ?_ ?_) | ((with_reducible refine And.intro ?_ ?_); focus exact xoC) | (with_reducible intro hc; (try simp only [capsP, and_true] at hc); (try exact xfC)) | ((fail_if_success (with_reducible first | refine xgon ?_ | intro _)); (conv => whnf); (fail_if_success (fail_if_success (with_reducible first | refine xstp ?_ | refine Both.mk ?_ ?_ | refine xgon ?_ | intro _)))))
    · have e1 : (W.l.take (k + 1)).foldl (fun a s => min a s.q) (W.la + 1) = min ((W.l.take k).foldl (fun a s => min a s.q) (W.la + 1)) (W.l.getD k default).q := by
        rw [← List.take_append_getElem (show k < W.l.length by omega), List.foldl_append, getD_at (show k < W.l.length by omega)]
        rfl
      refine ⟨⟨k + 1, by omega⟩, [0, 1, 2, 3, 4, 5, 6, 7], by simp only; omega, ?_⟩
      simp only [e1]
      (repeat' first | refine And.intro ?_ ?_ | exact xeC | fail)
      all_goals first | (exact xmC) | (simp only [Int.toNat_natCast, Nat.zero_add]; done) | skip
      all_goals trace_state
    all_goals have ek : W.l.take k = W.l := List.take_of_length_le (by omega)
    all_goals rw [ek] at hsk ⊢
    all_goals try exact ((by assumption : ∀ (i : Nat), i < W.M.length → Key.i (W.M.getD i default).snd ≠ Key.i r) _ (by assumption) hc).elim
    all_goals (
      have hno : ∀ i, i < W.M.length → (W.M.getD i default).2 ≠ r := fun i hi h => hc i hi (by rw [h])
      have hn : W.get r = none := getP_no hW hno
      have e1 : maE q r nd at' q2 W = 0 := by
        unfold maE
        rw [if_neg hA, if_neg (by simpa using hq), if_neg (by simpa using hv), hn]
        show (if 32 ≤ W.M.length then (15 : Int) else 0) = 0
        exact if_neg (by omega)
      have e2 : maW q r nd at' q2 W = addPW W r (newP q q2 W nd at') := by unfold maW; rw [e1]; rfl
      rw [e1, e2]
      refine FinK.mk ⟨[0, 1, 2, 3, 4, 5, .adopt 4 r.toNat 8, .adopt 5 r.toNat 99], _, _, ⟨updC cf r 0, rfl, rfl⟩, ?_⟩
      (repeat' first | refine And.intro ?_ ?_ | exact xeC | fail)
      all_goals first
        | exact addPW_len.symm
        | exact mapP_adopt (fun x => rfl) hno hW hw
        | (intro x hx
           show Ck.leK _ _ (Ck.rk _ _ (prC 7 x x (if x = r.toNat then _ else _) (if x = r.toNat then _ else _))) True
           rw [if_neg hx, if_neg hx]
           exact prC_le (by simp [key, hx]))
        | skip
      have hsn : staF q q2 W = W.l.foldl (fun a s => min a s.q) (W.la + 1) := by unfold staF; first | exact if_pos ⟨by assumption, by assumption⟩ | (refine if_neg fun h => ?_; obtain ⟨h1, h2⟩ := h; simp_all)
      have hrt : ((r.toNat : Nat) : Int) = r := Int.toNat_of_nonneg (by omega)
      refine leK_cong (q'' := .cells true [.i .i64 r, .i .i64 nd, .b (q.rel && q2.rel), .i .i64 (staF q q2 W), .i .i64 (staF q q2 W - 1), .i .i64 (staF q q2 W - 1), .sl 99 0 1 0 0 0, .b (decide (1 < staF q q2 W)), .i .i64 at']) (by
        show Ck.rk _ _ (prC 7 r.toNat r.toNat ((addPW W r (newP q q2 W nd at')).D r.toNat) (updC cf r 0 r.toNat)) = _
        rw [show (addPW W r (newP q q2 W nd at')).D r.toNat = some (newP q q2 W nd at') from if_pos rfl, show updC cf r 0 r.toNat = 0 from if_pos rfl]
        simp [prC, encPr, newP, Ck.rk, C.rk, key, hrt]) ?_
      rw [hsn]
      (repeat' first | refine And.intro ?_ ?_ | exact xeC | fail)
      all_goals first
        | (simp [*]; done)
        | (intro x hx
           show Ck.leK _ _ (Ck.rk _ _ (rqO (if x = r.toNat then _ else _) (if x = r.toNat then _ else _))) True
           rw [if_neg hx, if_neg hx]
           exact rqO_le)
        | skip
      show nilLe (.one (rqO ((addPW W r (newP q q2 W nd at')).D r.toNat) (updC cf r 0 r.toNat))) _
      rw [show (addPW W r (newP q q2 W nd at')).D r.toNat = some (newP q q2 W nd at') from if_pos rfl, show updC cf r 0 r.toNat = 0 from if_pos rfl]
      refine ⟨rfl, rfl, ?_⟩
      (repeat' first | refine And.intro ?_ ?_ | exact xeC | fail)
      all_goals (exact xmC)
      skip)
  all_goals try exact ((by assumption : ∀ (i : Nat), i < W.M.length → Key.i (W.M.getD i default).snd ≠ Key.i r) _ (by assumption) hc).elim
  all_goals (
    have hno : ∀ i, i < W.M.length → (W.M.getD i default).2 ≠ r := fun i hi h => hc i hi (by rw [h])
    have hn : W.get r = none := getP_no hW hno
    have e1 : maE q r nd at' q2 W = 0 := by
      unfold maE
      rw [if_neg hA, if_neg (by simpa using hq), if_neg (by simpa using hv), hn]
      show (if 32 ≤ W.M.length then (15 : Int) else 0) = 0
      exact if_neg (by omega)
    have e2 : maW q r nd at' q2 W = addPW W r (newP q q2 W nd at') := by unfold maW; rw [e1]; rfl
    rw [e1, e2]
    refine FinK.mk ⟨[0, 1, 2, 3, 4, 5, .adopt 4 r.toNat 7, .adopt 5 r.toNat 99], _, _, ⟨updC cf r 0, rfl, rfl⟩, ?_⟩
    (repeat' first | refine And.intro ?_ ?_ | exact xeC | fail)
    all_goals first
      | exact addPW_len.symm
      | exact mapP_adopt (fun x => rfl) hno hW hw
      | (intro x hx
         show Ck.leK _ _ (Ck.rk _ _ (prC 7 x x (if x = r.toNat then _ else _) (if x = r.toNat then _ else _))) True
         rw [if_neg hx, if_neg hx]
         exact prC_le (by simp [key, hx]))
      | skip
    have hsn : staF q q2 W = W.la + 1 := by unfold staF; first | exact if_pos ⟨by assumption, by assumption⟩ | (refine if_neg fun h => ?_; obtain ⟨h1, h2⟩ := h; simp_all)
    have hrt : ((r.toNat : Nat) : Int) = r := Int.toNat_of_nonneg (by omega)
    refine leK_cong (q'' := .cells true [.i .i64 r, .i .i64 nd, .b (q.rel && q2.rel), .i .i64 (staF q q2 W), .i .i64 (staF q q2 W - 1), .i .i64 (staF q q2 W - 1), .sl 99 0 1 0 0 0, .b (decide (1 < staF q q2 W)), .i .i64 at']) (by
      show Ck.rk _ _ (prC 7 r.toNat r.toNat ((addPW W r (newP q q2 W nd at')).D r.toNat) (updC cf r 0 r.toNat)) = _
      rw [show (addPW W r (newP q q2 W nd at')).D r.toNat = some (newP q q2 W nd at') from if_pos rfl, show updC cf r 0 r.toNat = 0 from if_pos rfl]
      simp [prC, encPr, newP, Ck.rk, C.rk, key, hrt]) ?_
    rw [hsn]
    (repeat' first | refine And.intro ?_ ?_ | exact xeC | fail)
    all_goals first
      | (simp [*]; done)
      | (intro x hx
         show Ck.leK _ _ (Ck.rk _ _ (rqO (if x = r.toNat then _ else _) (if x = r.toNat then _ else _))) True
         rw [if_neg hx, if_neg hx]
         exact rqO_le)
      | skip
    show nilLe (.one (rqO ((addPW W r (newP q q2 W nd at')).D r.toNat) (updC cf r 0 r.toNat))) _
    rw [show (addPW W r (newP q q2 W nd at')).D r.toNat = some (newP q q2 W nd at') from if_pos rfl, show updC cf r 0 r.toNat = 0 from if_pos rfl]
    refine ⟨rfl, rfl, ?_⟩
    (repeat' first | refine And.intro ?_ ?_ | exact xeC | fail)
    all_goals (exact xmC)
    skip)
end Go.Proofs.Ytofcadbfjbefkaa


namespace Go.Proofs.Ytofcadbfjbefkaa
open Go.X
set_option linter.unusedSimpArgs false
set_option linter.unusedVariables false
/-! ### Contains -/
set_option maxRecDepth 10000 in
theorem cindex (wa : Bool) (l : List Int) (c : Nat) (n : Int) (hl : l.length ≤ 1000000) :
    Ctr Try.prog 47 [.c (.sl 0 0 1 0 l.length c), .c (.i .i64 n)] [.one (ints wa l c)]
      fun v h => ∃ k : Int, (0 ≤ k ↔ n ∈ l) ∧ v = .c (.i .i64 k) ∧ h = [.one (ints wa l c)] := by
  refine Ctr.mk' tbv mixed Try.func47 rfl rfl rfl (fun _ _ => by kernel_rfl) (by kernel_rfl) (by rfl) (by rfl) (by (repeat' first | refine And.intro ?_ ?_ | exact xeC | fail)) ?_
  repeat' (first | (fail_if_success (with_reducible refine xstp ?_)); first | (with_reducible intro hc; (try simp only [capsP, and_true] at hc); (try exact xfC)) | ((fail_if_success (with_reducible first | refine xgon ?_ | intro _)); (conv => whnf); (fail_if_success (fail_if_success (with_reducible first | refine xstp ?_ | refine xgon ?_ | intro _)))))
  refine LoopK.mk' {i : Nat // i ≤ l.length ∧ ∀ j, j < i → l.getD j default ≠ n}
    (fun ⟨i, _⟩ => ⟨[(0, .c (.sl 0 0 1 0 l.length c)), (1, .c (.i .i64 n)), (7, .c (.i .i64 l.length)), (8, .c (.i .i64 (i : Nat)))], [.one (ints wa l c)]⟩) (fun k => l.length - k.1)
    ⟨⟨0, Nat.zero_le _, fun j h => absurd h (Nat.not_lt_zero j)⟩, [0], ?_⟩ ?_
  · (repeat' first | refine And.intro ?_ ?_ | exact xeC | fail)
  rintro ⟨i, hi, hno⟩
  repeat' (first | (fail_if_success (with_reducible refine xstp ?_)); first | ((with_reducible refine And.intro (fun (hb : _ = true) => ?_) (fun (hb : _ = false) => ?_)) <;> replace hb := xnC hb <;> (try first | exact xfC | exact bff hb (by assumption) | exact bff (by assumption) hb)) | ((with_reducible refine And.intro ?_ ?_); focus exact xoC) | (with_reducible intro hc; (try simp only [capsP, and_true] at hc); (try exact xfC)) | ((fail_if_success (with_reducible first | refine xgon ?_ | intro _)); (conv => whnf); (fail_if_success (fail_if_success (with_reducible first | refine xstp ?_ | refine xgon ?_ | intro _)))))
  · refine FinK.mk ⟨[0], _, _, ⟨i, ⟨fun _ => ?_, fun _ => Int.natCast_nonneg i⟩, rfl, rfl⟩, ?_⟩
    · have : n = l.getD i default := by simpa [Go.X.encI] using hb
      rw [this, getD_at (by omega)]
      exact List.getElem_mem _
    · (repeat' first | refine And.intro ?_ ?_ | exact xeC | fail)
  · refine ⟨⟨i + 1, by omega, fun j hj => ?_⟩, [0], by simp only; omega, ?_⟩
    · rcases (by omega : j < i ∨ j = i) with h | rfl
      · exact hno j h
      · intro e
        apply hb
        simpa [Go.X.encI] using e.symm
    · (repeat' first | refine And.intro ?_ ?_ | exact xeC | fail)
  · refine FinK.mk ⟨[0], _, _, ⟨-1, ⟨fun h => by omega, fun h => ?_⟩, rfl, rfl⟩, ?_⟩
    · obtain ⟨j, hj, rfl⟩ := List.mem_iff_getElem.1 h
      exact absurd (getD_at hj) (hno j (by omega))
    · (repeat' first | refine And.intro ?_ ?_ | exact xeC | fail)
theorem rH18oE0 {σ : List Sg} {H h' : List Fam} {v : T} {K : T → List Fam → Prop} {H' : List Fam} {v' : T} {N : Nat} (hk : K v' H') (hN : H.length = N := by (try simp only [↓List.length_cons, ↓List.length_nil, Nat.reduceAdd]) <;> rfl) (h : givesF σ N H σ h' = some H' := by (try simp (maxSteps := 1000000) only [givesF, setF, updF, Fam.zeroth, Fam.rk, Ck.rk, C.rk, E.rk, T.rk, key, List.map_cons, List.map_nil, List.cons_append, List.nil_append, List.length_cons, List.length_nil, Option.map_some, Option.bind_some, Nat.reduceAdd, Nat.zero_add, Nat.add_zero, Nat.add_sub_cancel_left, Int.toNat_natCast, reps, List.all_cons, List.all_nil, C.flat, List.append_eq, Bool.not_true, Bool.and_true, Bool.or_false, Bool.or_self, Bool.not_false, List.append_nil, Bool.and_self, ↓prC_rk, ↓rqO_rk]) <;> rfl) (hv : v.rk σ N = v' := by (try simp only [givesF, setF, updF, Fam.zeroth, Fam.rk, Ck.rk, C.rk, E.rk, T.rk, key, List.map_cons, List.map_nil, List.cons_append, List.nil_append, List.length_cons, List.length_nil, Option.map_some, Option.bind_some, Nat.reduceAdd, Nat.zero_add, Nat.add_zero, Nat.add_sub_cancel_left, Int.toNat_natCast, reps, List.all_cons, List.all_nil, C.flat, List.append_eq, Bool.not_true, Bool.and_true, Bool.or_false, Bool.or_self, Bool.not_false, List.append_nil, Bool.and_self, ↓prC_rk, ↓rqO_rk]) <;> rfl) : RetG σ H h' v K := ret_mk3 hN h hv hk
theorem cH18oE2 {P : Program} {F : Nat} {args : List T} {H : List Fam} {K : T → List Fam → Prop} {σ : List Sg} {nl : List Fam} {args0 : List T} {h0 : List Fam} {Q : T → List Fam → Prop} {H2 H1 : List Fam} {N n : Nat} (hc : Ctr P F args0 h0 Q) (hk : ∀ v h', Q v h' → capsP h' → RetG σ H2 h' v K) (hap : apart σ = true := by rfl) (hnl : nl.all nilB = true := by rfl) (h1 : H ++ nl = H1 := by first | exact List.append_nil _ | ((try simp only [List.cons_append, List.nil_append]) <;> rfl)) (hN : H1.length = N := by (try simp only [↓List.length_cons, ↓List.length_nil, Nat.reduceAdd]) <;> rfl) (hn : H.length = n := by (try simp only [↓List.length_cons, ↓List.length_nil, Nat.reduceAdd]) <;> rfl) (hH : givesF σ N H1 σ h0 = some H2 := by (try simp (maxSteps := 1000000) only [givesF, setF, updF, Fam.zeroth, Fam.rk, Ck.rk, C.rk, E.rk, T.rk, key, List.map_cons, List.map_nil, List.cons_append, List.nil_append, List.length_cons, List.length_nil, Option.map_some, Option.bind_some, Nat.reduceAdd, Nat.zero_add, Nat.add_zero, Nat.add_sub_cancel_left, Int.toNat_natCast, reps, List.all_cons, List.all_nil, C.flat, List.append_eq, Bool.not_true, Bool.and_true, Bool.or_false, Bool.or_self, Bool.not_false, List.append_nil, Bool.and_self, ↓prC_rk, ↓rqO_rk]) <;> rfl) (hle : leS n H1 σ N σ h0 (belsK N (h0.map (Fam.rk σ N)) (argsK n args (args0.map (T.rk σ N)) True)) := by repeat' first | refine And.intro ?_ ?_ | exact xeC | fail) : CallK P F args H K := CallK.mk3 hc hap hnl h1 hN hn hH hle hk
set_option maxRecDepth 10000 in
theorem ccontains (wa : Bool) (l : List Int) (c : Nat) (n : Int) (hl : l.length ≤ 1000000) :
    Ctr Try.prog 29 [.c (.sl 0 0 1 0 l.length c), .c (.i .i64 n)] [.one (ints wa l c)]
      fun v h => v = .c (.b (decide (n ∈ l))) ∧ h = [.one (ints wa l c)] := by
  refine Ctr.mk' tbv mixed Try.func29 rfl rfl rfl (fun _ _ => by kernel_rfl) (by kernel_rfl) (by rfl) (by rfl) (by (repeat' first | refine And.intro ?_ ?_ | exact xeC | fail)) ?_
  repeat' (first | (fail_if_success (with_reducible refine xstp ?_)); first | (with_reducible intro hc; (try simp only [capsP, and_true] at hc); (try exact xfC)) | ((fail_if_success (with_reducible first | refine xgon ?_ | intro _)); (conv => whnf); (fail_if_success (fail_if_success (with_reducible first | refine xstp ?_ | refine xgon ?_ | intro _)))))
  refine cH18oE2 (σ := [.whole 0]) (nl := []) (cindex wa l c n hl) ?_
  rintro v h' ⟨k, hk, rfl, rfl⟩ hcaps
  refine rH18oE0 ?_
  repeat' (first | (fail_if_success (with_reducible refine xstp ?_)); first | ((fail_if_success (with_reducible first | refine xgon ?_ | intro _)); (conv => whnf); (fail_if_success (fail_if_success (with_reducible first | refine xstp ?_ | refine xgon ?_ | intro _)))))
  refine FinK.mk ⟨[0], _, _, ⟨rfl, rfl⟩, ?_⟩; (repeat' first | refine And.intro ?_ ?_ | exact xeC | fail)
  exact decide_eq_decide.2 hk

/-! ### Ack -/
def setP (W : Ws) (r : Int) (p : Pr) : Ws := ⟨W.l, W.la, W.M, W.ck, fun y => if y = r.toNat then some p else W.D y⟩
theorem setP_self {W : Ws} {r : Int} {p : Pr} (h : W.D r.toNat = some p) : setP W r p = W := by
  unfold setP
  have e : (fun y => if y = r.toNat then some p else W.D y) = W.D := by
    funext y
    split
    · rename_i e; rw [e, h]
    · rfl
  rw [e]
theorem chk_f {x : Pk} (h : chk x = 0) (hk : x.k = 3) : 1 ≤ x.f ∧ x.f ≤ 1099511627776 := by
  have hr : rngP x := by
    by_cases hr : rngP x
    · exact hr
    · unfold chk at h; rw [if_pos hr] at h; omega
  have := hr.2.2.2.2.2.2.1
  omega
theorem prs_set {N N' F F' X : Nat} {σ : List Sg} {D D' : Nat → Option Pr} {cf cf' : Nat → Nat} {c1 : Ck} (hk : ∀ x, x ≠ X → key σ N' F x = (F', x)) (hD : ∀ y, y ≠ X → D' y = D y) (hc : ∀ y, y ≠ X → cf' y = cf y)
    (h1 : c1.leK N ((prC F X X (D' X) (cf' X)).rk σ N') True) (y : Nat) : (if y = X then c1 else prC F' y y (D y) (cf y)).leK N ((prC F y y (D' y) (cf' y)).rk σ N') True := by
  by_cases h : y = X
  · subst h; rw [if_pos rfl]; exact h1
  · rw [if_neg h, hD y h, hc y h]; exact prC_le (hk y h)
theorem prC_cells {N N' F X c : Nat} {σ : List Sg} {o : Option Pr} {p : Pr} {l : List C} (ho : o = some p) (hl : l = encPr (key σ N' F X).1 (key σ N' F X).2 X p c) : (Ck.cells true l).leK N ((prC F X X o c).rk σ N') True := by
  subst ho hl
  rw [prC_rk]
  simp [prC, encPr, Ck.leK, sameB, eqL, C.eqK, sameK, ifB, kNat]
theorem prC_cells2 {N N' F X c : Nat} {σ : List Sg} {o : Option Pr} {p : Pr} {l : List C} (ho : o = some p) (hl : eqL N l (encPr (key σ N' F X).1 (key σ N' F X).2 X p c) True) : (Ck.cells true l).leK N ((prC F X X o c).rk σ N') True := by
  subst ho
  rw [prC_rk]
  exact ⟨rfl, hl⟩
theorem rqs_same {N N' X : Nat} {σ : List Sg} {D D' : Nat → Option Pr} {cf : Nat → Nat} {p p' : Pr} (h1 : D X = some p) (h2 : D' X = some p') (h3 : p'.rq = p.rq) (hD : ∀ y, y ≠ X → D' y = D y) (y : Nat) : (rqO (D y) (cf y)).leK N ((rqO (D' y) (cf y)).rk σ N') True := by
  by_cases h : y = X
  · subst h
    have e : rqO (D' y) (cf y) = rqO (D y) (cf y) := by rw [h1, h2]; simp only [rqO, h3]
    rw [e]
    exact rqO_le
  · rw [hD y h]; exact rqO_le
theorem chk_m {x : Pk} (h : chk x = 0) : x.m.length ≤ 32 := by
  unfold chk at h
  split at h
  · omega
  · split at h
    · omega
    · omega
def akS (p : Pr) (n : Int) : Pr := if n < p.st then ⟨p.nd, p.rel, p.st, p.ac, p.se, p.rq, true, p.bt⟩ else if n ≤ p.se ∧ ¬ n ∈ p.rq then ⟨p.nd, p.rel, p.st, p.ac, p.se, p.rq ++ [n], p.bg, p.bt⟩ else p
def akC (p : Pr) (f : Int) : Pr := ⟨p.nd, p.rel, p.st, max p.ac (f - 1), p.se, p.rq, p.bg, p.bt⟩
def akP (x : Pk) (p : Pr) : Pr := if p.rel = false then p else x.m.foldl akS (akC p x.f)
def akE (id : Int) (x : Pk) (W : Ws) : Int :=
  if chk x ≠ 0 ∨ x.k ≠ 3 ∨ x.w ≠ id ∨ W.la + 1 < x.f then 4 else if ∃ n ∈ x.m, W.la < n then 4 else if (W.get x.r).isSome then 0 else 6
def akW (id : Int) (x : Pk) (W : Ws) : Ws := if akE id x W = 0 then (match W.get x.r with | some p => setP W x.r (akP x p) | none => W) else W
theorem ak_len (m : List Int) (p : Pr) (f : Int) : ∀ k, ((m.take k).foldl akS (akC p f)).rq.length ≤ p.rq.length + m.length := by
  have h : ∀ (t : List Int) (a : Pr), (t.foldl akS a).rq.length ≤ a.rq.length + t.length := by
    intro t
    induction t with
    | nil => intro a; exact Nat.le_refl _
    | cons n t ih =>
      intro a
      refine Nat.le_trans (ih _) ?_
      unfold akS
      split
      · simp only [List.length_cons]; omega
      · split
        · simp only [List.length_cons, List.length_append, List.length_nil]; omega
        · simp only [List.length_cons]; omega
  intro k
  have := h (m.take k) (akC p f)
  have h2 : (m.take k).length ≤ m.length := by rw [List.length_take]; omega
  have h3 : (akC p f).rq = p.rq := rfl
  rw [h3] at this
  omega
abbrev wK (id per : Int) (q : Qos) (W : Ws) (cf : Nat → Nat) (wa : Bool) (m : List Int) (cm : Nat) : List Fam :=
  [.one (wrc 1 2 id per W.la q), .one .no, .one (peM 3 W.M W.ck), prs 6 W.D cf, .one .no, .one (ints wa m cm), rqs W.D cf]
theorem rH18oE1 {σ : List Sg} {H h' : List Fam} {v : T} {K : T → List Fam → Prop} {H' : List Fam} {v' : T} {N : Nat} (hk : K v' H') (hN : H.length = N := by (try simp only [↓List.length_cons, ↓List.length_nil, Nat.reduceAdd]) <;> rfl) (h : givesF σ N H σ h' = some H' := by (try simp (maxSteps := 1000000) only [givesF, setF, updF, Fam.zeroth, Fam.rk, Ck.rk, C.rk, E.rk, T.rk, key, List.map_cons, List.map_nil, List.cons_append, List.nil_append, List.length_cons, List.length_nil, Option.map_some, Option.bind_some, Nat.reduceAdd, Nat.zero_add, Nat.add_zero, Nat.add_sub_cancel_left, Int.toNat_natCast, reps, List.all_cons, List.all_nil, C.flat, List.append_eq, Bool.not_true, Bool.and_true, Bool.or_false, Bool.or_self, Bool.not_false, List.append_nil, Bool.and_self, ↓prC_rk, ↓rqO_rk, encP]) <;> rfl) (hv : v.rk σ N = v' := by (try simp only [givesF, setF, updF, Fam.zeroth, Fam.rk, Ck.rk, C.rk, E.rk, T.rk, key, List.map_cons, List.map_nil, List.cons_append, List.nil_append, List.length_cons, List.length_nil, Option.map_some, Option.bind_some, Nat.reduceAdd, Nat.zero_add, Nat.add_zero, Nat.add_sub_cancel_left, Int.toNat_natCast, reps, List.all_cons, List.all_nil, C.flat, List.append_eq, Bool.not_true, Bool.and_true, Bool.or_false, Bool.or_self, Bool.not_false, List.append_nil, Bool.and_self, ↓prC_rk, ↓rqO_rk, encP]) <;> rfl) : RetG σ H h' v K := ret_mk3 hN h hv hk
set_option maxRecDepth 10000 in
set_option maxHeartbeats 16000000 in
theorem cack (id per : Int) (q : Qos) (W : Ws) (cf : Nat → Nat) (x : Pk) (wa : Bool) (cm : Nat) (at' : Int) (hW : WOk W) (hla : 0 ≤ W.la ∧ W.la ≤ 1000000) (hp : x.p.length ≤ 1000000) (hm : x.m.length ≤ 1000000) (hrq : ∀ y p, W.D y = some p → p.rq.length ≤ 100000) :
    Ctr Try.prog 13 [.c (.p 0 0 0), .a (encP (.sl 5 0 1 0 x.m.length cm) x), .c (.i .i64 at')] [.one (wrc 1 2 id per W.la q), .one .no, .one (peM 3 W.M W.ck), prs 4 W.D cf, rqs W.D cf, .one (ints wa x.m cm)]
      fun v h => ∃ cf', v = .c (.i .i64 (akE id x W)) ∧ h = wK id per q (akW id x W) cf' wa x.m cm := by
  refine Ctr.mk' tbv mixed Try.func13 rfl rfl rfl (fun _ _ => by kernel_rfl) (by kernel_rfl) (by rfl) (by rfl) (by (repeat' first | refine And.intro ?_ ?_ | exact xeC | fail) <;> exact xmC) ?_
  repeat' (first | (fail_if_success (with_reducible refine xstp ?_)); first | (with_reducible intro hc; (try simp only [capsP, and_true] at hc); (try exact xfC)) | ((fail_if_success (with_reducible first | refine xgon ?_ | intro _)); (conv => whnf); (fail_if_success (fail_if_success (with_reducible first | refine xstp ?_ | refine xgon ?_ | intro _)))))
  refine cH18oE2 (σ := [.whole 5]) (nl := []) (cCheck x wa cm hp hm) ?_
  rintro v h' ⟨rfl, rfl⟩ hcaps
  refine rH18oE1 ?_
  repeat' (first | (fail_if_success (with_reducible refine xstp ?_)); first | ((with_reducible refine And.intro (fun (hb : _ = true) => ?_) (fun (hb : _ = false) => ?_)) <;> replace hb := xnC hb <;> (try first | exact xfC | exact bff hb (by assumption) | exact bff (by assumption) hb)) | ((with_reducible refine And.intro ?_ ?_); focus exact xoC) | ((fail_if_success (with_reducible first | refine xgon ?_ | intro _)); (conv => whnf); (fail_if_success (fail_if_success (with_reducible first | refine xstp ?_ | refine xgon ?_ | intro _)))))
  all_goals try (
    have e1 : akE id x W = 4 := by
      unfold akE
      rw [if_pos (by omega)]
    have e2 : akW id x W = W := by unfold akW; rw [e1]; rfl
    rw [e1, e2]
    refine FinK.mk ⟨[0, 1, 2, 3, 4, 5, 4], _, _, ⟨cf, rfl, rfl⟩, ?_⟩
    (repeat' first | refine And.intro ?_ ?_ | exact xeC | fail)
    all_goals (exact xmC)
    done)
  have hA : ¬ (chk x ≠ 0 ∨ x.k ≠ 3 ∨ x.w ≠ id ∨ W.la + 1 < x.f) := by omega
  refine LoopK.mk' {k : Nat // k ≤ x.m.length ∧ ∀ j, j < k → x.m.getD j default ≤ W.la}
    (fun ⟨k, _⟩ => ⟨[(0, .c (.p 0 0 0)), (4, .c (.p 6 0 0)), (42, .c (.sl 5 0 1 0 x.m.length cm)), (43, .c (.i .i64 x.m.length)), (44, .c (.i .i64 k))],
      [.one (wrc 1 2 id per W.la q), .one .no, .one (peM 3 W.M W.ck), prs 4 W.D cf, rqs W.D cf, .one (ints wa x.m cm), .one (.cells true (encP (.sl 5 0 1 0 x.m.length cm) x))]⟩)
    (fun k => x.m.length - k.1)
    ⟨⟨0, Nat.zero_le _, fun j h => absurd h (Nat.not_lt_zero j)⟩, [0, 1, 2, 3, 4, 5, 6], ?_⟩ ?_
  · (repeat' first | refine And.intro ?_ ?_ | exact xeC | fail)
    all_goals (exact xmC)
  rintro ⟨k, hk, hno⟩
  repeat' (first | (fail_if_success (with_reducible refine xstp ?_)); first | ((with_reducible refine And.intro (fun (hb : _ = true) => ?_) (fun (hb : _ = false) => ?_)) <;> replace hb := xnC hb <;> (try first | exact xfC | exact bff hb (by assumption) | exact bff (by assumption) hb)) | (with_reducible refine Both.mk ?_ ?_) | ((with_reducible refine And.intro ?_ ?_); focus exact xoC) | (with_reducible intro hc; (try simp only [capsP, and_true] at hc); (try exact xfC)) | ((fail_if_success (with_reducible first | refine xgon ?_ | intro _)); (conv => whnf); (fail_if_success (fail_if_success (with_reducible first | refine xstp ?_ | refine Both.mk ?_ ?_ | refine xgon ?_ | intro _)))))
  · have hlt : W.la < x.m.getD k default := by simpa [Go.X.encI] using hb
    have e1 : akE id x W = 4 := by
      unfold akE
      rw [if_neg hA, if_pos ⟨x.m.getD k default, by rw [getD_at (by omega)]; exact List.getElem_mem _, hlt⟩]
    have e2 : akW id x W = W := by unfold akW; rw [e1]; rfl
    rw [e1, e2]
    refine FinK.mk ⟨[0, 1, 2, 3, 4, 5, 4], _, _, ⟨cf, rfl, rfl⟩, ?_⟩
    (repeat' first | refine And.intro ?_ ?_ | exact xeC | fail)
    all_goals (exact xmC)
  · have hle : x.m.getD k default ≤ W.la := by simpa [Go.X.encI] using hb
    refine ⟨⟨k + 1, by omega, fun j hj => ?_⟩, [0, 1, 2, 3, 4, 5, 6], by simp only; omega, ?_⟩
    · rcases (by omega : j < k ∨ j = k) with h | rfl
      · exact hno j h
      · exact hle
    · (repeat' first | refine And.intro ?_ ?_ | exact xeC | fail)
      all_goals (exact xmC)
  all_goals (
    have hB : ¬ ∃ n ∈ x.m, W.la < n := fun ⟨n, hn, h⟩ => by
      obtain ⟨j, hj, rfl⟩ := List.mem_iff_getElem.1 hn
      have := hno j (by omega)
      rw [getD_at hj] at this
      omega)
  rotate_left 1
  · have hn := getP_no hW (w := x.r) fun i hi h => hc i hi (by rw [h])
    have e1 : akE id x W = 6 := by
      unfold akE
      rw [if_neg hA, if_neg hB, hn]
      rfl
    have e2 : akW id x W = W := by unfold akW; rw [e1]; rfl
    rw [e1, e2]
    refine FinK.mk ⟨[0, 1, 2, 3, 4, 5, 4], _, _, ⟨cf, rfl, rfl⟩, ?_⟩
    (repeat' first | refine And.intro ?_ ?_ | exact xeC | fail)
    all_goals (exact xmC)
  rename_i i hi
  have en : (W.M.getD i default).2 = x.r := Key.i.inj hc
  obtain ⟨p, hg, hp2, hr1⟩ := getP_yes hW hi en
  have e1 : akE id x W = 0 := by
    unfold akE
    rw [if_neg hA, if_neg hB, hg]
    rfl
  have e2 : akW id x W = setP W x.r (akP x p) := by unfold akW; rw [if_pos e1, hg]
  rw [en]
  refine ManyK.mk ⟨.cells true (encPr 4 x.r.toNat x.r.toNat p (cf x.r.toNat)), by simp only [hp2]; rfl, ?_⟩
  repeat' (first | (fail_if_success (with_reducible refine xstp ?_)); first | ((with_reducible refine And.intro (fun (hb : _ = true) => ?_) (fun (hb : _ = false) => ?_)) <;> replace hb := xnC hb <;> (try first | exact xfC | exact bff hb (by assumption) | exact bff (by assumption) hb)) | ((fail_if_success (with_reducible first | refine xgon ?_ | intro _)); (conv => whnf); (fail_if_success (fail_if_success (with_reducible first | refine xstp ?_ | refine xgon ?_ | intro _)))))
  · have hrel : p.rel = false := by assumption
    have e3 : akP x p = p := if_pos hrel
    rw [e1, e2, e3, setP_self hp2]
    refine FinK.mk ⟨[0, 1, 2, 3, 4, 5, 4], _, _, ⟨cf, rfl, rfl⟩, ?_⟩
    (repeat' first | refine And.intro ?_ ?_ | exact xeC | fail)
    all_goals (exact xmC)
  have hf := chk_f (x := x) (by omega) (by omega)
  refine ManyK.mk ⟨.cells true (encPr 4 x.r.toNat x.r.toNat p (cf x.r.toNat)), by simp only [hp2]; rfl, ?_⟩
  repeat' (first | (fail_if_success (with_reducible refine xstp ?_)); first | ((with_reducible refine And.intro ?_ ?_); focus exact xoC) | ((fail_if_success (with_reducible first | refine xgon ?_ | intro _)); (conv => whnf); (fail_if_success (fail_if_success (with_reducible first | refine xstp ?_ | refine xgon ?_ | intro _)))))
  refine ManyK.mk ⟨.cells true (encPr 4 x.r.toNat x.r.toNat p (cf x.r.toNat)), by simp only [hp2]; rfl, ?_⟩
  repeat' (first | (fail_if_success (with_reducible refine xstp ?_)); first | ((fail_if_success (with_reducible first | refine xgon ?_ | intro _)); (conv => whnf); (fail_if_success (fail_if_success (with_reducible first | refine xstp ?_ | refine xgon ?_ | intro _)))))
  have hP0 : akP x p = x.m.foldl akS (akC p x.f) := if_neg (by simp [*])
  refine LoopK.mk' ({k : Nat // k ≤ x.m.length} × (Nat → Nat))
    (fun ⟨⟨k, _⟩, cf1⟩ => ⟨[(9, .c (.p 3 x.r.toNat 0)), (81, .c (.sl 5 0 1 0 x.m.length cm)), (82, .c (.i .i64 x.m.length)), (83, .c (.i .i64 k))],
      [.one (wrc 1 2 id per W.la q), .one .no, .one (peM 3 W.M W.ck), prs 7 (setP W x.r ((x.m.take k).foldl akS (akC p x.f))).D cf1, .one .no, .one (ints wa x.m cm), .one (.cells true (encP (.sl 5 0 1 0 x.m.length cm) x)), rqs (setP W x.r ((x.m.take k).foldl akS (akC p x.f))).D cf1]⟩)
    (fun k => x.m.length - k.1.1)
    ⟨⟨⟨0, Nat.zero_le _⟩, cf⟩, [0, 1, 2, 3, 4, 5, 6, 4], ?_⟩ ?_
  · (repeat' first | refine And.intro ?_ ?_ | exact xeC | fail)
    all_goals first
      | (exact xmC)
      | exact fun y => prs_set (fun x _ => rfl) (fun y hy => if_neg hy) (fun y hy => rfl) (prC_cells (if_pos rfl) rfl) y
      | exact fun y => rqs_same (p' := akC p x.f) hp2 (if_pos rfl) rfl (fun y hy => if_neg hy) y
  rintro ⟨⟨k, hk⟩, cf1⟩
  have hp3 : (setP W x.r ((x.m.take k).foldl akS (akC p x.f))).D x.r.toNat = some ((x.m.take k).foldl akS (akC p x.f)) := if_pos rfl
  repeat' (first | (fail_if_success (with_reducible refine xstp ?_)); first | ((with_reducible refine And.intro (fun (hb : _ = true) => ?_) (fun (hb : _ = false) => ?_)) <;> replace hb := xnC hb <;> (try first | exact xfC | exact bff hb (by assumption) | exact bff (by assumption) hb)) | ((with_reducible refine And.intro ?_ ?_); focus exact xoC) | (with_reducible intro hc; (try simp only [capsP, and_true] at hc); (try exact xfC)) | ((fail_if_success (with_reducible first | refine xgon ?_ | intro _)); (conv => whnf); (fail_if_success (fail_if_success (with_reducible first | refine xstp ?_ | refine xgon ?_ | intro _)))))
  rotate_left 1
  · have ek : x.m.take k = x.m := List.take_of_length_le (by omega)
    rw [e1, e2, hP0]
    rw [ek]
    refine FinK.mk ⟨[0, 1, 2, 3, 4, 5, 7], _, _, ⟨cf1, rfl, rfl⟩, ?_⟩
    (repeat' first | refine And.intro ?_ ?_ | exact xeC | fail)
    all_goals (exact xmC)
  have hsk : (x.m.take (k + 1)).foldl akS (akC p x.f) = akS ((x.m.take k).foldl akS (akC p x.f)) (x.m.getD k default) := by
    rw [← List.take_append_getElem (show k < x.m.length by omega), List.foldl_append, getD_at (show k < x.m.length by omega)]
    rfl
  have hPl := ak_len x.m p x.f k
  generalize (x.m.take k).foldl akS (akC p x.f) = P at *
  refine ManyK.mk ⟨.cells true (encPr 7 x.r.toNat x.r.toNat P (cf1 x.r.toNat)), by simp only [hp3]; rfl, ?_⟩
  repeat' (first | (fail_if_success (with_reducible refine xstp ?_)); first | ((with_reducible refine And.intro (fun (hb : _ = true) => ?_) (fun (hb : _ = false) => ?_)) <;> replace hb := xnC hb <;> (try first | exact xfC | exact bff hb (by assumption) | exact bff (by assumption) hb)) | ((fail_if_success (with_reducible first | refine xgon ?_ | intro _)); (conv => whnf); (fail_if_success (fail_if_success (with_reducible first | refine xstp ?_ | refine xgon ?_ | intro _)))))
  · have e3 : akS P (x.m.getD k default) = ⟨P.nd, P.rel, P.st, P.ac, P.se, P.rq, true, P.bt⟩ := if_pos (by assumption)
    rw [e3] at hsk
    refine ManyK.mk ⟨.cells true (encPr 7 x.r.toNat x.r.toNat P (cf1 x.r.toNat)), by simp only [hp3]; rfl, ?_⟩
    repeat' (first | (fail_if_success (with_reducible refine xstp ?_)); first | ((with_reducible refine And.intro ?_ ?_); focus exact xoC) | ((fail_if_success (with_reducible first | refine xgon ?_ | intro _)); (conv => whnf); (fail_if_success (fail_if_success (with_reducible first | refine xstp ?_ | refine xgon ?_ | intro _)))))
    refine ⟨⟨⟨k + 1, by omega⟩, cf1⟩, [0, 1, 2, 3, 4, 5, 6, 7], by simp only; omega, ?_⟩
    simp only [hsk]
    (repeat' first | refine And.intro ?_ ?_ | exact xeC | fail)
    all_goals first
      | (exact xmC)
      | exact fun y => prs_set (fun x _ => rfl) (fun y hy => (if_neg hy).trans (if_neg hy).symm) (fun y hy => rfl) (prC_cells2 (if_pos rfl) (by simp [eqL, C.eqK, sameK, ifB, kNat, encPr, key])) y
      | exact fun y => rqs_same (p' := ⟨P.nd, P.rel, P.st, P.ac, P.se, P.rq, true, P.bt⟩) hp3 (if_pos rfl) rfl (fun y hy => (if_neg hy).trans (if_neg hy).symm) y
      | skip
    all_goals trace_state
  refine ManyK.mk ⟨.cells true (encPr 7 x.r.toNat x.r.toNat P (cf1 x.r.toNat)), by simp only [hp3]; rfl, ?_⟩
  repeat' (first | (fail_if_success (with_reducible refine xstp ?_)); first | ((with_reducible refine And.intro (fun (hb : _ = true) => ?_) (fun (hb : _ = false) => ?_)) <;> replace hb := xnC hb <;> (try first | exact xfC | exact bff hb (by assumption) | exact bff (by assumption) hb)) | ((with_reducible refine And.intro ?_ ?_); focus exact xoC) | ((fail_if_success (with_reducible first | refine xgon ?_ | intro _)); (conv => whnf); (fail_if_success (fail_if_success (with_reducible first | refine xstp ?_ | refine xgon ?_ | intro _)))))
  rotate_left 1
  · have e3 : akS P (x.m.getD k default) = P := by unfold akS; rw [if_neg (by omega), if_neg (fun h => by have := h.1; omega)]
    rw [e3] at hsk
    refine ⟨⟨⟨k + 1, by omega⟩, cf1⟩, [0, 1, 2, 3, 4, 5, 6, 7], by simp only; omega, ?_⟩
    simp only [hsk]
    (repeat' first | refine And.intro ?_ ?_ | exact xeC | fail)
    all_goals (exact xmC)
  refine ManyK.mk ⟨.cells true (encPr 7 x.r.toNat x.r.toNat P (cf1 x.r.toNat)), by simp only [hp3]; rfl, ?_⟩
  repeat' (first | (fail_if_success (with_reducible refine xstp ?_)); first | ((fail_if_success (with_reducible first | refine xgon ?_ | intro _)); (conv => whnf); (fail_if_success (fail_if_success (with_reducible first | refine xstp ?_ | refine xgon ?_ | intro _)))))
  have hpl := hrq _ _ hp2
  have hm32 := chk_m (x := x) (by omega)
  have hrow : rqO ((setP W x.r P).D x.r.toNat) (cf1 x.r.toNat) = ints true P.rq (cf1 x.r.toNat) := by rw [hp3]; rfl
  refine cH18oE2 (σ := [.mem 7 (x.r.toNat)]) (nl := []) (ccontains true P.rq (cf1 x.r.toNat) (x.m.getD k default) (by omega)) ?_ (hle := by (repeat' first | refine And.intro ?_ ?_ | exact xeC | fail) <;> (refine ManyK.mk ⟨_, hrow, ?_⟩ <;> (repeat' first | refine And.intro ?_ ?_ | exact xeC | fail)))
  rintro v h' ⟨rfl, rfl⟩ hcaps
  refine rH18oE1 ?_
  have hback : (fun y => if y = x.r.toNat then Ck.row true false 3 1 P.rq.length (cf1 x.r.toNat) (Go.X.rowOf Go.X.encI P.rq) else if y = x.r.toNat then Ck.row true false 3 1 P.rq.length (cf1 x.r.toNat) (Go.X.rowOf Go.X.encI P.rq) else rqO ((setP W x.r P).D y) (cf1 y)) = fun y => rqO ((setP W x.r P).D y) (cf1 y) := by
    funext y
    by_cases h : y = x.r.toNat
    · rw [if_pos h, h]; exact hrow.symm
    · rw [if_neg h, if_neg h]
  rw [hback]
  repeat' (first | (fail_if_success (with_reducible refine xstp ?_)); first | ((with_reducible refine And.intro (fun (hb : _ = true) => ?_) (fun (hb : _ = false) => ?_)) <;> replace hb := xnC hb <;> (try first | exact xfC | exact bff hb (by assumption) | exact bff (by assumption) hb)) | ((with_reducible refine And.intro ?_ ?_); focus exact xoC) | ((fail_if_success (with_reducible first | refine xgon ?_ | intro _)); (conv => whnf); (fail_if_success (fail_if_success (with_reducible first | refine xstp ?_ | refine xgon ?_ | intro _)))))
  rotate_left 1
  · have e3 : akS P (x.m.getD k default) = P := by unfold akS; rw [if_neg (by omega), if_neg (fun h => h.2 (by assumption))]
    rw [e3] at hsk
    refine ⟨⟨⟨k + 1, by omega⟩, cf1⟩, [0, 1, 2, 3, 4, 5, 6, 7], by simp only; omega, ?_⟩
    simp only [hsk]
    (repeat' first | refine And.intro ?_ ?_ | exact xeC | fail)
    all_goals first
      | (exact xmC)
      | skip
    all_goals trace_state
  have e3 : akS P (x.m.getD k default) = ⟨P.nd, P.rel, P.st, P.ac, P.se, P.rq ++ [x.m.getD k default], P.bg, P.bt⟩ := by unfold akS; rw [if_neg (by omega), if_pos ⟨by assumption, by assumption⟩]
  rw [e3] at hsk
  refine ManyK.mk ⟨.cells true (encPr 7 x.r.toNat x.r.toNat P (cf1 x.r.toNat)), by simp only [hp3]; rfl, ?_⟩
  repeat' (first | (fail_if_success (with_reducible refine xstp ?_)); first | ((with_reducible refine And.intro ?_ ?_); focus exact xoC) | ((fail_if_success (with_reducible first | refine xgon ?_ | intro _)); (conv => whnf); (fail_if_success (fail_if_success (with_reducible first | refine xstp ?_ | refine xgon ?_ | intro _)))))
  refine ManyK.mk ⟨ints true P.rq (cf1 x.r.toNat), hrow, ?_⟩
  repeat' (first | (fail_if_success (with_reducible refine xstp ?_)); first | ((with_reducible refine And.intro ?_ ?_); focus exact xoC) | ((with_reducible refine Or.inl ⟨?_, ?_, ?_⟩); (focus rfl); focus exact xaC) | (with_reducible intro hc; (try simp only [capsP, and_true] at hc); (try exact xfC)) | ((fail_if_success (with_reducible first | refine xgon ?_ | intro _)); (conv => whnf); (fail_if_success (fail_if_success (with_reducible first | refine xstp ?_ | refine xgon ?_ | intro _)))))
  rename_i c3
  refine ManyK.mk ⟨.cells true (encPr 7 x.r.toNat x.r.toNat P (cf1 x.r.toNat)), by simp only [hp3]; rfl, ?_⟩
  repeat' (first | (fail_if_success (with_reducible refine xstp ?_)); first | ((with_reducible refine And.intro ?_ ?_); focus exact xoC) | ((fail_if_success (with_reducible first | refine xgon ?_ | intro _)); (conv => whnf); (fail_if_success (fail_if_success (with_reducible first | refine xstp ?_ | refine xgon ?_ | intro _)))))
  have hl1 : (P.rq ++ [x.m.getD k default]).length = P.rq.length + 1 := by rw [List.length_append]; rfl
  have hki : ∀ y N, key [0, 1, 2, 3, 4, 5, 6, .adopt 7 x.r.toNat 9] N 7 y = (if y = x.r.toNat then 9 else 7, if y = x.r.toNat then 0 else y) := fun y N => rfl
  refine ⟨⟨⟨k + 1, by omega⟩, updC cf1 x.r c3⟩, [0, 1, 2, 3, 4, 5, 6, .adopt 7 x.r.toNat 9], by simp only; omega, ?_⟩
  simp only [hsk]
  (repeat' first | refine And.intro ?_ ?_ | exact xeC | fail)
  all_goals first
    | (exact xmC)
    | exact fun y => prs_set (fun y hy => by rw [hki, if_neg hy, if_neg hy]) (fun y hy => (if_neg hy).trans (if_neg hy).symm) (fun y hy => if_neg hy) (prC_cells (if_pos rfl) (by rw [hki, if_pos rfl, if_pos rfl, if_pos rfl]; unfold encPr; simp only [hl1])) y
    | (intro y hy
       show Ck.leK _ _ (Ck.rk _ _ (rqO (if y = x.r.toNat then _ else _) (if y = x.r.toNat then _ else _))) True
       rw [if_neg hy, if_neg hy]
       first
         | exact rqO_le
         | (show Ck.leK _ (if y = x.r.toNat then _ else _) _ True
            rw [if_neg hy]
            show Ck.leK _ (rqO (if y = x.r.toNat then _ else _) _) _ True
            rw [if_neg hy]
            exact rqO_le))
    | skip
  refine leK_cong (q'' := ints true (P.rq ++ [x.m.getD k default]) c3) ?_ ?_
  · show Ck.rk _ _ (rqO (if x.r.toNat = x.r.toNat then _ else _) (if x.r.toNat = x.r.toNat then _ else _)) = _
    rw [if_pos rfl, if_pos rfl]
    rfl
  (repeat' first | refine And.intro ?_ ?_ | exact xeC | fail)
  all_goals first
    | (exact xmC)
    | exact Nat.le_of_eq hl1
    | (intro i hi; exact app_rowG Go.X.encI P.rq (x.m.getD k default) _ (by rw [show 0 + ((k : Nat) : Int).toNat = k by omega]; rfl) i hi)
    | exact fun x => rqO_bel
    | exact fun x => prC_bel rfl
    | skip
  all_goals trace_state
end Go.Proofs.Ytofcadbfjbefkaa


namespace Go.Proofs.Ytofcadbfjbefkaa
open Go.X
set_option linter.unusedSimpArgs false
set_option linter.unusedVariables false
abbrev pkR (w : Bool) (l : List Pk) (c : Nat) : Ck := .row w false 40 11 l.length c (Go.X.rowOf (encP .nils) l)
/-- A gap; a sample; a heartbeat. -/
def gapK (id : Int) (X : Nat) (p : Pr) (lost first last at' : Int) : Pk := ⟨4, 0, p.nd, id, X, lost, first, last, at', [], []⟩
def datK (id : Int) (X : Nat) (p : Pr) (sq : Int) (s : Smp) : Pk := ⟨1, 0, p.nd, id, X, sq, 0, 0, s.t, [], s.p.data.toList⟩
def dat (id : Int) (l : List Smp) (X : Nat) (p : Pr) (at' : Int) (sq : Int) : Pk := if (getS l id sq).2 = true then datK id X p sq (getS l id sq).1 else gapK id X p 1 sq sq at'
def hbK (id : Int) (X : Nat) (p : Pr) (la at' : Int) : Pk := ⟨2, 0, p.nd, id, X, 0, p.st, la, at', [], []⟩
set_option maxRecDepth 10000 in
set_option maxHeartbeats 4000000 in
theorem cgap (id per la : Int) (q : Qos) (X : Nat) (p : Pr) (cq : Nat) (lost first last at' : Int) :
    Ctr Try.prog 42 [.c (.p 0 0 0), .c (.p 1 0 0), .c (.i .i64 lost), .c (.i .i64 first), .c (.i .i64 last), .c (.i .i64 at')] [.one (wrc 2 3 id per la q), .one (.cells true (encPr 4 0 X p cq)), .one .no, .one .no, .one .no]
      fun v h => v = .a (encP .nils (gapK id X p lost first last at')) ∧ h = [.one (wrc 2 3 id per la q), .one (.cells true (encPr 4 0 X p cq)), .one .no, .one .no, .one .no] := by
  refine Ctr.mk' tbv mixed Try.func42 rfl rfl rfl (fun _ _ => by kernel_rfl) (by kernel_rfl) (by rfl) (by rfl) (by (repeat' first | refine And.intro ?_ ?_ | exact xeC | fail)) ?_
  repeat' (first | (fail_if_success (with_reducible refine xstp ?_)); first | (with_reducible intro hc; (try simp only [capsP, and_true] at hc); (try exact xfC)) | ((fail_if_success (with_reducible first | refine xgon ?_ | intro _)); (conv => whnf); (fail_if_success (fail_if_success (with_reducible first | refine xstp ?_ | refine xgon ?_ | intro _)))))
  refine FinK.mk ⟨[0, 1, 2, 3, 4], _, _, ⟨rfl, rfl⟩, ?_⟩; (repeat' first | refine And.intro ?_ ?_ | exact xeC | fail)
theorem rH18oF0 {σ : List Sg} {H h' : List Fam} {v : T} {K : T → List Fam → Prop} {H' : List Fam} {v' : T} {N : Nat} (hk : K v' H') (hN : H.length = N := by (try simp only [↓List.length_cons, ↓List.length_nil, Nat.reduceAdd]) <;> rfl) (h : givesF σ N H σ h' = some H' := by (try simp (maxSteps := 1000000) only [givesF, setF, updF, Fam.zeroth, Fam.rk, Ck.rk, C.rk, E.rk, T.rk, key, List.map_cons, List.map_nil, List.cons_append, List.nil_append, List.length_cons, List.length_nil, Option.map_some, Option.bind_some, Nat.reduceAdd, Nat.zero_add, Nat.add_zero, Nat.add_sub_cancel_left, Int.toNat_natCast, reps, List.all_cons, List.all_nil, C.flat, List.append_eq, Bool.not_true, Bool.and_true, Bool.or_false, Bool.or_self, Bool.not_false, List.append_nil, Bool.and_self, ↓prC_rk, ↓rqO_rk, encS]) <;> rfl) (hv : v.rk σ N = v' := by (try simp only [givesF, setF, updF, Fam.zeroth, Fam.rk, Ck.rk, C.rk, E.rk, T.rk, key, List.map_cons, List.map_nil, List.cons_append, List.nil_append, List.length_cons, List.length_nil, Option.map_some, Option.bind_some, Nat.reduceAdd, Nat.zero_add, Nat.add_zero, Nat.add_sub_cancel_left, Int.toNat_natCast, reps, List.all_cons, List.all_nil, C.flat, List.append_eq, Bool.not_true, Bool.and_true, Bool.or_false, Bool.or_self, Bool.not_false, List.append_nil, Bool.and_self, ↓prC_rk, ↓rqO_rk, encS]) <;> rfl) : RetG σ H h' v K := ret_mk3 hN h hv hk
theorem rH18oF1 {σ : List Sg} {H h' : List Fam} {v : T} {K : T → List Fam → Prop} {H' : List Fam} {v' : T} {N : Nat} (hk : K v' H') (hN : H.length = N := by (try simp only [↓List.length_cons, ↓List.length_nil, Nat.reduceAdd]) <;> rfl) (h : givesF σ N H σ h' = some H' := by (try simp (maxSteps := 1000000) only [givesF, setF, updF, Fam.zeroth, Fam.rk, Ck.rk, C.rk, E.rk, T.rk, key, List.map_cons, List.map_nil, List.cons_append, List.nil_append, List.length_cons, List.length_nil, Option.map_some, Option.bind_some, Nat.reduceAdd, Nat.zero_add, Nat.add_zero, Nat.add_sub_cancel_left, Int.toNat_natCast, reps, List.all_cons, List.all_nil, C.flat, List.append_eq, Bool.not_true, Bool.and_true, Bool.or_false, Bool.or_self, Bool.not_false, List.append_nil, Bool.and_self, ↓prC_rk, ↓rqO_rk, encPr, encP]) <;> rfl) (hv : v.rk σ N = v' := by (try simp only [givesF, setF, updF, Fam.zeroth, Fam.rk, Ck.rk, C.rk, E.rk, T.rk, key, List.map_cons, List.map_nil, List.cons_append, List.nil_append, List.length_cons, List.length_nil, Option.map_some, Option.bind_some, Nat.reduceAdd, Nat.zero_add, Nat.add_zero, Nat.add_sub_cancel_left, Int.toNat_natCast, reps, List.all_cons, List.all_nil, C.flat, List.append_eq, Bool.not_true, Bool.and_true, Bool.or_false, Bool.or_self, Bool.not_false, List.append_nil, Bool.and_self, ↓prC_rk, ↓rqO_rk, encPr, encP]) <;> rfl) : RetG σ H h' v K := ret_mk3 hN h hv hk
theorem cH18oF2 {P : Program} {F : Nat} {args : List T} {H : List Fam} {K : T → List Fam → Prop} {σ : List Sg} {nl : List Fam} {args0 : List T} {h0 : List Fam} {Q : T → List Fam → Prop} {H2 H1 : List Fam} {N n : Nat} (hc : Ctr P F args0 h0 Q) (hk : ∀ v h', Q v h' → capsP h' → RetG σ H2 h' v K) (hap : apart σ = true := by rfl) (hnl : nl.all nilB = true := by rfl) (h1 : H ++ nl = H1 := by first | exact List.append_nil _ | ((try simp only [List.cons_append, List.nil_append]) <;> rfl)) (hN : H1.length = N := by (try simp only [↓List.length_cons, ↓List.length_nil, Nat.reduceAdd]) <;> rfl) (hn : H.length = n := by (try simp only [↓List.length_cons, ↓List.length_nil, Nat.reduceAdd]) <;> rfl) (hH : givesF σ N H1 σ h0 = some H2 := by (try simp (maxSteps := 1000000) only [givesF, setF, updF, Fam.zeroth, Fam.rk, Ck.rk, C.rk, E.rk, T.rk, key, List.map_cons, List.map_nil, List.cons_append, List.nil_append, List.length_cons, List.length_nil, Option.map_some, Option.bind_some, Nat.reduceAdd, Nat.zero_add, Nat.add_zero, Nat.add_sub_cancel_left, Int.toNat_natCast, reps, List.all_cons, List.all_nil, C.flat, List.append_eq, Bool.not_true, Bool.and_true, Bool.or_false, Bool.or_self, Bool.not_false, List.append_nil, Bool.and_self, ↓prC_rk, ↓rqO_rk]) <;> rfl) (hle : leS n H1 σ N σ h0 (belsK N (h0.map (Fam.rk σ N)) (argsK n args (args0.map (T.rk σ N)) True)) := by repeat' first | refine And.intro ?_ ?_ | exact xeC | fail) : CallK P F args H K := CallK.mk3 hc hap hnl h1 hN hn hH hle hk
set_option maxRecDepth 10000 in
set_option maxHeartbeats 4000000 in
theorem cdata (id per la : Int) (q : Qos) (l : List Smp) (c X : Nat) (p : Pr) (cq : Nat) (sq at' : Int) (hl : l.length ≤ 1000000) :
    Ctr Try.prog 44 [.c (.p 0 0 0), .c (.p 4 0 0), .c (.i .i64 sq), .c (.i .i64 at')] [.one (wrc 1 2 id per la q), .one (hist 3 q l.length c), .one .no, .one (smps true l c), .one (.cells true (encPr 5 0 X p cq)), .one .no]
      fun v h => v = .a (encP .nils (dat id l X p at' sq)) ∧ h = [.one (wrc 1 2 id per la q), .one (hist 3 q l.length c), .one .no, .one (smps true l c), .one (.cells true (encPr 5 0 X p cq)), .one .no] := by
  refine Ctr.mk' tbv mixed Try.func44 rfl rfl rfl (fun _ _ => by kernel_rfl) (by kernel_rfl) (by rfl) (by rfl) (by (repeat' first | refine And.intro ?_ ?_ | exact xeC | fail)) ?_
  repeat' (first | (fail_if_success (with_reducible refine xstp ?_)); first | (with_reducible refine Both.mk ?_ ?_) | ((with_reducible refine And.intro ?_ ?_); focus exact xoC) | (with_reducible intro hc; (try simp only [capsP, and_true] at hc); (try exact xfC)) | ((fail_if_success (with_reducible first | refine xgon ?_ | intro _)); (conv => whnf); (fail_if_success (fail_if_success (with_reducible first | refine xstp ?_ | refine Both.mk ?_ ?_ | refine xgon ?_ | intro _)))))
  all_goals (
    refine cH18oF2 (σ := [.whole 1, .whole 3]) (nl := []) (iget q l c id sq hl) ?_
    rintro v h' ⟨rfl, rfl⟩ hcaps
    refine rH18oF0 ?_
    repeat' (first | (fail_if_success (with_reducible refine xstp ?_)); first | ((with_reducible refine And.intro (fun (hb : _ = true) => ?_) (fun (hb : _ = false) => ?_)) <;> replace hb := xnC hb <;> (try first | exact xfC | exact bff hb (by assumption) | exact bff (by assumption) hb)) | ((fail_if_success (with_reducible first | refine xgon ?_ | intro _)); (conv => whnf); (fail_if_success (fail_if_success (with_reducible first | refine xstp ?_ | refine xgon ?_ | intro _)))))
    · have e : dat id l X p at' sq = datK id X p sq (getS l id sq).1 := if_pos (by assumption)
      rw [e]
      refine FinK.mk ⟨[0, 1, 2, 3, 4, 5], _, _, ⟨rfl, rfl⟩, ?_⟩; (repeat' first | refine And.intro ?_ ?_ | exact xeC | fail)
    · have e : dat id l X p at' sq = gapK id X p 1 sq sq at' := if_neg (by simp [*])
      refine cH18oF2 (σ := [.whole 0, .whole 4, .name 1, .name 2, .name 5]) (nl := []) (cgap id per la q X p cq 1 sq sq at') ?_
      rintro v h' ⟨rfl, rfl⟩ hcaps
      refine rH18oF1 ?_
      repeat' (first | (fail_if_success (with_reducible refine xstp ?_)); first | ((fail_if_success (with_reducible first | refine xgon ?_ | intro _)); (conv => whnf); (fail_if_success (fail_if_success (with_reducible first | refine xstp ?_ | refine xgon ?_ | intro _)))))
      rw [e]
      refine FinK.mk ⟨[0, 1, 2, 3, 4, 5], _, _, ⟨rfl, rfl⟩, ?_⟩; (repeat' first | refine And.intro ?_ ?_ | exact xeC | fail))
end Go.Proofs.Ytofcadbfjbefkaa


namespace Go.Proofs.Ytofcadbfjbefkaa
open Go.X
set_option linter.unusedSimpArgs false
set_option linter.unusedVariables false
/-! What a poll sends to a reader. -/
def polB (id : Int) (X : Nat) (p : Pr) (at' : Int) : List Pk := if p.bg = true then [gapK id X p 0 1 (p.st - 1) at'] else []
def polR (id : Int) (l : List Smp) (X : Nat) (p : Pr) (at' : Int) (k : Nat) : List Pk := ((srtI p.rq).take k).map (dat id l X p at')
def polN1 (id : Int) (l : List Smp) (X : Nat) (p : Pr) (at' : Int) (n : Int) : List Pk := if p.rel = true ∨ (dat id l X p at' n).k = 1 then [dat id l X p at' n] else []
def polN (id : Int) (l : List Smp) (X : Nat) (p : Pr) (at' : Int) (k : Nat) : List Pk := (List.range k).flatMap fun (i : Nat) => polN1 id l X p at' (p.se + 1 + (i : Int))
def beats (p : Pr) (la at' : Int) : Prop := p.rel = true ∧ p.ac < la ∧ p.bt ≤ at'
instance (p : Pr) (la at' : Int) : Decidable (beats p la at') := by unfold beats; infer_instance
def polH (id : Int) (X : Nat) (p : Pr) (la at' : Int) : List Pk := if beats p la at' then [hbK id X p la at'] else []
def polL (id : Int) (l : List Smp) (X : Nat) (p : Pr) (la at' : Int) : List Pk := polB id X p at' ++ polR id l X p at' p.rq.length ++ polN id l X p at' (la - p.se).toNat ++ polH id X p la at'
def polP (per : Int) (p : Pr) (la at' : Int) : Pr := ⟨p.nd, p.rel, p.st, p.ac, la, [], false, if beats p la at' then at' + per else p.bt⟩
/-- A peer in the midst of a poll. -/
def pS (p : Pr) : Pr := ⟨p.nd, p.rel, p.st, p.ac, p.se, srtI p.rq, false, p.bt⟩
def pE (p : Pr) : Pr := ⟨p.nd, p.rel, p.st, p.ac, p.se, [], false, p.bt⟩
/-- What holds of a peer's numbers. -/
structure PrOk (la : Int) (p : Pr) : Prop where
  st : 1 ≤ p.st ∧ p.st ≤ la + 1
  ac : 0 ≤ p.ac ∧ p.ac ≤ 1099511627777
  se : 0 ≤ p.se ∧ p.se ≤ la
  rq : p.rq.length ≤ 100000
theorem polN_succ (id : Int) (l : List Smp) (X : Nat) (p : Pr) (at' : Int) (k : Nat) : polN id l X p at' (k + 1) = polN id l X p at' k ++ polN1 id l X p at' (p.se + 1 + (k : Int)) := by
  unfold polN
  rw [List.range_succ, List.flatMap_append, List.flatMap_cons, List.flatMap_nil, List.append_nil]
theorem polN1_le (id : Int) (l : List Smp) (X : Nat) (p : Pr) (at' : Int) (n : Int) : (polN1 id l X p at' n).length ≤ 1 := by
  unfold polN1; split <;> simp
theorem polN_le (id : Int) (l : List Smp) (X : Nat) (p : Pr) (at' : Int) : ∀ k, (polN id l X p at' k).length ≤ k
  | 0 => Nat.le_refl _
  | k + 1 => by
    rw [polN_succ, List.length_append]
    have := polN_le id l X p at' k
    have := polN1_le id l X p at' (p.se + 1 + (k : Int))
    omega
theorem polB_le (id : Int) (X : Nat) (p : Pr) (at' : Int) : (polB id X p at').length ≤ 1 := by unfold polB; split <;> simp
theorem srt_len (l : List Int) : (srtI l).length = l.length := List.length_mergeSort l
theorem polR_le (id : Int) (l : List Smp) (X : Nat) (p : Pr) (at' : Int) (k : Nat) : (polR id l X p at' k).length ≤ k := by
  unfold polR; rw [List.length_map, List.length_take]; omega
theorem polR_succ (id : Int) (l : List Smp) (X : Nat) (p : Pr) (at' : Int) {k : Nat} (hk : k < p.rq.length) : polR id l X p at' (k + 1) = polR id l X p at' k ++ [dat id l X p at' ((srtI p.rq).getD k default)] := by
  unfold polR
  have hk' : k < (srtI p.rq).length := by rw [srt_len]; exact hk
  rw [← List.take_append_getElem hk', List.map_append, getD_at hk']
  rfl
theorem cH18oG0 {P : Program} {F : Nat} {args : List T} {H : List Fam} {K : T → List Fam → Prop} {σ : List Sg} {nl : List Fam} {args0 : List T} {h0 : List Fam} {Q : T → List Fam → Prop} {H2 H1 : List Fam} {N n : Nat} (hc : Ctr P F args0 h0 Q) (hk : ∀ v h', Q v h' → capsP h' → RetG σ H2 h' v K) (hap : apart σ = true := by rfl) (hnl : nl.all nilB = true := by rfl) (h1 : H ++ nl = H1 := by first | exact List.append_nil _ | ((try simp only [List.cons_append, List.nil_append]) <;> rfl)) (hN : H1.length = N := by (try simp only [↓List.length_cons, ↓List.length_nil, Nat.reduceAdd]) <;> rfl) (hn : H.length = n := by (try simp only [↓List.length_cons, ↓List.length_nil, Nat.reduceAdd]) <;> rfl) (hH : givesF σ N H1 σ h0 = some H2 := by (try simp (maxSteps := 1000000) only [givesF, setF, updF, Fam.zeroth, Fam.rk, Ck.rk, C.rk, E.rk, T.rk, key, List.map_cons, List.map_nil, List.cons_append, List.nil_append, List.length_cons, List.length_nil, Option.map_some, Option.bind_some, Nat.reduceAdd, Nat.zero_add, Nat.add_zero, Nat.add_sub_cancel_left, Int.toNat_natCast, reps, List.all_cons, List.all_nil, C.flat, List.append_eq, Bool.not_true, Bool.and_true, Bool.or_false, Bool.or_self, Bool.not_false, List.append_nil, Bool.and_self, ↓prC_rk, ↓rqO_rk]) <;> rfl) (hle : leS n H1 σ N σ h0 (belsK N (h0.map (Fam.rk σ N)) (argsK n args (args0.map (T.rk σ N)) True)) := by repeat' first | refine And.intro ?_ ?_ | exact xeC | fail) : CallK P F args H K := CallK.mk3 hc hap hnl h1 hN hn hH hle hk
set_option maxRecDepth 10000 in
set_option maxHeartbeats 16000000 in
theorem cpoll1 (id per la : Int) (q : Qos) (l : List Smp) (c X : Nat) (p : Pr) (cq : Nat) (at' : Int) (hl : l.length ≤ 1000000) (hla : 0 ≤ la ∧ la ≤ 1000000) (hp : PrOk la p) (hat : 0 ≤ at' ∧ at' ≤ 1099511627776) (hper : 1 ≤ per ∧ per ≤ 1099511627776) :
    Ctr Try.prog 27 [.c (.p 0 0 0), .c (.p 4 0 0), .c (.i .i64 at')] [.one (wrc 1 2 id per la q), .one (hist 3 q l.length c), .one .no, .one (smps true l c), .one (.cells true (encPr 5 0 X p cq)), .one (ints true p.rq cq)]
      fun v h => ∃ co, v = .c (.sl 6 0 11 0 (polL id l X p la at').length co) ∧ h = [.one (wrc 1 2 id per la q), .one (hist 3 q l.length c), .one .no, .one (smps true l c), .one (.cells true (encPr 7 0 X (polP per p la at') 0)), .one .no, .one (pkR true (polL id l X p la at') co), .one (ints true [] 0)] := by
  have hst := hp.st
  have hse2 : 0 ≤ (pS p).se ∧ (pS p).se ≤ la := hp.se
  have hse3 : 0 ≤ (pE p).se ∧ (pE p).se ≤ la := hp.se
  have hac := hp.ac
  have hse := hp.se
  have hrq := hp.rq
  have hBl := polB_le id X p at'
  have hsl := srt_len p.rq
  refine Ctr.mk' tbv mixed Try.func27 rfl rfl rfl (fun _ _ => by kernel_rfl) (by kernel_rfl) (by rfl) (by rfl) (by (repeat' first | refine And.intro ?_ ?_ | exact xeC | fail)) ?_
  repeat' (first | (fail_if_success (with_reducible refine xstp ?_)); first | ((with_reducible refine And.intro (fun (hb : _ = true) => ?_) (fun (hb : _ = false) => ?_)) <;> replace hb := xnC hb <;> (try first | exact xfC | exact bff hb (by assumption) | exact bff (by assumption) hb)) | ((with_reducible refine And.intro ?_ ?_); focus exact xoC) | (with_reducible intro hc; (try simp only [capsP, and_true] at hc); (try exact xfC)) | ((fail_if_success (with_reducible first | refine xgon ?_ | intro _)); (conv => whnf); (fail_if_success (fail_if_success (with_reducible first | refine xstp ?_ | refine xgon ?_ | intro _)))))
  · have hB : polB id X p at' = [gapK id X p 0 1 (p.st - 1) at'] := if_pos (by assumption)
    refine cH18oG0 (σ := [.whole 0, .whole 4, .name 1, .name 2, .name 5]) (nl := []) (cgap id per la q X p cq 0 1 (p.st - 1) at') ?_
    rintro v h' ⟨rfl, rfl⟩ hcaps
    refine ret_mk3 (by (try simp only [↓List.length_cons, ↓List.length_nil, Nat.reduceAdd]); rfl) (by (try simp (maxSteps := 1000000) only [givesF, setF, updF, Fam.zeroth, Fam.rk, Ck.rk, C.rk, E.rk, T.rk, key, List.map_cons, List.map_nil, List.cons_append, List.nil_append, List.length_cons, List.length_nil, Option.map_some, Option.bind_some, Nat.reduceAdd, Nat.zero_add, Nat.add_zero, Nat.add_sub_cancel_left, Int.toNat_natCast, reps, List.all_cons, List.all_nil, C.flat, List.append_eq, Bool.not_true, Bool.and_true, Bool.or_false, Bool.or_self, Bool.not_false, List.append_nil, Bool.and_self, ↓prC_rk, ↓rqO_rk, encPr, encP]); rfl) (by (try simp only [givesF, setF, updF, Fam.zeroth, Fam.rk, Ck.rk, C.rk, E.rk, T.rk, key, List.map_cons, List.map_nil, List.cons_append, List.nil_append, List.length_cons, List.length_nil, Option.map_some, Option.bind_some, Nat.reduceAdd, Nat.zero_add, Nat.add_zero, Nat.add_sub_cancel_left, Int.toNat_natCast, reps, List.all_cons, List.all_nil, C.flat, List.append_eq, Bool.not_true, Bool.and_true, Bool.or_false, Bool.or_self, Bool.not_false, List.append_nil, Bool.and_self, ↓prC_rk, ↓rqO_rk, encPr, encP]); rfl) ?_
    repeat' (first | (fail_if_success (with_reducible refine xstp ?_)); first | ((with_reducible refine And.intro ?_ ?_); focus exact xoC) | (with_reducible intro hc; (try simp only [capsP, and_true] at hc); (try exact xfC)) | ((fail_if_success (with_reducible first | refine xgon ?_ | intro _)); (conv => whnf); (fail_if_success (fail_if_success (with_reducible first | refine xstp ?_ | refine xgon ?_ | intro _)))))
    rename_i c1
    have h0 : polB id X p at' ++ polR id l X p at' 0 = [gapK id X p 0 1 (p.st - 1) at'] := by rw [hB]; rfl
    refine cH18oG0 (σ := [.whole 5]) (nl := []) (cSort 3 p.rq cq (by omega)) ?_
    rintro v h' ⟨rfl, rfl⟩ hcaps
    refine ret_mk3 (by (try simp only [↓List.length_cons, ↓List.length_nil, Nat.reduceAdd]); rfl) (by (try simp (maxSteps := 1000000) only [givesF, setF, updF, Fam.zeroth, Fam.rk, Ck.rk, C.rk, E.rk, T.rk, key, List.map_cons, List.map_nil, List.cons_append, List.nil_append, List.length_cons, List.length_nil, Option.map_some, Option.bind_some, Nat.reduceAdd, Nat.zero_add, Nat.add_zero, Nat.add_sub_cancel_left, Int.toNat_natCast, reps, List.all_cons, List.all_nil, C.flat, List.append_eq, Bool.not_true, Bool.and_true, Bool.or_false, Bool.or_self, Bool.not_false, List.append_nil, Bool.and_self, ↓prC_rk, ↓rqO_rk, encPr, encP]); rfl) (by (try simp only [givesF, setF, updF, Fam.zeroth, Fam.rk, Ck.rk, C.rk, E.rk, T.rk, key, List.map_cons, List.map_nil, List.cons_append, List.nil_append, List.length_cons, List.length_nil, Option.map_some, Option.bind_some, Nat.reduceAdd, Nat.zero_add, Nat.add_zero, Nat.add_sub_cancel_left, Int.toNat_natCast, reps, List.all_cons, List.all_nil, C.flat, List.append_eq, Bool.not_true, Bool.and_true, Bool.or_false, Bool.or_self, Bool.not_false, List.append_nil, Bool.and_self, ↓prC_rk, ↓rqO_rk, encPr, encP]); rfl) ?_
    repeat' (first | (fail_if_success (with_reducible refine xstp ?_)); first | ((fail_if_success (with_reducible first | refine xgon ?_ | intro _)); (conv => whnf); (fail_if_success (fail_if_success (with_reducible first | refine xstp ?_ | refine xgon ?_ | intro _)))))
    refine LoopK.mk' ({k : Nat // k ≤ p.rq.length} × Nat)
      (fun ⟨⟨k, _⟩, cc⟩ => ⟨[(0, .c (.p 0 0 0)), (1, .c (.p 4 0 0)), (2, .c (.i .i64 at')), (7, .c (.sl 6 0 11 0 (polB id X p at' ++ polR id l X p at' k).length cc)), (39, .c (.sl 5 0 1 0 p.rq.length cq)), (40, .c (.i .i64 p.rq.length)), (41, .c (.i .i64 k))],
        [.one (wrc 1 2 id per la q), .one (hist 3 q l.length c), .one .no, .one (smps true l c), .one (.cells true (encPr 5 0 X (pS p) cq)), .one (ints true (srtI p.rq) cq), .one (pkR true (polB id X p at' ++ polR id l X p at' k) cc)]⟩)
      (fun k => p.rq.length - k.1.1)
      ⟨⟨⟨0, Nat.zero_le _⟩, c1⟩, [0, 1, 2, 3, 4, 5, 7], ?_⟩ ?_
    · (repeat' first | refine And.intro ?_ ?_ | exact xeC | fail)
      all_goals try rw [h0]
      all_goals first
        | rfl
        | exact hsl.symm
        | exact Nat.le_of_eq hsl
        | (show p.bg = false; assumption)
        | exact Nat.le_refl _
        | (intro i hi
           have hi1 : i < 1 := hi
           obtain rfl : i = 0 := by omega
           rfl)
        | (intro i hi; exact absurd hi (Nat.not_lt_zero i))
        | skip
      all_goals trace_state
    rintro ⟨⟨k, hk⟩, cc⟩
    have hRl := polR_le id l X p at' k
    have hOl : (polB id X p at' ++ polR id l X p at' k).length ≤ 100001 := by rw [List.length_append]; omega
    repeat' (first | (fail_if_success (with_reducible refine xstp ?_)); first | ((with_reducible refine And.intro (fun (hb : _ = true) => ?_) (fun (hb : _ = false) => ?_)) <;> replace hb := xnC hb <;> (try first | exact xfC | exact bff hb (by assumption) | exact bff (by assumption) hb)) | ((with_reducible refine And.intro ?_ ?_); focus exact xoC) | (with_reducible intro hc; (try simp only [capsP, and_true] at hc); (try exact xfC)) | ((fail_if_success (with_reducible first | refine xgon ?_ | intro _)); (conv => whnf); (fail_if_success (fail_if_success (with_reducible first | refine xstp ?_ | refine xgon ?_ | intro _)))))
    · rw [show 0 + ((k : Nat) : Int).toNat = k by omega]
      refine cH18oG0 (σ := [.whole 0, .whole 1, .name 2, .whole 3, .whole 4, .name 5]) (nl := []) (cdata id per la q l c X (pS p) cq ((srtI p.rq).getD k default) at' hl) ?_
      rintro v h' ⟨rfl, rfl⟩ hcaps
      rw [show dat id l X (pS p) at' ((srtI p.rq).getD k default) = dat id l X p at' ((srtI p.rq).getD k default) from rfl]
      have hR1 := polR_succ id l X p at' (show k < p.rq.length by omega)
      generalize dat id l X p at' ((srtI p.rq).getD k default) = y at *
      refine ret_mk3 (by (try simp only [↓List.length_cons, ↓List.length_nil, Nat.reduceAdd]); rfl) (by (try simp (maxSteps := 1000000) only [givesF, setF, updF, Fam.zeroth, Fam.rk, Ck.rk, C.rk, E.rk, T.rk, key, List.map_cons, List.map_nil, List.cons_append, List.nil_append, List.length_cons, List.length_nil, Option.map_some, Option.bind_some, Nat.reduceAdd, Nat.zero_add, Nat.add_zero, Nat.add_sub_cancel_left, Int.toNat_natCast, reps, List.all_cons, List.all_nil, C.flat, List.append_eq, Bool.not_true, Bool.and_true, Bool.or_false, Bool.or_self, Bool.not_false, List.append_nil, Bool.and_self, ↓prC_rk, ↓rqO_rk, encPr, encP]); rfl) (by (try simp only [givesF, setF, updF, Fam.zeroth, Fam.rk, Ck.rk, C.rk, E.rk, T.rk, key, List.map_cons, List.map_nil, List.cons_append, List.nil_append, List.length_cons, List.length_nil, Option.map_some, Option.bind_some, Nat.reduceAdd, Nat.zero_add, Nat.add_zero, Nat.add_sub_cancel_left, Int.toNat_natCast, reps, List.all_cons, List.all_nil, C.flat, List.append_eq, Bool.not_true, Bool.and_true, Bool.or_false, Bool.or_self, Bool.not_false, List.append_nil, Bool.and_self, ↓prC_rk, ↓rqO_rk, encPr, encP]); rfl) ?_
      repeat' (first | (fail_if_success (with_reducible refine xstp ?_)); first | ((with_reducible refine And.intro ?_ ?_); focus exact xoC) | ((with_reducible refine Or.inl ⟨?_, ?_, ?_⟩); (focus rfl); focus exact xaC) | (with_reducible intro hc; (try simp only [capsP, and_true] at hc); (try exact xfC)) | ((fail_if_success (with_reducible first | refine xgon ?_ | intro _)); (conv => whnf); (fail_if_success (fail_if_success (with_reducible first | refine xstp ?_ | refine xgon ?_ | intro _)))))
      rename_i c2
      refine ⟨⟨⟨k + 1, by omega⟩, c2⟩, [0, 1, 2, 3, 4, 5, 8], by simp only; omega, ?_⟩
      simp only [hR1, ← List.append_assoc]
      (repeat' first | refine And.intro ?_ ?_ | exact xeC | fail)
      all_goals first
        | (simp only [List.length_append, List.length_cons, List.length_nil]; done)
        | (simp only [List.length_append, List.length_cons, List.length_nil]; exact Nat.le_refl _)
        | (intro i hi; exact app_rowG (encP .nils) (polB id X p at' ++ polR id l X p at' k) y _ rfl i hi)
        | skip
      all_goals trace_state
    obtain rfl : k = p.rq.length := by omega
    refine LoopK.mk' ({k : Nat // k ≤ (la - p.se).toNat} × Nat)
      (fun ⟨⟨k, _⟩, cc⟩ => ⟨[(0, .c (.p 0 0 0)), (1, .c (.p 4 0 0)), (2, .c (.i .i64 at')), (7, .c (.sl 6 0 11 0 (polB id X p at' ++ polR id l X p at' p.rq.length ++ polN id l X p at' k).length cc)), (10, .c (.i .i64 (p.se + 1 + (k : Int))))],
        [.one (wrc 1 2 id per la q), .one (hist 3 q l.length c), .one .no, .one (smps true l c), .one (.cells true (encPr 7 0 X (pE p) 0)), .one .no, .one (pkR true (polB id X p at' ++ polR id l X p at' p.rq.length ++ polN id l X p at' k) cc), .one (ints true [] 0)]⟩)
      (fun k => (la - p.se).toNat - k.1.1)
      ⟨⟨⟨0, Nat.zero_le _⟩, cc⟩, [0, 1, 2, 3, 4, 5, 6, 99], ?_⟩ ?_
    · have h1 : polB id X p at' ++ polR id l X p at' p.rq.length ++ polN id l X p at' 0 = polB id X p at' ++ polR id l X p at' p.rq.length := List.append_nil _
      (repeat' first | refine And.intro ?_ ?_ | exact xeC | fail)
      all_goals try rw [h1]
      all_goals first
        | rfl
        | exact Nat.le_refl _
        | exact (Int.add_zero _).symm
        | exact fun _ _ => rfl
        | skip
      all_goals trace_state
    rintro ⟨⟨k, hk⟩, cc⟩
    have hNl := polN_le id l X p at' k
    have hOl : (polB id X p at' ++ polR id l X p at' p.rq.length ++ polN id l X p at' k).length ≤ 1100001 := by rw [List.length_append, List.length_append]; have : (polR id l X p at' p.rq.length).length ≤ p.rq.length := polR_le id l X p at' _; omega
    repeat' (first | (fail_if_success (with_reducible refine xstp ?_)); first | ((with_reducible refine And.intro (fun (hb : _ = true) => ?_) (fun (hb : _ = false) => ?_)) <;> replace hb := xnC hb <;> (try first | exact xfC | exact bff hb (by assumption) | exact bff (by assumption) hb)) | ((with_reducible refine And.intro ?_ ?_); focus exact xoC) | ((with_reducible refine Or.inl ⟨?_, ?_, ?_⟩); (focus rfl); focus exact xaC) | (with_reducible intro hc; (try simp only [capsP, and_true] at hc); (try exact xfC)) | ((fail_if_success (with_reducible first | refine xgon ?_ | intro _)); (conv => whnf); (fail_if_success (fail_if_success (with_reducible first | refine xstp ?_ | refine xgon ?_ | intro _)))))
    · refine cH18oG0 (σ := [.whole 0, .whole 1, .name 2, .whole 3, .whole 4, .name 7]) (nl := []) (cdata id per la q l c X (pE p) 0 (p.se + 1 + (k : Int)) at' hl) ?_
      rintro v h' ⟨rfl, rfl⟩ hcaps
      rw [show dat id l X (pE p) at' (p.se + 1 + (k : Int)) = dat id l X p at' (p.se + 1 + (k : Int)) from rfl]
      have hN1 := polN_succ id l X p at' k
      unfold polN1 at hN1
      generalize dat id l X p at' (p.se + 1 + (k : Int)) = y at *
      refine ret_mk3 (by (try simp only [↓List.length_cons, ↓List.length_nil, Nat.reduceAdd]); rfl) (by (try simp (maxSteps := 1000000) only [givesF, setF, updF, Fam.zeroth, Fam.rk, Ck.rk, C.rk, E.rk, T.rk, key, List.map_cons, List.map_nil, List.cons_append, List.nil_append, List.length_cons, List.length_nil, Option.map_some, Option.bind_some, Nat.reduceAdd, Nat.zero_add, Nat.add_zero, Nat.add_sub_cancel_left, Int.toNat_natCast, reps, List.all_cons, List.all_nil, C.flat, List.append_eq, Bool.not_true, Bool.and_true, Bool.or_false, Bool.or_self, Bool.not_false, List.append_nil, Bool.and_self, ↓prC_rk, ↓rqO_rk, encPr, encP]); rfl) (by (try simp only [givesF, setF, updF, Fam.zeroth, Fam.rk, Ck.rk, C.rk, E.rk, T.rk, key, List.map_cons, List.map_nil, List.cons_append, List.nil_append, List.length_cons, List.length_nil, Option.map_some, Option.bind_some, Nat.reduceAdd, Nat.zero_add, Nat.add_zero, Nat.add_sub_cancel_left, Int.toNat_natCast, reps, List.all_cons, List.all_nil, C.flat, List.append_eq, Bool.not_true, Bool.and_true, Bool.or_false, Bool.or_self, Bool.not_false, List.append_nil, Bool.and_self, ↓prC_rk, ↓rqO_rk, encPr, encP]); rfl) ?_
      repeat' (first | (fail_if_success (with_reducible refine xstp ?_)); first | ((with_reducible refine And.intro (fun (hb : _ = true) => ?_) (fun (hb : _ = false) => ?_)) <;> replace hb := xnC hb <;> (try first | exact xfC | exact bff hb (by assumption) | exact bff (by assumption) hb)) | ((with_reducible refine And.intro ?_ ?_); focus exact xoC) | ((with_reducible refine Or.inl ⟨?_, ?_, ?_⟩); (focus rfl); focus exact xaC) | (with_reducible intro hc; (try simp only [capsP, and_true] at hc); (try exact xfC)) | ((fail_if_success (with_reducible first | refine xgon ?_ | intro _)); (conv => whnf); (fail_if_success (fail_if_success (with_reducible first | refine xstp ?_ | refine xgon ?_ | intro _)))))
      all_goals first
        | (have hcnd : p.rel = true ∨ y.k = 1 := by first | exact .inl ‹(pE p).rel = true› | exact .inr ‹y.k = 1›
           rw [if_pos hcnd] at hN1
           rename_i c2
           refine ⟨⟨⟨k + 1, by omega⟩, c2⟩, [0, 1, 2, 3, 4, 5, 10, 7], by simp only; omega, ?_⟩
           simp only [hN1, ← List.append_assoc]
           (repeat' first | refine And.intro ?_ ?_ | exact xeC | fail)
           all_goals first
             | (simp only [List.length_append, List.length_cons, List.length_nil]; done)
             | (simp only [List.length_append, List.length_cons, List.length_nil]; exact Nat.le_refl _)
             | (intro i hi; exact app_rowG (encP .nils) (polB id X p at' ++ polR id l X p at' p.rq.length ++ polN id l X p at' k) y _ rfl i hi)
             | (show p.se + 1 + (k : Int) + 1 = p.se + 1 + ((k + 1 : Nat) : Int); omega)
           done)
        | (have hc1 : ¬ y.k = 1 := ‹¬ y.k = 1›
           have hc2 : p.rel = false := ‹(pE p).rel = false›
           have hcnd : ¬ (p.rel = true ∨ y.k = 1) := fun h => h.elim (fun h => by rw [hc2] at h; cases h) hc1
           rw [if_neg hcnd, List.append_nil] at hN1
           refine ⟨⟨⟨k + 1, by omega⟩, cc⟩, [0, 1, 2, 3, 4, 5, 6, 7], by simp only; omega, ?_⟩
           simp only [hN1]
           (repeat' first | refine And.intro ?_ ?_ | exact xeC | fail)
           all_goals first
             | (show p.se + 1 + (k : Int) + 1 = p.se + 1 + ((k + 1 : Nat) : Int); omega)
           done)
        | skip
      all_goals trace_state
      all_goals stop
      all_goals skip
    rename Nat => c2
    all_goals have ek : k = (la - p.se).toNat := by omega
    all_goals subst ek
    · have hbe : beats p la at' := ⟨‹(pE p).rel = true›, ‹(pE p).ac < la›, ‹(pE p).bt ≤ at'›⟩
      have e1 : polL id l X p la at' = polB id X p at' ++ polR id l X p at' p.rq.length ++ polN id l X p at' (la - p.se).toNat ++ [hbK id X p la at'] := by unfold polL polH; rw [if_pos hbe]
      have e2 : polP per p la at' = ⟨p.nd, p.rel, p.st, p.ac, la, [], false, at' + per⟩ := by unfold polP; rw [if_pos hbe]
      rw [e1, e2]
      refine FinK.mk ⟨[0, 1, 2, 3, 4, 5, 9, 7], _, _, ⟨c2, rfl, rfl⟩, ?_⟩
      (repeat' first | refine And.intro ?_ ?_ | exact xeC | fail)
      all_goals first
        | (simp only [List.length_append, List.length_cons, List.length_nil]; done)
        | (simp only [List.length_append, List.length_cons, List.length_nil]; exact Nat.le_refl _)
        | (intro i hi; exact app_rowG (encP .nils) (polB id X p at' ++ polR id l X p at' p.rq.length ++ polN id l X p at' (la - p.se).toNat) (hbK id X p la at') _ rfl i hi)
        | skip
      all_goals trace_state
    all_goals (
      have hbe : ¬ beats p la at' := fun h => by
        have h1 : (pE p).rel = true := h.1
        have h2 : (pE p).ac < la := h.2.1
        have h3 : (pE p).bt ≤ at' := h.2.2
        first
          | omega
          | exact absurd h1 (by rw [‹(pE p).rel = false›]; simp)
      have e1 : polL id l X p la at' = polB id X p at' ++ polR id l X p at' p.rq.length ++ polN id l X p at' (la - p.se).toNat := by unfold polL polH; rw [if_neg hbe, List.append_nil]
      have e2 : polP per p la at' = ⟨p.nd, p.rel, p.st, p.ac, la, [], false, p.bt⟩ := by unfold polP; rw [if_neg hbe]
      rw [e1, e2]
      refine FinK.mk ⟨[0, 1, 2, 3, 4, 5, 6, 7], _, _, ⟨cc, rfl, rfl⟩, ?_⟩
      (repeat' first | refine And.intro ?_ ?_ | exact xeC | fail)
      all_goals trace_state
      skip)
  · have hB : polB id X p at' = [] := if_neg (by simp [*])
    have h0 : polB id X p at' ++ polR id l X p at' 0 = [] := by rw [hB]; rfl
    refine cH18oG0 (σ := [.whole 5]) (nl := []) (cSort 3 p.rq cq (by omega)) ?_
    rintro v h' ⟨rfl, rfl⟩ hcaps
    refine ret_mk3 (by (try simp only [↓List.length_cons, ↓List.length_nil, Nat.reduceAdd]); rfl) (by (try simp (maxSteps := 1000000) only [givesF, setF, updF, Fam.zeroth, Fam.rk, Ck.rk, C.rk, E.rk, T.rk, key, List.map_cons, List.map_nil, List.cons_append, List.nil_append, List.length_cons, List.length_nil, Option.map_some, Option.bind_some, Nat.reduceAdd, Nat.zero_add, Nat.add_zero, Nat.add_sub_cancel_left, Int.toNat_natCast, reps, List.all_cons, List.all_nil, C.flat, List.append_eq, Bool.not_true, Bool.and_true, Bool.or_false, Bool.or_self, Bool.not_false, List.append_nil, Bool.and_self, ↓prC_rk, ↓rqO_rk, encPr, encP]); rfl) (by (try simp only [givesF, setF, updF, Fam.zeroth, Fam.rk, Ck.rk, C.rk, E.rk, T.rk, key, List.map_cons, List.map_nil, List.cons_append, List.nil_append, List.length_cons, List.length_nil, Option.map_some, Option.bind_some, Nat.reduceAdd, Nat.zero_add, Nat.add_zero, Nat.add_sub_cancel_left, Int.toNat_natCast, reps, List.all_cons, List.all_nil, C.flat, List.append_eq, Bool.not_true, Bool.and_true, Bool.or_false, Bool.or_self, Bool.not_false, List.append_nil, Bool.and_self, ↓prC_rk, ↓rqO_rk, encPr, encP]); rfl) ?_
    repeat' (first | (fail_if_success (with_reducible refine xstp ?_)); first | ((fail_if_success (with_reducible first | refine xgon ?_ | intro _)); (conv => whnf); (fail_if_success (fail_if_success (with_reducible first | refine xstp ?_ | refine xgon ?_ | intro _)))))
    refine LoopK.mk' ({k : Nat // k ≤ p.rq.length} × Nat)
      (fun ⟨⟨k, _⟩, cc⟩ => ⟨[(0, .c (.p 0 0 0)), (1, .c (.p 4 0 0)), (2, .c (.i .i64 at')), (7, .c (.sl 6 0 11 0 (polB id X p at' ++ polR id l X p at' k).length cc)), (39, .c (.sl 5 0 1 0 p.rq.length cq)), (40, .c (.i .i64 p.rq.length)), (41, .c (.i .i64 k))],
        [.one (wrc 1 2 id per la q), .one (hist 3 q l.length c), .one .no, .one (smps true l c), .one (.cells true (encPr 5 0 X (pS p) cq)), .one (ints true (srtI p.rq) cq), .one (pkR true (polB id X p at' ++ polR id l X p at' k) cc)]⟩)
      (fun k => p.rq.length - k.1.1)
      ⟨⟨⟨0, Nat.zero_le _⟩, 0⟩, [0, 1, 2, 3, 4, 5, 99], ?_⟩ ?_
    · (repeat' first | refine And.intro ?_ ?_ | exact xeC | fail)
      all_goals try rw [h0]
      all_goals first
        | rfl
        | exact hsl.symm
        | exact Nat.le_of_eq hsl
        | (show p.bg = false; assumption)
        | exact Nat.le_refl _
        | (intro i hi
           have hi1 : i < 1 := hi
           obtain rfl : i = 0 := by omega
           rfl)
        | (intro i hi; exact absurd hi (Nat.not_lt_zero i))
        | skip
      all_goals trace_state
    rintro ⟨⟨k, hk⟩, cc⟩
    have hRl := polR_le id l X p at' k
    have hOl : (polB id X p at' ++ polR id l X p at' k).length ≤ 100001 := by rw [List.length_append]; omega
    repeat' (first | (fail_if_success (with_reducible refine xstp ?_)); first | ((with_reducible refine And.intro (fun (hb : _ = true) => ?_) (fun (hb : _ = false) => ?_)) <;> replace hb := xnC hb <;> (try first | exact xfC | exact bff hb (by assumption) | exact bff (by assumption) hb)) | ((with_reducible refine And.intro ?_ ?_); focus exact xoC) | (with_reducible intro hc; (try simp only [capsP, and_true] at hc); (try exact xfC)) | ((fail_if_success (with_reducible first | refine xgon ?_ | intro _)); (conv => whnf); (fail_if_success (fail_if_success (with_reducible first | refine xstp ?_ | refine xgon ?_ | intro _)))))
    · rw [show 0 + ((k : Nat) : Int).toNat = k by omega]
      refine cH18oG0 (σ := [.whole 0, .whole 1, .name 2, .whole 3, .whole 4, .name 5]) (nl := []) (cdata id per la q l c X (pS p) cq ((srtI p.rq).getD k default) at' hl) ?_
      rintro v h' ⟨rfl, rfl⟩ hcaps
      rw [show dat id l X (pS p) at' ((srtI p.rq).getD k default) = dat id l X p at' ((srtI p.rq).getD k default) from rfl]
      have hR1 := polR_succ id l X p at' (show k < p.rq.length by omega)
      generalize dat id l X p at' ((srtI p.rq).getD k default) = y at *
      refine ret_mk3 (by (try simp only [↓List.length_cons, ↓List.length_nil, Nat.reduceAdd]); rfl) (by (try simp (maxSteps := 1000000) only [givesF, setF, updF, Fam.zeroth, Fam.rk, Ck.rk, C.rk, E.rk, T.rk, key, List.map_cons, List.map_nil, List.cons_append, List.nil_append, List.length_cons, List.length_nil, Option.map_some, Option.bind_some, Nat.reduceAdd, Nat.zero_add, Nat.add_zero, Nat.add_sub_cancel_left, Int.toNat_natCast, reps, List.all_cons, List.all_nil, C.flat, List.append_eq, Bool.not_true, Bool.and_true, Bool.or_false, Bool.or_self, Bool.not_false, List.append_nil, Bool.and_self, ↓prC_rk, ↓rqO_rk, encPr, encP]); rfl) (by (try simp only [givesF, setF, updF, Fam.zeroth, Fam.rk, Ck.rk, C.rk, E.rk, T.rk, key, List.map_cons, List.map_nil, List.cons_append, List.nil_append, List.length_cons, List.length_nil, Option.map_some, Option.bind_some, Nat.reduceAdd, Nat.zero_add, Nat.add_zero, Nat.add_sub_cancel_left, Int.toNat_natCast, reps, List.all_cons, List.all_nil, C.flat, List.append_eq, Bool.not_true, Bool.and_true, Bool.or_false, Bool.or_self, Bool.not_false, List.append_nil, Bool.and_self, ↓prC_rk, ↓rqO_rk, encPr, encP]); rfl) ?_
      repeat' (first | (fail_if_success (with_reducible refine xstp ?_)); first | ((with_reducible refine And.intro ?_ ?_); focus exact xoC) | ((with_reducible refine Or.inl ⟨?_, ?_, ?_⟩); (focus rfl); focus exact xaC) | (with_reducible intro hc; (try simp only [capsP, and_true] at hc); (try exact xfC)) | ((fail_if_success (with_reducible first | refine xgon ?_ | intro _)); (conv => whnf); (fail_if_success (fail_if_success (with_reducible first | refine xstp ?_ | refine xgon ?_ | intro _)))))
      rename_i c2
      refine ⟨⟨⟨k + 1, by omega⟩, c2⟩, [0, 1, 2, 3, 4, 5, 8], by simp only; omega, ?_⟩
      simp only [hR1, ← List.append_assoc]
      (repeat' first | refine And.intro ?_ ?_ | exact xeC | fail)
      all_goals first
        | (simp only [List.length_append, List.length_cons, List.length_nil]; done)
        | (simp only [List.length_append, List.length_cons, List.length_nil]; exact Nat.le_refl _)
        | (intro i hi; exact app_rowG (encP .nils) (polB id X p at' ++ polR id l X p at' k) y _ rfl i hi)
        | skip
      all_goals trace_state
    obtain rfl : k = p.rq.length := by omega
    refine LoopK.mk' ({k : Nat // k ≤ (la - p.se).toNat} × Nat)
      (fun ⟨⟨k, _⟩, cc⟩ => ⟨[(0, .c (.p 0 0 0)), (1, .c (.p 4 0 0)), (2, .c (.i .i64 at')), (7, .c (.sl 6 0 11 0 (polB id X p at' ++ polR id l X p at' p.rq.length ++ polN id l X p at' k).length cc)), (10, .c (.i .i64 (p.se + 1 + (k : Int))))],
        [.one (wrc 1 2 id per la q), .one (hist 3 q l.length c), .one .no, .one (smps true l c), .one (.cells true (encPr 7 0 X (pE p) 0)), .one .no, .one (pkR true (polB id X p at' ++ polR id l X p at' p.rq.length ++ polN id l X p at' k) cc), .one (ints true [] 0)]⟩)
      (fun k => (la - p.se).toNat - k.1.1)
      ⟨⟨⟨0, Nat.zero_le _⟩, cc⟩, [0, 1, 2, 3, 4, 5, 6, 99], ?_⟩ ?_
    · have h1 : polB id X p at' ++ polR id l X p at' p.rq.length ++ polN id l X p at' 0 = polB id X p at' ++ polR id l X p at' p.rq.length := List.append_nil _
      (repeat' first | refine And.intro ?_ ?_ | exact xeC | fail)
      all_goals try rw [h1]
      all_goals first
        | rfl
        | exact Nat.le_refl _
        | exact (Int.add_zero _).symm
        | exact fun _ _ => rfl
        | skip
      all_goals trace_state
    rintro ⟨⟨k, hk⟩, cc⟩
    have hNl := polN_le id l X p at' k
    have hOl : (polB id X p at' ++ polR id l X p at' p.rq.length ++ polN id l X p at' k).length ≤ 1100001 := by rw [List.length_append, List.length_append]; have : (polR id l X p at' p.rq.length).length ≤ p.rq.length := polR_le id l X p at' _; omega
    repeat' (first | (fail_if_success (with_reducible refine xstp ?_)); first | ((with_reducible refine And.intro (fun (hb : _ = true) => ?_) (fun (hb : _ = false) => ?_)) <;> replace hb := xnC hb <;> (try first | exact xfC | exact bff hb (by assumption) | exact bff (by assumption) hb)) | ((with_reducible refine And.intro ?_ ?_); focus exact xoC) | ((with_reducible refine Or.inl ⟨?_, ?_, ?_⟩); (focus rfl); focus exact xaC) | (with_reducible intro hc; (try simp only [capsP, and_true] at hc); (try exact xfC)) | ((fail_if_success (with_reducible first | refine xgon ?_ | intro _)); (conv => whnf); (fail_if_success (fail_if_success (with_reducible first | refine xstp ?_ | refine xgon ?_ | intro _)))))
    · refine cH18oG0 (σ := [.whole 0, .whole 1, .name 2, .whole 3, .whole 4, .name 7]) (nl := []) (cdata id per la q l c X (pE p) 0 (p.se + 1 + (k : Int)) at' hl) ?_
      rintro v h' ⟨rfl, rfl⟩ hcaps
      rw [show dat id l X (pE p) at' (p.se + 1 + (k : Int)) = dat id l X p at' (p.se + 1 + (k : Int)) from rfl]
      have hN1 := polN_succ id l X p at' k
      unfold polN1 at hN1
      generalize dat id l X p at' (p.se + 1 + (k : Int)) = y at *
      refine ret_mk3 (by (try simp only [↓List.length_cons, ↓List.length_nil, Nat.reduceAdd]); rfl) (by (try simp (maxSteps := 1000000) only [givesF, setF, updF, Fam.zeroth, Fam.rk, Ck.rk, C.rk, E.rk, T.rk, key, List.map_cons, List.map_nil, List.cons_append, List.nil_append, List.length_cons, List.length_nil, Option.map_some, Option.bind_some, Nat.reduceAdd, Nat.zero_add, Nat.add_zero, Nat.add_sub_cancel_left, Int.toNat_natCast, reps, List.all_cons, List.all_nil, C.flat, List.append_eq, Bool.not_true, Bool.and_true, Bool.or_false, Bool.or_self, Bool.not_false, List.append_nil, Bool.and_self, ↓prC_rk, ↓rqO_rk, encPr, encP]); rfl) (by (try simp only [givesF, setF, updF, Fam.zeroth, Fam.rk, Ck.rk, C.rk, E.rk, T.rk, key, List.map_cons, List.map_nil, List.cons_append, List.nil_append, List.length_cons, List.length_nil, Option.map_some, Option.bind_some, Nat.reduceAdd, Nat.zero_add, Nat.add_zero, Nat.add_sub_cancel_left, Int.toNat_natCast, reps, List.all_cons, List.all_nil, C.flat, List.append_eq, Bool.not_true, Bool.and_true, Bool.or_false, Bool.or_self, Bool.not_false, List.append_nil, Bool.and_self, ↓prC_rk, ↓rqO_rk, encPr, encP]); rfl) ?_
      repeat' (first | (fail_if_success (with_reducible refine xstp ?_)); first | ((with_reducible refine And.intro (fun (hb : _ = true) => ?_) (fun (hb : _ = false) => ?_)) <;> replace hb := xnC hb <;> (try first | exact xfC | exact bff hb (by assumption) | exact bff (by assumption) hb)) | ((with_reducible refine And.intro ?_ ?_); focus exact xoC) | ((with_reducible refine Or.inl ⟨?_, ?_, ?_⟩); (focus rfl); focus exact xaC) | (with_reducible intro hc; (try simp only [capsP, and_true] at hc); (try exact xfC)) | ((fail_if_success (with_reducible first | refine xgon ?_ | intro _)); (conv => whnf); (fail_if_success (fail_if_success (with_reducible first | refine xstp ?_ | refine xgon ?_ | intro _)))))
      all_goals first
        | (have hcnd : p.rel = true ∨ y.k = 1 := by first | exact .inl ‹(pE p).rel = true› | exact .inr ‹y.k = 1›
           rw [if_pos hcnd] at hN1
           rename_i c2
           refine ⟨⟨⟨k + 1, by omega⟩, c2⟩, [0, 1, 2, 3, 4, 5, 10, 7], by simp only; omega, ?_⟩
           simp only [hN1, ← List.append_assoc]
           (repeat' first | refine And.intro ?_ ?_ | exact xeC | fail)
           all_goals first
             | (simp only [List.length_append, List.length_cons, List.length_nil]; done)
             | (simp only [List.length_append, List.length_cons, List.length_nil]; exact Nat.le_refl _)
             | (intro i hi; exact app_rowG (encP .nils) (polB id X p at' ++ polR id l X p at' p.rq.length ++ polN id l X p at' k) y _ rfl i hi)
             | (show p.se + 1 + (k : Int) + 1 = p.se + 1 + ((k + 1 : Nat) : Int); omega)
           done)
        | (have hc1 : ¬ y.k = 1 := ‹¬ y.k = 1›
           have hc2 : p.rel = false := ‹(pE p).rel = false›
           have hcnd : ¬ (p.rel = true ∨ y.k = 1) := fun h => h.elim (fun h => by rw [hc2] at h; cases h) hc1
           rw [if_neg hcnd, List.append_nil] at hN1
           refine ⟨⟨⟨k + 1, by omega⟩, cc⟩, [0, 1, 2, 3, 4, 5, 6, 7], by simp only; omega, ?_⟩
           simp only [hN1]
           (repeat' first | refine And.intro ?_ ?_ | exact xeC | fail)
           all_goals first
             | (show p.se + 1 + (k : Int) + 1 = p.se + 1 + ((k + 1 : Nat) : Int); omega)
           done)
        | skip
      all_goals trace_state
      all_goals stop
      all_goals skip
    rename Nat => c2
    all_goals have ek : k = (la - p.se).toNat := by omega
    all_goals subst ek
    · have hbe : beats p la at' := ⟨‹(pE p).rel = true›, ‹(pE p).ac < la›, ‹(pE p).bt ≤ at'›⟩
      have e1 : polL id l X p la at' = polB id X p at' ++ polR id l X p at' p.rq.length ++ polN id l X p at' (la - p.se).toNat ++ [hbK id X p la at'] := by unfold polL polH; rw [if_pos hbe]
      have e2 : polP per p la at' = ⟨p.nd, p.rel, p.st, p.ac, la, [], false, at' + per⟩ := by unfold polP; rw [if_pos hbe]
      rw [e1, e2]
      refine FinK.mk ⟨[0, 1, 2, 3, 4, 5, 9, 7], _, _, ⟨c2, rfl, rfl⟩, ?_⟩
      (repeat' first | refine And.intro ?_ ?_ | exact xeC | fail)
      all_goals first
        | (simp only [List.length_append, List.length_cons, List.length_nil]; done)
        | (simp only [List.length_append, List.length_cons, List.length_nil]; exact Nat.le_refl _)
        | (intro i hi; exact app_rowG (encP .nils) (polB id X p at' ++ polR id l X p at' p.rq.length ++ polN id l X p at' (la - p.se).toNat) (hbK id X p la at') _ rfl i hi)
        | skip
      all_goals trace_state
    all_goals (
      have hbe : ¬ beats p la at' := fun h => by
        have h1 : (pE p).rel = true := h.1
        have h2 : (pE p).ac < la := h.2.1
        have h3 : (pE p).bt ≤ at' := h.2.2
        first
          | omega
          | exact absurd h1 (by rw [‹(pE p).rel = false›]; simp)
      have e1 : polL id l X p la at' = polB id X p at' ++ polR id l X p at' p.rq.length ++ polN id l X p at' (la - p.se).toNat := by unfold polL polH; rw [if_neg hbe, List.append_nil]
      have e2 : polP per p la at' = ⟨p.nd, p.rel, p.st, p.ac, la, [], false, p.bt⟩ := by unfold polP; rw [if_neg hbe]
      rw [e1, e2]
      refine FinK.mk ⟨[0, 1, 2, 3, 4, 5, 6, 7], _, _, ⟨cc, rfl, rfl⟩, ?_⟩
      (repeat' first | refine And.intro ?_ ?_ | exact xeC | fail)
      all_goals trace_state
      skip)
end Go.Proofs.Ytofcadbfjbefkaa


namespace Go.Proofs.Ytofcadbfjbefkaa
open Go.X
set_option linter.unusedSimpArgs false
set_option linter.unusedVariables false
abbrev ptR (w : Bool) (F : Nat) (l : List Nat) (c : Nat) : Ck := .row w true 68 1 l.length c (fun i => [.p F (l.getD i default) 0])
def srtN (l : List Nat) : List Nat := l.mergeSort fun x y => decide (x ≤ y)
theorem srtN_of {l m : List Nat} (h1 : m.Pairwise (· ≤ ·)) (h2 : m.Perm l) : m = srtN l := by
  refine List.Perm.eq_of_pairwise (le := fun a b => a ≤ b) (fun a b _ _ h1 h2 => Nat.le_antisymm h1 h2) h1 ?_ (h2.trans (List.mergeSort_perm l _).symm)
  have := List.pairwise_mergeSort (le := fun x y : Nat => decide (x ≤ y)) (fun a b c => by simp; omega) (fun a b => by simp; omega) l
  exact this.imp fun h => of_decide_eq_true h
def KnB (D : Nat → Option Pr) (l : List Nat) : Prop := ∀ x ∈ l, (∃ p, D x = some p) ∧ x ≤ 1073741824
set_option maxRecDepth 10000 in
theorem ccmp (D : Nat → Option Pr) (cf : Nat → Nat) (x y : Nat) (hx : (∃ p, D x = some p) ∧ x ≤ 1073741824) (hy : (∃ p, D y = some p) ∧ y ≤ 1073741824) :
    Ctr Try.prog 41 [.c (.p 0 x 0), .c (.p 0 y 0)] [prs 1 D cf, .one .no] fun v h => v = .c (.i .i64 ((x : Int) - y)) ∧ h = [prs 1 D cf, .one .no] := by
  obtain ⟨⟨p, hp⟩, hx⟩ := hx
  obtain ⟨⟨p2, hp2⟩, hy⟩ := hy
  refine Ctr.mk' tbv mixed Try.func41 rfl rfl rfl (fun _ _ => by kernel_rfl) (by kernel_rfl) (by rfl) (by rfl) (by (repeat' first | refine And.intro ?_ ?_ | exact xeC | fail) <;> exact xmC) ?_
  repeat' (first | (fail_if_success (with_reducible refine xstp ?_)); first | (with_reducible intro hc; (try simp only [capsP, and_true] at hc); (try exact xfC)) | ((fail_if_success (with_reducible first | refine xgon ?_ | intro _)); (conv => whnf); (fail_if_success (fail_if_success (with_reducible first | refine xstp ?_ | refine xgon ?_ | intro _)))))
  all_goals try (
    refine ManyK.mk ⟨.cells true (encPr 1 x x p (cf x)), by simp only [hp]; rfl, ?_⟩
    repeat' (first | (fail_if_success (with_reducible refine xstp ?_)); first | ((fail_if_success (with_reducible first | refine xgon ?_ | intro _)); (conv => whnf); (fail_if_success (fail_if_success (with_reducible first | refine xstp ?_ | refine xgon ?_ | intro _)))))
    skip)
  all_goals try (
    refine ManyK.mk ⟨.cells true (encPr 1 y y p2 (cf y)), by simp only [hp2]; rfl, ?_⟩
    repeat' (first | (fail_if_success (with_reducible refine xstp ?_)); first | ((with_reducible refine And.intro ?_ ?_); focus exact xoC) | ((fail_if_success (with_reducible first | refine xgon ?_ | intro _)); (conv => whnf); (fail_if_success (fail_if_success (with_reducible first | refine xstp ?_ | refine xgon ?_ | intro _)))))
    skip)
  all_goals (
    refine FinK.mk ⟨[0, 1], _, _, ⟨rfl, rfl⟩, ?_⟩; (repeat' first | refine And.intro ?_ ?_ | exact xeC | fail)
    all_goals (exact xmC))
theorem fin_any {t : List (Nat × T)} {k : Int} : FinK 0 ⟨t, []⟩ (.c (.i .i64 k)) fun v h => ∃ k, v = .c (.i .i64 k) ∧ h = [] := by
  refine FinK.mk ⟨[], .c (.i .i64 k), [], ⟨k, rfl, rfl⟩, ?_⟩
  (repeat' first | refine And.intro ?_ ?_ | exact xeC | fail)
set_option maxRecDepth 10000 in
theorem cLen64 (n : Int) (h : 0 ≤ n ∧ n ≤ 12) : Ctr Try.prog 68 [.c (.i .u64 n)] [] fun v h => ∃ k, v = .c (.i .i64 k) ∧ h = [] := by
  refine Ctr.mk' tbv mixed Try.func68 rfl rfl rfl (fun _ _ => by kernel_rfl) (by kernel_rfl) (by rfl) (by rfl) (by (repeat' first | refine And.intro ?_ ?_ | exact xeC | fail)) ?_
  repeat' (first | (fail_if_success (with_reducible refine xstp ?_)); first | ((with_reducible refine And.intro (fun (hb : _ = true) => ?_) (fun (hb : _ = false) => ?_)) <;> replace hb := xnC hb <;> (try first | exact xfC | exact bff hb (by assumption) | exact bff (by assumption) hb)) | (with_reducible intro hc; (try simp only [capsP, and_true] at hc); (try exact xfC)) | ((fail_if_success (with_reducible first | refine xgon ?_ | intro _)); (conv => whnf); (fail_if_success (fail_if_success (with_reducible first | refine xstp ?_ | refine xgon ?_ | intro _)))))
  have hw : IntKind.u8.wrap n = n := by
    rw [IntKind.wrap_u8]; omega
  rw [hw]
  refine ⟨⟨h.1, ?_⟩, ?_⟩
  · show n < 256
    omega
  have hb8 : ∀ b : UInt8, In64 (0 + IntKind.i64.wrap ((b.toNat : Nat) : Int)) := fun b => by
    have hb := b.toNat_lt
    unfold In64
    rw [IntKind.wrap_i64]
    omega
  repeat' (first | (fail_if_success (with_reducible refine xstp ?_)); first | ((fail_if_success (with_reducible first | refine xgon ?_ | intro _)); (conv => whnf); (fail_if_success (fail_if_success (with_reducible first | refine xstp ?_ | refine xgon ?_ | intro _)))))
  refine ⟨hb8 _, ?_⟩
  repeat' (first | (fail_if_success (with_reducible refine xstp ?_)); first | ((fail_if_success (with_reducible first | refine xgon ?_ | intro _)); (conv => whnf); (fail_if_success (fail_if_success (with_reducible first | refine xstp ?_ | refine xgon ?_ | intro _)))))
  exact fin_any
theorem rH18oH0 {σ : List Sg} {H h' : List Fam} {v : T} {K : T → List Fam → Prop} {H' : List Fam} {v' : T} {N : Nat} (hk : K v' H') (hN : H.length = N := by (try simp only [↓List.length_cons, ↓List.length_nil, Nat.reduceAdd]) <;> rfl) (h : givesF σ N H σ h' = some H' := by (try simp (maxSteps := 1000000) only [givesF, setF, updF, Fam.zeroth, Fam.rk, Ck.rk, C.rk, E.rk, T.rk, key, List.map_cons, List.map_nil, List.cons_append, List.nil_append, List.length_cons, List.length_nil, Option.map_some, Option.bind_some, Nat.reduceAdd, Nat.zero_add, Nat.add_zero, Nat.add_sub_cancel_left, Int.toNat_natCast, reps, List.all_cons, List.all_nil, C.flat, List.append_eq, Bool.not_true, Bool.and_true, Bool.or_false, Bool.or_self, Bool.not_false, List.append_nil, Bool.and_self, ↓prC_rk, ↓rqO_rk]) <;> rfl) (hv : v.rk σ N = v' := by (try simp only [givesF, setF, updF, Fam.zeroth, Fam.rk, Ck.rk, C.rk, E.rk, T.rk, key, List.map_cons, List.map_nil, List.cons_append, List.nil_append, List.length_cons, List.length_nil, Option.map_some, Option.bind_some, Nat.reduceAdd, Nat.zero_add, Nat.add_zero, Nat.add_sub_cancel_left, Int.toNat_natCast, reps, List.all_cons, List.all_nil, C.flat, List.append_eq, Bool.not_true, Bool.and_true, Bool.or_false, Bool.or_self, Bool.not_false, List.append_nil, Bool.and_self, ↓prC_rk, ↓rqO_rk]) <;> rfl) : RetG σ H h' v K := ret_mk3 hN h hv hk
theorem cH18oH1 {P : Program} {F : Nat} {args : List T} {H : List Fam} {K : T → List Fam → Prop} {σ : List Sg} {nl : List Fam} {args0 : List T} {h0 : List Fam} {Q : T → List Fam → Prop} {H2 H1 : List Fam} {N n : Nat} (hc : Ctr P F args0 h0 Q) (hk : ∀ v h', Q v h' → capsP h' → RetG σ H2 h' v K) (hap : apart σ = true := by rfl) (hnl : nl.all nilB = true := by rfl) (h1 : H ++ nl = H1 := by first | exact List.append_nil _ | ((try simp only [List.cons_append, List.nil_append]) <;> rfl)) (hN : H1.length = N := by (try simp only [↓List.length_cons, ↓List.length_nil, Nat.reduceAdd]) <;> rfl) (hn : H.length = n := by (try simp only [↓List.length_cons, ↓List.length_nil, Nat.reduceAdd]) <;> rfl) (hH : givesF σ N H1 σ h0 = some H2 := by (try simp (maxSteps := 1000000) only [givesF, setF, updF, Fam.zeroth, Fam.rk, Ck.rk, C.rk, E.rk, T.rk, key, List.map_cons, List.map_nil, List.cons_append, List.nil_append, List.length_cons, List.length_nil, Option.map_some, Option.bind_some, Nat.reduceAdd, Nat.zero_add, Nat.add_zero, Nat.add_sub_cancel_left, Int.toNat_natCast, reps, List.all_cons, List.all_nil, C.flat, List.append_eq, Bool.not_true, Bool.and_true, Bool.or_false, Bool.or_self, Bool.not_false, List.append_nil, Bool.and_self, ↓prC_rk, ↓rqO_rk]) <;> rfl) (hle : leS n H1 σ N σ h0 (belsK N (h0.map (Fam.rk σ N)) (argsK n args (args0.map (T.rk σ N)) True)) := by repeat' first | refine And.intro ?_ ?_ | exact xeC | fail) : CallK P F args H K := CallK.mk3 hc hap hnl h1 hN hn hH hle hk
set_option maxRecDepth 10000 in
theorem cLen (n : Int) (h : 0 ≤ n ∧ n ≤ 12) : Ctr Try.prog 55 [.c (.i .u64 n)] [] fun v h => ∃ k, v = .c (.i .i64 k) ∧ h = [] := by
  refine Ctr.mk' tbv mixed Try.func55 rfl rfl rfl (fun _ _ => by kernel_rfl) (by kernel_rfl) (by rfl) (by rfl) (by (repeat' first | refine And.intro ?_ ?_ | exact xeC | fail)) ?_
  repeat' (first | (fail_if_success (with_reducible refine xstp ?_)); first | (with_reducible intro hc; (try simp only [capsP, and_true] at hc); (try exact xfC)) | ((fail_if_success (with_reducible first | refine xgon ?_ | intro _)); (conv => whnf); (fail_if_success (fail_if_success (with_reducible first | refine xstp ?_ | refine xgon ?_ | intro _)))))
  refine cH18oH1 (σ := []) (nl := []) (cLen64 n h) ?_
  rintro v h' ⟨k, rfl, rfl⟩ hcaps
  refine rH18oH0 ?_
  repeat' (first | (fail_if_success (with_reducible refine xstp ?_)); first | ((fail_if_success (with_reducible first | refine xgon ?_ | intro _)); (conv => whnf); (fail_if_success (fail_if_success (with_reducible first | refine xstp ?_ | refine xgon ?_ | intro _)))))
  refine FinK.mk ⟨[], _, _, ⟨k, rfl, rfl⟩, ?_⟩
  (repeat' first | refine And.intro ?_ ?_ | exact xeC | fail)
/-! ### insertion sort -/
theorem ins_next {A B : List Nat} {a x : Nat} (h : (A ++ [a] ++ B).Pairwise (· ≤ ·)) (hB : ∀ b ∈ B, x < b) (hx : x < a) : (∀ b ∈ a :: B, x < b) := fun b hb => by
  rcases List.mem_cons.1 hb with rfl | hb
  · exact hx
  · exact hB b hb
theorem ins_done {A B : List Nat} {x : Nat} (h : (A ++ B).Pairwise (· ≤ ·)) (hB : ∀ b ∈ B, x < b) (hA : ∀ a, A.getLast? = some a → a ≤ x) : (A ++ x :: B).Pairwise (· ≤ ·) := by
  rw [List.pairwise_append] at h ⊢
  refine ⟨h.1, List.pairwise_cons.2 ⟨fun b hb => Nat.le_of_lt (hB b hb), h.2.1⟩, fun a ha b hb => ?_⟩
  have hax : a ≤ x := by
    rcases List.eq_nil_or_concat A with rfl | ⟨A', y, rfl⟩
    · cases ha
    · have hy := hA y (by simp)
      have h1 := h.1
      simp only [List.concat_eq_append] at h1 ha
      rw [List.pairwise_append] at h1
      rcases List.mem_append.1 ha with ha | ha
      · exact Nat.le_trans (h1.2.2 a ha y (by simp)) hy
      · rw [List.mem_singleton.1 ha]; exact hy
  rcases List.mem_cons.1 hb with rfl | hb
  · exact hax
  · exact h.2.2 a ha b hb
theorem ins_perm {A B R l : List Nat} {x : Nat} (h : (A ++ B ++ x :: R).Perm l) : (A ++ x :: B ++ R).Perm l := by
  refine List.Perm.trans ?_ h
  rw [List.append_assoc, List.append_assoc]
  refine List.Perm.append_left A ?_
  show (x :: (B ++ R)).Perm (B ++ x :: R)
  exact List.perm_middle.symm
structure InsI (l : List Nat) (i : Nat) (S R : List Nat) : Prop where
  so : S.Pairwise (· ≤ ·)
  pe : (S ++ R).Perm l
  le : S.length = min i l.length
  po : 1 ≤ i
theorem ins_0 (l : List Nat) : InsI l 1 (l.take 1) (l.drop 1) := by
  refine ⟨?_, by rw [List.take_append_drop], by rw [List.length_take], Nat.le_refl _⟩
  cases l with
  | nil => exact List.Pairwise.nil
  | cons a l => simp
theorem sw_row {A B R : List Nat} {a x : Nat} (i : Nat) :
    (if i = A.length then [C.p 0 x 0] else if i = A.length + 1 then [C.p 0 a 0] else [C.p 0 ((A ++ [a] ++ x :: B ++ R).getD i default) 0]) = [C.p 0 ((A ++ x :: (a :: B) ++ R).getD i default) 0] := by
  by_cases h : i = A.length
  · rw [if_pos h, h]; simp [List.getD]
  · rw [if_neg h]
    by_cases h2 : i = A.length + 1
    · rw [if_pos h2, h2]; simp [List.getD, List.getElem?_append]
    · rw [if_neg h2]
      suffices e : (A ++ [a] ++ x :: B ++ R).getD i default = (A ++ x :: (a :: B) ++ R).getD i default by rw [e]
      simp only [List.getD, List.append_assoc, List.cons_append, List.nil_append]
      rcases Nat.lt_or_ge i A.length with h3 | h3
      · rw [List.getElem?_append_left h3, List.getElem?_append_left h3]
      · rw [List.getElem?_append_right h3, List.getElem?_append_right h3]
        obtain ⟨m, hm⟩ : ∃ m, i - A.length = m + 2 := ⟨i - A.length - 2, by omega⟩
        rw [hm]
        simp
set_option maxRecDepth 10000 in
set_option maxHeartbeats 8000000 in
theorem cinsert (D : Nat → Option Pr) (cf : Nat → Nat) (l : List Nat) (c : Nat) (hl : l.length ≤ 1000000) (hk : KnB D l) :
    Ctr Try.prog 59 [.c (.sl 2 0 1 0 l.length c), .c (.i .i64 0), .c (.i .i64 l.length), .c (.fn 41 [])] [prs 1 D cf, .one .no, .one (ptR true 0 l c)]
      fun v h => v = .t [] ∧ h = [prs 1 D cf, .one .no, .one (ptR true 0 (srtN l) c)] := by
  refine Ctr.mk' tbv mixed Try.func59 rfl rfl rfl (fun _ _ => by kernel_rfl) (by kernel_rfl) (by rfl) (by rfl) (by (repeat' first | refine And.intro ?_ ?_ | exact xeC | fail) <;> exact xmC) ?_
  repeat' (first | (fail_if_success (with_reducible refine xstp ?_)); first | ((with_reducible refine And.intro ?_ ?_); focus exact xoC) | (with_reducible intro hc; (try simp only [capsP, and_true] at hc); (try exact xfC)) | ((fail_if_success (with_reducible first | refine xgon ?_ | intro _)); (conv => whnf); (fail_if_success (fail_if_success (with_reducible first | refine xstp ?_ | refine xgon ?_ | intro _)))))
  refine LoopK.mk' {k : Nat × List Nat × List Nat // InsI l k.1 k.2.1 k.2.2}
    (fun ⟨(i, S, R), _⟩ => ⟨[(0, .c (.sl 2 0 1 0 l.length c)), (1, .c (.i .i64 0)), (2, .c (.i .i64 l.length)), (3, .c (.fn 41 [])), (8, .c (.i .i64 (i : Nat)))], [prs 1 D cf, .one .no, .one (ptR true 0 (S ++ R) c)]⟩) (fun k => l.length - k.1.1)
    ⟨⟨(1, l.take 1, l.drop 1), ins_0 l⟩, [0, 1, 2], ?_⟩ ?_
  · (repeat' first | refine And.intro ?_ ?_ | exact xeC | fail)
    all_goals first
      | (exact xmC)
      | (rw [List.take_append_drop]; done)
      | (rw [List.take_append_drop]; exact Nat.le_refl _)
      | (intro i hi; rw [List.take_append_drop]; rfl)
      | skip
    all_goals trace_state
  rintro ⟨⟨i, S, R⟩, hI⟩
  obtain ⟨hso, hpe, hle, hpo⟩ := hI
  simp only at hso hpe hle hpo
  have hlen := hpe.length_eq
  rw [List.length_append] at hlen
  repeat' (first | (fail_if_success (with_reducible refine xstp ?_)); first | ((with_reducible refine And.intro (fun (hb : _ = true) => ?_) (fun (hb : _ = false) => ?_)) <;> replace hb := xnC hb <;> (try first | exact xfC | exact bff hb (by assumption) | exact bff (by assumption) hb)) | (with_reducible intro hc; (try simp only [capsP, and_true] at hc); (try exact xfC)) | ((fail_if_success (with_reducible first | refine xgon ?_ | intro _)); (conv => whnf); (fail_if_success (fail_if_success (with_reducible first | refine xstp ?_ | refine xgon ?_ | intro _)))))
  rotate_left 1
  · have hR : R = [] := List.eq_nil_of_length_eq_zero (by omega)
    subst hR
    rw [List.append_nil] at hpe
    have e : S = srtN l := srtN_of hso hpe
    rw [← e]
    refine FinK.mk ⟨[0, 1, 2], _, _, ⟨rfl, rfl⟩, ?_⟩
    (repeat' first | refine And.intro ?_ ?_ | exact xeC | fail)
    all_goals first
      | (exact xmC)
      | (rw [List.append_nil]; done)
      | (rw [List.append_nil]; exact Nat.le_refl _)
      | (intro i hi; rw [List.append_nil]; rfl)
      | skip
    all_goals trace_state
  have hil : i < l.length := by omega
  obtain ⟨x, R', rfl⟩ : ∃ x R', R = x :: R' := by
    cases R with
    | nil => simp at hlen; omega
    | cons x R' => exact ⟨x, R', rfl⟩
  have hSi : S.length = i := by omega
  have hxk := hk x (hpe.subset (by simp))
  refine LoopK.mk' {k : List Nat × List Nat // k.1 ++ k.2 = S ∧ ∀ b ∈ k.2, x < b}
    (fun ⟨(A, B), _⟩ => ⟨[(0, .c (.sl 2 0 1 0 l.length c)), (1, .c (.i .i64 0)), (2, .c (.i .i64 l.length)), (3, .c (.fn 41 [])), (8, .c (.i .i64 (i : Nat))), (9, .c (.i .i64 (A.length : Nat)))], [prs 1 D cf, .one .no, .one (ptR true 0 (A ++ x :: B ++ R') c)]⟩) (fun k => k.1.1.length)
    ⟨⟨(S, []), ⟨List.append_nil _, by simp⟩⟩, [0, 1, 2], ?_⟩ ?_
  · (repeat' first | refine And.intro ?_ ?_ | exact xeC | fail)
    all_goals first
      | (exact xmC)
      | (rw [List.append_assoc]; rfl)
      | (rw [List.append_assoc]; exact Nat.le_refl _)
      | (intro i hi; rw [List.append_assoc]; rfl)
      | (show (i : Int) = S.length; omega)
      | skip
    all_goals trace_state
  rintro ⟨⟨A, B⟩, hAB, hB⟩
  simp only at hAB hB
  subst hAB
  have hll : (A ++ x :: B ++ R').length = l.length := by simp at hlen ⊢; omega
  have hall : (A ++ x :: B ++ R').length ≤ 1000000 := by omega
  have hAl : A.length + B.length = i := by rw [← hSi, List.length_append]
  obtain rfl | ⟨A', a, rfl⟩ : A = [] ∨ ∃ A' a, A = A' ++ [a] := by
    rcases List.eq_nil_or_concat A with h | ⟨A', a, h⟩
    · exact .inl h
    · exact .inr ⟨A', a, by rw [h, List.concat_eq_append]⟩
  · have h00 : ([] : List Nat).length = 0 := rfl
    repeat' (first | (fail_if_success (with_reducible refine xstp ?_)); first | ((with_reducible refine And.intro (fun (hb : _ = true) => ?_) (fun (hb : _ = false) => ?_)) <;> replace hb := xnC hb <;> (try first | exact xfC | exact bff hb (by assumption) | exact bff (by assumption) hb)) | ((with_reducible refine And.intro ?_ ?_); focus exact xoC) | (with_reducible intro hc; (try simp only [capsP, and_true] at hc); (try exact xfC)) | ((fail_if_success (with_reducible first | refine xgon ?_ | intro _)); (conv => whnf); (fail_if_success (fail_if_success (with_reducible first | refine xstp ?_ | refine xgon ?_ | intro _)))))
    have hI2 : InsI l (i + 1) ([] ++ x :: B) R' := ⟨ins_done hso hB (fun a h => by cases h), ins_perm hpe, by simp at hSi ⊢; omega, by omega⟩
    refine ⟨⟨(i + 1, [] ++ x :: B, R'), hI2⟩, [0, 1, 2], by simp only; omega, ?_⟩
    (repeat' first | refine And.intro ?_ ?_ | exact xeC | fail)
    all_goals first | (exact xmC) | skip
    all_goals trace_state
  · have hak := hk a (hpe.subset (by simp))
    have hjl : (A' ++ [a]).length = A'.length + 1 := by simp
    have e1 : (A' ++ [a] ++ x :: B ++ R').getD (0 + (((A' ++ [a]).length : Nat) : Int).toNat) default = x := by
      rw [show 0 + (((A' ++ [a]).length : Nat) : Int).toNat = A'.length + 1 by omega]
      simp [List.getD, List.getElem?_append]
    have e2 : (A' ++ [a] ++ x :: B ++ R').getD (0 + ((((A' ++ [a]).length : Nat) : Int) - 1).toNat) default = a := by
      rw [show 0 + ((((A' ++ [a]).length : Nat) : Int) - 1).toNat = A'.length by omega]
      simp [List.getD, List.getElem?_append]
    repeat' (first | (fail_if_success (with_reducible refine xstp ?_)); first | ((with_reducible refine And.intro (fun (hb : _ = true) => ?_) (fun (hb : _ = false) => ?_)) <;> replace hb := xnC hb <;> (try first | exact xfC | exact bff hb (by assumption) | exact bff (by assumption) hb)) | ((with_reducible refine And.intro ?_ ?_); focus exact xoC) | (with_reducible intro hc; (try simp only [capsP, and_true] at hc); (try exact xfC)) | ((fail_if_success (with_reducible first | refine xgon ?_ | intro _)); (conv => whnf); (fail_if_success (fail_if_success (with_reducible first | refine xstp ?_ | refine xgon ?_ | intro _)))))
    rw [e1, e2]
    refine cH18oH1 (σ := [.whole 0, .name 1]) (nl := []) (ccmp D cf x a hxk hak) ?_ (hle := by (repeat' first | refine And.intro ?_ ?_ | exact xeC | fail) <;> exact xmC)
    rintro v h' ⟨rfl, rfl⟩ hcaps
    refine rH18oH0 ?_
    repeat' (first | (fail_if_success (with_reducible refine xstp ?_)); first | ((with_reducible refine And.intro (fun (hb : _ = true) => ?_) (fun (hb : _ = false) => ?_)) <;> replace hb := xnC hb <;> (try first | exact xfC | exact bff hb (by assumption) | exact bff (by assumption) hb)) | ((with_reducible refine And.intro ?_ ?_); focus exact xoC) | ((fail_if_success (with_reducible first | refine xgon ?_ | intro _)); (conv => whnf); (fail_if_success (fail_if_success (with_reducible first | refine xstp ?_ | refine xgon ?_ | intro _)))))
    · have hxa : x < a := by omega
      rw [e2]
      repeat' (first | (fail_if_success (with_reducible refine xstp ?_)); first | ((with_reducible refine And.intro (fun (hb : _ = true) => ?_) (fun (hb : _ = false) => ?_)) <;> replace hb := xnC hb <;> (try first | exact xfC | exact bff hb (by assumption) | exact bff (by assumption) hb)) | (with_reducible refine Both.mk ?_ ?_) | ((with_reducible refine And.intro ?_ ?_); focus exact xoC) | ((with_reducible refine Or.inl ⟨?_, ?_, ?_⟩); (focus rfl); focus exact xaC) | ((with_reducible refine xwB ?_ ?_); focus exact xaC) | ((with_reducible refine xwC ?_ ?_); focus exact xaC) | ((with_reducible refine xwD ?_ ?_); focus exact xaC) | ((with_reducible refine xwE ?_ ?_); focus exact xaC) | (with_reducible intro hc; (try simp only [capsP, and_true] at hc); (try exact xfC)) | ((fail_if_success (with_reducible first | refine xgon ?_ | intro _)); (conv => whnf); (fail_if_success (fail_if_success (with_reducible first | refine xstp ?_ | refine Both.mk ?_ ?_ | refine xgon ?_ | intro _)))))
      have e3 : (fun i => if i = 0 + (((A' ++ [a]).length : Nat) : Int).toNat then [C.p 0 a 0] else (fun i => [C.p 0 ((A' ++ [a] ++ x :: B ++ R').getD i default) 0]) i) (0 + ((((A' ++ [a]).length : Nat) : Int) - 1).toNat) = [C.p 0 a 0] := by
        show (if _ then _ else _) = _
        rw [if_neg (by omega)]
        show [C.p 0 ((A' ++ [a] ++ x :: B ++ R').getD _ default) 0] = _
        rw [e2]
      rw [e1, e3]
      repeat' (first | (fail_if_success (with_reducible refine xstp ?_)); first | ((with_reducible refine And.intro ?_ ?_); focus exact xoC) | ((fail_if_success (with_reducible first | refine xgon ?_ | intro _)); (conv => whnf); (fail_if_success (fail_if_success (with_reducible first | refine xstp ?_ | refine xgon ?_ | intro _)))))
      refine ⟨⟨(A', a :: B), ⟨by simp, ins_next hso hB hxa⟩⟩, [0, 1, 2], by simp only; omega, ?_⟩
      (repeat' first | refine And.intro ?_ ?_ | exact xeC | fail)
      all_goals first
        | (exact xmC)
        | omega
        | (simp only [List.length_append, List.length_cons, List.length_nil]; omega)
        | (intro i hi
           have s1 : 0 + ((((A' ++ [a]).length : Nat) : Int) - 1).toNat = A'.length := by omega
           have s2 : 0 + (((A' ++ [a]).length : Nat) : Int).toNat = A'.length + 1 := by omega
           rw [s1, s2]
           exact sw_row i)
    · have hxa : a ≤ x := by omega
      have hI2 : InsI l (i + 1) (A' ++ [a] ++ x :: B) R' := ⟨ins_done hso hB (fun b h => by simp at h; omega), ins_perm hpe, by simp at hSi ⊢; omega, by omega⟩
      refine ⟨⟨(i + 1, A' ++ [a] ++ x :: B, R'), hI2⟩, [0, 1, 2], by simp only; omega, ?_⟩
      (repeat' first | refine And.intro ?_ ?_ | exact xeC | fail)
      all_goals (exact xmC)
set_option maxRecDepth 10000 in
set_option maxHeartbeats 8000000 in
theorem cpdq (D : Nat → Option Pr) (cf : Nat → Nat) (l : List Nat) (c : Nat) (lim : Int) (hl : l.length ≤ 12) (hk : KnB D l) :
    Ctr Try.prog 54 [.c (.sl 2 0 1 0 l.length c), .c (.i .i64 0), .c (.i .i64 l.length), .c (.i .i64 lim), .c (.fn 41 [])] [prs 1 D cf, .one .no, .one (ptR true 0 l c)]
      fun v h => v = .t [] ∧ h = [prs 1 D cf, .one .no, .one (ptR true 0 (srtN l) c)] := by
  refine Ctr.mk' tbv mixed Try.func54 rfl rfl rfl (fun _ _ => by kernel_rfl) (by kernel_rfl) (by rfl) (by rfl) (by (repeat' first | refine And.intro ?_ ?_ | exact xeC | fail) <;> exact xmC) ?_
  repeat' (first | (fail_if_success (with_reducible refine xstp ?_)); first | (with_reducible intro hc; (try simp only [capsP, and_true] at hc); (try exact xfC)) | ((fail_if_success (with_reducible first | refine xgon ?_ | intro _)); (conv => whnf); (fail_if_success (fail_if_success (with_reducible first | refine xstp ?_ | refine xgon ?_ | intro _)))))
  refine LoopK.mk' Unit (fun _ => ⟨[(0, .c (.sl 2 0 1 0 l.length c)), (1, .c (.i .i64 0)), (2, .c (.i .i64 l.length)), (4, .c (.fn 41 []))], [prs 1 D cf, .one .no, .one (ptR true 0 l c)]⟩) (fun _ => 0) ⟨(), [0, 1, 2], ?_⟩ ?_
  · (repeat' first | refine And.intro ?_ ?_ | exact xeC | fail)
    all_goals (exact xmC)
  rintro ⟨⟩
  repeat' (first | (fail_if_success (with_reducible refine xstp ?_)); first | ((with_reducible refine And.intro (fun (hb : _ = true) => ?_) (fun (hb : _ = false) => ?_)) <;> replace hb := xnC hb <;> (try first | exact xfC | exact bff hb (by assumption) | exact bff (by assumption) hb)) | ((with_reducible refine And.intro ?_ ?_); focus exact xoC) | (with_reducible intro hc; (try simp only [capsP, and_true] at hc); (try exact xfC)) | ((fail_if_success (with_reducible first | refine xgon ?_ | intro _)); (conv => whnf); (fail_if_success (fail_if_success (with_reducible first | refine xstp ?_ | refine xgon ?_ | intro _)))))
  refine cH18oH1 (σ := [.whole 0, .name 1, .whole 2]) (nl := []) (cinsert D cf l c (by omega) hk) ?_ (hle := by (repeat' first | refine And.intro ?_ ?_ | exact xeC | fail) <;> exact xmC)
  rintro v h' ⟨rfl, rfl⟩ hcaps
  refine rH18oH0 ?_
  repeat' (first | (fail_if_success (with_reducible refine xstp ?_)); first | ((fail_if_success (with_reducible first | refine xgon ?_ | intro _)); (conv => whnf); (fail_if_success (fail_if_success (with_reducible first | refine xstp ?_ | refine xgon ?_ | intro _)))))
  refine FinK.mk ⟨[0, 1, 2], _, _, ⟨rfl, rfl⟩, ?_⟩
  (repeat' first | refine And.intro ?_ ?_ | exact xeC | fail)
  all_goals (exact xmC)
set_option maxRecDepth 10000 in
set_option maxHeartbeats 8000000 in
theorem csortF (D : Nat → Option Pr) (cf : Nat → Nat) (l : List Nat) (c : Nat) (hl : l.length ≤ 12) (hk : KnB D l) :
    Ctr Try.prog 40 [.c (.sl 2 0 1 0 l.length c), .c (.fn 41 [])] [prs 1 D cf, .one .no, .one (ptR true 0 l c)]
      fun v h => v = .t [] ∧ h = [prs 1 D cf, .one .no, .one (ptR true 0 (srtN l) c)] := by
  refine Ctr.mk' tbv mixed Try.func40 rfl rfl rfl (fun _ _ => by kernel_rfl) (by kernel_rfl) (by rfl) (by rfl) (by (repeat' first | refine And.intro ?_ ?_ | exact xeC | fail) <;> exact xmC) ?_
  repeat' (first | (fail_if_success (with_reducible refine xstp ?_)); first | (with_reducible intro hc; (try simp only [capsP, and_true] at hc); (try exact xfC)) | ((fail_if_success (with_reducible first | refine xgon ?_ | intro _)); (conv => whnf); (fail_if_success (fail_if_success (with_reducible first | refine xstp ?_ | refine xgon ?_ | intro _)))))
  have hw : IntKind.u64.wrap (l.length : Int) = l.length := by rw [IntKind.wrap_u64]; omega
  rw [hw]
  refine cH18oH1 (σ := []) (nl := []) (cLen (l.length : Int) (by omega)) ?_
  rintro v h' ⟨lim, rfl, rfl⟩ hcaps
  refine rH18oH0 ?_
  repeat' (first | (fail_if_success (with_reducible refine xstp ?_)); first | ((fail_if_success (with_reducible first | refine xgon ?_ | intro _)); (conv => whnf); (fail_if_success (fail_if_success (with_reducible first | refine xstp ?_ | refine xgon ?_ | intro _)))))
  refine cH18oH1 (σ := [.whole 0, .name 1, .whole 2]) (nl := []) (cpdq D cf l c lim hl hk) ?_ (hle := by (repeat' first | refine And.intro ?_ ?_ | exact xeC | fail) <;> exact xmC)
  rintro v h' ⟨rfl, rfl⟩ hcaps
  refine rH18oH0 ?_
  repeat' (first | (fail_if_success (with_reducible refine xstp ?_)); first | ((fail_if_success (with_reducible first | refine xgon ?_ | intro _)); (conv => whnf); (fail_if_success (fail_if_success (with_reducible first | refine xstp ?_ | refine xgon ?_ | intro _)))))
  refine FinK.mk ⟨[0, 1, 2], _, _, ⟨rfl, rfl⟩, ?_⟩
  (repeat' first | refine And.intro ?_ ?_ | exact xeC | fail)
  all_goals (exact xmC)
/-! ### sorted -/
def numW (W : Ws) : List Nat := W.M.map fun e => e.2.toNat
theorem srtN_perm {l m : List Nat} (h : l.Perm m) : srtN l = srtN m := by
  refine srtN_of ?_ ((List.mergeSort_perm l _).trans h)
  have := List.pairwise_mergeSort (le := fun x y : Nat => decide (x ≤ y)) (fun a b c => by simp; omega) (fun a b => by simp; omega) l
  exact this.imp fun h => of_decide_eq_true h
theorem srt_num {W : Ws} {Q : List Nat} (hW : WOk W) (hQ : Seen W Q) (hall : ∀ i, i < W.M.length → i ∈ Q) : srtN (Q.map fun i => (W.M.getD i default).2.toNat) = srtN (numW W) := by
  have h1 : Q.Perm (List.range W.M.length) := (List.perm_ext_iff_of_nodup hQ.nd List.nodup_range).2 fun i => ⟨fun h => List.mem_range.2 (hQ.lt i h), fun h => hall i (List.mem_range.1 h)⟩
  have h2 : numW W = (List.range W.M.length).map fun i => (W.M.getD i default).2.toNat := by
    unfold numW
    apply List.ext_getElem (by simp)
    intro i h1 h2
    simp only [List.getElem_map, List.getElem_range]
    rw [getD_at (by simpa using h1)]
  rw [h2]
  exact srtN_perm (h1.map _)
set_option maxRecDepth 10000 in
set_option maxHeartbeats 8000000 in
theorem csorted (id per la : Int) (q : Qos) (W : Ws) (cf : Nat → Nat) (hW : WOk W) (hM : W.M.length ≤ 12) :
    Ctr Try.prog 26 [.c (.p 0 0 0)] [.one (wrc 1 2 id per la q), .one .no, .one (peM 3 W.M W.ck), prs 4 W.D cf, .one .no]
      fun v h => ∃ c, v = .c (.sl 5 0 1 0 (srtN (numW W)).length c) ∧ h = [.one (wrc 1 2 id per la q), .one .no, .one (peM 3 W.M W.ck), prs 4 W.D cf, .one .no, .one (ptR true 3 (srtN (numW W)) c)] := by
  refine Ctr.mk' tbv mixed Try.func26 rfl rfl rfl (fun _ _ => by kernel_rfl) (by kernel_rfl) (by rfl) (by rfl) (by (repeat' first | refine And.intro ?_ ?_ | exact xeC | fail) <;> exact xmC) ?_
  repeat' (first | (fail_if_success (with_reducible refine xstp ?_)); first | (with_reducible intro hc; (try simp only [capsP, and_true] at hc); (try exact xfC)) | ((fail_if_success (with_reducible first | refine xgon ?_ | intro _)); (conv => whnf); (fail_if_success (fail_if_success (with_reducible first | refine xstp ?_ | refine xgon ?_ | intro _)))))
  refine LoopK.mk' ({Q : List Nat // Seen W Q} × Nat)
    (fun ⟨⟨Q, _⟩, c⟩ => ⟨[(3, .c (.sl 6 0 1 0 (Q.map fun i => (W.M.getD i default).2.toNat).length c)), (10, .c (.p 5 0 0))], [.one (wrc 1 2 id per la q), .one .no, .one (peM 3 W.M W.ck), prs 4 W.D cf, .one .no, .one (.iter 2 0 W.ck (Q.map fun q => (W.M.getD q default).1)), .one (ptR true 3 (Q.map fun i => (W.M.getD i default).2.toNat) c)]⟩) (fun Q => W.M.length - Q.1.1.length)
    ⟨⟨⟨[], ⟨by simp, by simp⟩⟩, 0⟩, [0, 1, 2, 3, 4, 5, 99], ?_⟩ ?_
  · (repeat' first | refine And.intro ?_ ?_ | exact xeC | fail)
    all_goals first | (exact xmC) | (intro i hi; exact absurd hi (Nat.not_lt_zero i)) | skip
    all_goals trace_state
  rintro ⟨⟨Q, hQ⟩, c⟩
  have hQl := hQ.le
  have hlm : (Q.map fun i => (W.M.getD i default).2.toNat).length = Q.length := List.length_map _
  repeat' (first | (fail_if_success (with_reducible refine xstp ?_)); first | (with_reducible refine Both.mk ?_ ?_) | ((with_reducible refine And.intro ?_ ?_); focus exact xoC) | (with_reducible intro hc; (try simp only [capsP, and_true] at hc); (try exact xfC)) | ((fail_if_success (with_reducible first | refine xgon ?_ | intro _)); (conv => whnf); (fail_if_success (fail_if_success (with_reducible first | refine xstp ?_ | refine Both.mk ?_ ?_ | refine xgon ?_ | intro _)))))
  · rename_i i hi
    have hQ' := hQ.next hi hc
    have hQl' := hQ'.le
    rw [List.length_append, List.length_singleton] at hQl'
    repeat' (first | (fail_if_success (with_reducible refine xstp ?_)); first | ((with_reducible refine And.intro (fun (hb : _ = true) => ?_) (fun (hb : _ = false) => ?_)) <;> replace hb := xnC hb <;> (try first | exact xfC | exact bff hb (by assumption) | exact bff (by assumption) hb)) | (with_reducible refine Both.mk ?_ ?_) | ((with_reducible refine And.intro ?_ ?_); focus exact xoC) | ((with_reducible refine Or.inl ⟨?_, ?_, ?_⟩); (focus rfl); focus exact xaC) | ((with_reducible refine xwB ?_ ?_); focus exact xaC) | ((with_reducible refine xwC ?_ ?_); focus exact xaC) | ((with_reducible refine xwD ?_ ?_); focus exact xaC) | ((with_reducible refine xwE ?_ ?_); focus exact xaC) | (with_reducible intro hc; (try simp only [capsP, and_true] at hc); (try exact xfC)) | ((fail_if_success (with_reducible first | refine xgon ?_ | intro _)); (conv => whnf); (fail_if_success (fail_if_success (with_reducible first | refine xstp ?_ | refine Both.mk ?_ ?_ | refine xgon ?_ | intro _)))))
    refine ⟨i, hi, List.getLast?_concat, ?_⟩
    repeat' (first | (fail_if_success (with_reducible refine xstp ?_)); first | ((with_reducible refine And.intro ?_ ?_); focus exact xoC) | ((with_reducible refine Or.inl ⟨?_, ?_, ?_⟩); (focus rfl); focus exact xaC) | (with_reducible intro hc; (try simp only [capsP, and_true] at hc); (try exact xfC)) | ((fail_if_success (with_reducible first | refine xgon ?_ | intro _)); (conv => whnf); (fail_if_success (fail_if_success (with_reducible first | refine xstp ?_ | refine xgon ?_ | intro _)))))
    rename_i c2
    refine ⟨⟨⟨Q ++ [i], hQ'⟩, c2⟩, [0, 1, 2, 3, 4, 5, 8], by simp only [List.length_append, List.length_singleton]; omega, ?_⟩
    (repeat' first | refine And.intro ?_ ?_ | exact xeC | fail)
    all_goals first
      | (exact xmC)
      | (rw [List.map_append]; rfl)
      | (simp only [List.map_append, List.length_append, List.length_map, List.map_cons, List.map_nil, List.length_cons, List.length_nil]; done)
      | (simp only [List.map_append, List.length_append, List.length_map, List.map_cons, List.map_nil, List.length_cons, List.length_nil]; omega)
      | (intro a ha
         rw [List.map_append] at ha
         show _ = [C.p 3 ((List.map (fun i => (W.M.getD i default).2.toNat) (Q ++ [i])).getD a default) 0]
         rw [List.map_append]
         exact app_rowG (fun x => [C.p 3 x 0]) (Q.map fun i => (W.M.getD i default).2.toNat) (W.M.getD i default).2.toNat _ rfl a ha)
      | skip
    all_goals trace_state
  · have hall := hQ.all hW hc
    have hke : KnB W.D (Q.map fun i => (W.M.getD i default).2.toNat) := fun x hx => by
      obtain ⟨i, hi, rfl⟩ := List.mem_map.1 hx
      have := hW.a i (hQ.lt i hi)
      exact ⟨this.2, by omega⟩
    have hsr := srt_num hW hQ hall
    refine cH18oH1 (σ := [.whole 3, .name 4, .whole 6]) (nl := []) (csortF W.D cf (Q.map fun i => (W.M.getD i default).2.toNat) c (by omega) hke) ?_ (hle := by (repeat' first | refine And.intro ?_ ?_ | exact xeC | fail) <;> exact xmC)
    rintro v h' ⟨rfl, rfl⟩ hcaps
    rw [hsr]
    refine rH18oH0 ?_
    repeat' (first | (fail_if_success (with_reducible refine xstp ?_)); first | ((fail_if_success (with_reducible first | refine xgon ?_ | intro _)); (conv => whnf); (fail_if_success (fail_if_success (with_reducible first | refine xstp ?_ | refine xgon ?_ | intro _)))))
    have hlen2 : (srtN (numW W)).length = (Q.map fun i => (W.M.getD i default).2.toNat).length := by rw [← hsr]; exact List.length_mergeSort _
    refine FinK.mk ⟨[0, 1, 2, 3, 4, 6], _, _, ⟨c, rfl, rfl⟩, ?_⟩
    (repeat' first | refine And.intro ?_ ?_ | exact xeC | fail)
    all_goals first
      | (exact xmC)
      | exact hlen2
      | exact hlen2.symm
      | exact Nat.le_of_eq hlen2
      | skip
    all_goals trace_state
end Go.Proofs.Ytofcadbfjbefkaa


namespace Go.Proofs.Ytofcadbfjbefkaa
open Go.X
set_option linter.unusedSimpArgs false
set_option linter.unusedVariables false
def polF1 (id : Int) (l : List Smp) (la at' : Int) (D : Nat → Option Pr) (x : Nat) : List Pk := match D x with | some p => polL id l x p la at' | none => []
def polF (id : Int) (l : List Smp) (la at' : Int) (D : Nat → Option Pr) (L : List Nat) : List Pk := L.flatMap (polF1 id l la at' D)
def polD (per la at' : Int) (D : Nat → Option Pr) (L : List Nat) : Nat → Option Pr := fun y => if y ∈ L then (D y).map fun p => polP per p la at' else D y
def polC (cf : Nat → Nat) (L : List Nat) : Nat → Nat := fun y => if y ∈ L then 0 else cf y
def atOk (at' : Int) : Prop := 0 ≤ at' ∧ at' ≤ 1099511627776
instance (a : Int) : Decidable (atOk a) := by unfold atOk; infer_instance
/-- What Poll sends, and leaves. -/
def poL (id : Int) (q : Qos) (at' : Int) (W : Ws) : List Pk := if atOk at' then polF id (stay q W.l at') W.la at' W.D (srtN (numW W)) else []
def poW (per : Int) (q : Qos) (at' : Int) (W : Ws) : Ws := if atOk at' then ⟨stay q W.l at', W.la, W.M, W.ck, polD per W.la at' W.D (srtN (numW W))⟩ else W
abbrev wP (id per : Int) (q : Qos) (W : Ws) (c : Nat) (cf : Nat → Nat) (o : List Pk) (co : Nat) : List Fam :=
  [.one (wrc 1 2 id per W.la q), .one (hist 6 q W.l.length c), .one (peM 4 W.M W.ck), .one .no, prs 7 W.D cf, .one .no, .one (smps true W.l c), rqs W.D cf, .one (pkR true o co)]
theorem polF_succ (id : Int) (l : List Smp) (la at' : Int) (D : Nat → Option Pr) (L : List Nat) {k : Nat} (hk : k < L.length) : polF id l la at' D (L.take (k + 1)) = polF id l la at' D (L.take k) ++ polF1 id l la at' D (L.getD k default) := by
  unfold polF
  rw [← List.take_append_getElem hk, List.flatMap_append, getD_at hk]
  simp
theorem polL_le {id : Int} {l : List Smp} {X : Nat} {p : Pr} {la at' : Int} (hp : PrOk la p) (hla : 0 ≤ la ∧ la ≤ 1000000) : (polL id l X p la at').length ≤ 1100003 := by
  have h1 := polB_le id X p at'
  have h2 := polR_le id l X p at' p.rq.length
  have h3 := polN_le id l X p at' (la - p.se).toNat
  have h4 : (polH id X p la at').length ≤ 1 := by unfold polH; split <;> simp
  have h5 := hp.rq
  have h6 := hp.se
  unfold polL
  simp only [List.length_append]
  omega
theorem polF_le {id : Int} {l : List Smp} {la at' : Int} {D : Nat → Option Pr} (hD : ∀ y p, D y = some p → PrOk la p) (hla : 0 ≤ la ∧ la ≤ 1000000) : ∀ L : List Nat, (polF id l la at' D L).length ≤ 1100003 * L.length
  | [] => Nat.le_refl _
  | x :: L => by
    have ih := polF_le (id := id) (l := l) (at' := at') hD hla L
    have h1 : (polF1 id l la at' D x).length ≤ 1100003 := by
      unfold polF1
      cases h : D x with
      | none => exact Nat.zero_le _
      | some p => exact polL_le (hD x p h) hla
    unfold polF at ih ⊢
    rw [List.flatMap_cons, List.length_append, List.length_cons]
    omega
theorem srt_nd {W : Ws} (hW : WOk W) : (srtN (numW W)).Nodup := by
  refine (List.mergeSort_perm _ _).nodup_iff.2 ?_
  unfold numW
  rw [List.nodup_iff_pairwise_ne, List.pairwise_map, List.pairwise_iff_getElem]
  intro i j hi hj hij e
  have h1 := hW.ne i j hij hj
  have h2 := (hW.a i hi).1
  have h3 := (hW.a j hj).1
  rw [getD_at hi] at h1 h2
  rw [getD_at hj] at h1 h3
  omega
theorem prs_set2 {N N' F F' X : Nat} {σ : List Sg} {D D' : Nat → Option Pr} {cf cf' : Nat → Nat} {c0 c1 : Ck} (hk : ∀ x, x ≠ X → key σ N' F x = (F', x)) (hD : ∀ y, y ≠ X → D' y = D y) (hc : ∀ y, y ≠ X → cf' y = cf y)
    (h1 : c1.leK N ((prC F X X (D' X) (cf' X)).rk σ N') True) (y : Nat) : (if y = X then c1 else if y = X then c0 else prC F' y y (D y) (cf y)).leK N ((prC F y y (D' y) (cf' y)).rk σ N') True := by
  by_cases h : y = X
  · subst h; rw [if_pos rfl]; exact h1
  · rw [if_neg h, if_neg h, hD y h, hc y h]; exact prC_le (hk y h)
theorem stay_le (q : Qos) (l : List Smp) (t : Int) : (stay q l t).length ≤ l.length := List.length_filter_le _ _
theorem rH18oI0 {σ : List Sg} {H h' : List Fam} {v : T} {K : T → List Fam → Prop} {H' : List Fam} {v' : T} {N : Nat} (hk : K v' H') (hN : H.length = N := by (try simp only [↓List.length_cons, ↓List.length_nil, Nat.reduceAdd]) <;> rfl) (h : givesF σ N H σ h' = some H' := by (try simp (maxSteps := 1000000) only [givesF, setF, updF, Fam.zeroth, Fam.rk, Ck.rk, C.rk, E.rk, T.rk, key, List.map_cons, List.map_nil, List.cons_append, List.nil_append, List.length_cons, List.length_nil, Option.map_some, Option.bind_some, Nat.reduceAdd, Nat.zero_add, Nat.add_zero, Nat.add_sub_cancel_left, Int.toNat_natCast, reps, List.all_cons, List.all_nil, C.flat, List.append_eq, Bool.not_true, Bool.and_true, Bool.or_false, Bool.or_self, Bool.not_false, List.append_nil, Bool.and_self, ↓prC_rk, ↓rqO_rk]) <;> rfl) (hv : v.rk σ N = v' := by (try simp only [givesF, setF, updF, Fam.zeroth, Fam.rk, Ck.rk, C.rk, E.rk, T.rk, key, List.map_cons, List.map_nil, List.cons_append, List.nil_append, List.length_cons, List.length_nil, Option.map_some, Option.bind_some, Nat.reduceAdd, Nat.zero_add, Nat.add_zero, Nat.add_sub_cancel_left, Int.toNat_natCast, reps, List.all_cons, List.all_nil, C.flat, List.append_eq, Bool.not_true, Bool.and_true, Bool.or_false, Bool.or_self, Bool.not_false, List.append_nil, Bool.and_self, ↓prC_rk, ↓rqO_rk]) <;> rfl) : RetG σ H h' v K := ret_mk3 hN h hv hk
theorem cH18oI1 {P : Program} {F : Nat} {args : List T} {H : List Fam} {K : T → List Fam → Prop} {σ : List Sg} {nl : List Fam} {args0 : List T} {h0 : List Fam} {Q : T → List Fam → Prop} {H2 H1 : List Fam} {N n : Nat} (hc : Ctr P F args0 h0 Q) (hk : ∀ v h', Q v h' → capsP h' → RetG σ H2 h' v K) (hap : apart σ = true := by rfl) (hnl : nl.all nilB = true := by rfl) (h1 : H ++ nl = H1 := by first | exact List.append_nil _ | ((try simp only [List.cons_append, List.nil_append]) <;> rfl)) (hN : H1.length = N := by (try simp only [↓List.length_cons, ↓List.length_nil, Nat.reduceAdd]) <;> rfl) (hn : H.length = n := by (try simp only [↓List.length_cons, ↓List.length_nil, Nat.reduceAdd]) <;> rfl) (hH : givesF σ N H1 σ h0 = some H2 := by (try simp (maxSteps := 1000000) only [givesF, setF, updF, Fam.zeroth, Fam.rk, Ck.rk, C.rk, E.rk, T.rk, key, List.map_cons, List.map_nil, List.cons_append, List.nil_append, List.length_cons, List.length_nil, Option.map_some, Option.bind_some, Nat.reduceAdd, Nat.zero_add, Nat.add_zero, Nat.add_sub_cancel_left, Int.toNat_natCast, reps, List.all_cons, List.all_nil, C.flat, List.append_eq, Bool.not_true, Bool.and_true, Bool.or_false, Bool.or_self, Bool.not_false, List.append_nil, Bool.and_self, ↓prC_rk, ↓rqO_rk]) <;> rfl) (hle : leS n H1 σ N σ h0 (belsK N (h0.map (Fam.rk σ N)) (argsK n args (args0.map (T.rk σ N)) True)) := by repeat' first | refine And.intro ?_ ?_ | exact xeC | fail) : CallK P F args H K := CallK.mk3 hc hap hnl h1 hN hn hH hle hk
set_option maxRecDepth 10000 in
set_option maxHeartbeats 16000000 in
theorem cpollW (id per : Int) (q : Qos) (W : Ws) (c : Nat) (cf : Nat → Nat) (at' : Int) (hW : WOk W) (hM : W.M.length ≤ 12) (hl : W.l.length ≤ 1000000) (hla : 0 ≤ W.la ∧ W.la ≤ 1000000) (hD : ∀ y p, W.D y = some p → PrOk W.la p) (hper : 1 ≤ per ∧ per ≤ 1099511627776) (hlt : ∀ x ∈ W.l, 0 ≤ x.t ∧ x.t ≤ 1099511627776) (hq : 0 ≤ q.life ∧ q.life ≤ 1099511627776) :
    Ctr Try.prog 9 [.c (.p 0 0 0), .c (.i .i64 at')] (wB id per q W c cf)
      fun v h => ∃ c' cf' co, v = .c (.sl 8 0 11 0 (poL id q at' W).length co) ∧ h = wP id per q (poW per q at' W) c' cf' (poL id q at' W) co := by
  refine Ctr.mk' tbv mixed Try.func9 rfl rfl rfl (fun _ _ => by kernel_rfl) (by kernel_rfl) (by rfl) (by rfl) (by (repeat' first | refine And.intro ?_ ?_ | exact xeC | fail) <;> exact xmC) ?_
  repeat' (first | (fail_if_success (with_reducible refine xstp ?_)); first | ((with_reducible refine And.intro (fun (hb : _ = true) => ?_) (fun (hb : _ = false) => ?_)) <;> replace hb := xnC hb <;> (try first | exact xfC | exact bff hb (by assumption) | exact bff (by assumption) hb)) | (with_reducible intro hc; (try simp only [capsP, and_true] at hc); (try exact xfC)) | ((fail_if_success (with_reducible first | refine xgon ?_ | intro _)); (conv => whnf); (fail_if_success (fail_if_success (with_reducible first | refine xstp ?_ | refine xgon ?_ | intro _)))))
  all_goals try (
    have hat : ¬ atOk at' := by unfold atOk; omega
    have e1 : poL id q at' W = [] := if_neg hat
    have e2 : poW per q at' W = W := if_neg hat
    rw [e1, e2]
    refine FinK.mk ⟨[0, 1, 2, 3, 4, 5, 3, 5, 99], _, _, ⟨c, cf, 0, rfl, rfl⟩, ?_⟩
    (repeat' first | refine And.intro ?_ ?_ | exact xeC | fail)
    all_goals first | (exact xmC) | (intro i hi; exact absurd hi (Nat.not_lt_zero i))
    done)
  have hat : atOk at' := by unfold atOk; omega
  have hat2 : 0 ≤ at' ∧ at' ≤ 1099511627776 := hat
  have hsl := stay_le q W.l at'
  have hol := polF_le (id := id) (l := stay q W.l at') (at' := at') hD hla
  have e1 : poL id q at' W = polF id (stay q W.l at') W.la at' W.D (srtN (numW W)) := if_pos hat
  have e2 : poW per q at' W = ⟨stay q W.l at', W.la, W.M, W.ck, polD per W.la at' W.D (srtN (numW W))⟩ := if_pos hat
  rw [e1, e2]
  refine cH18oI1 (σ := [.whole 1, .whole 3]) (nl := []) (iexpire q W.l c at' hl hlt hq) ?_
  rintro v h' ⟨cg, cs, rfl, rfl⟩ hcaps
  refine rH18oI0 ?_
  repeat' (first | (fail_if_success (with_reducible refine xstp ?_)); first | ((fail_if_success (with_reducible first | refine xgon ?_ | intro _)); (conv => whnf); (fail_if_success (fail_if_success (with_reducible first | refine xstp ?_ | refine xgon ?_ | intro _)))))
  refine cH18oI1 (σ := [.whole 0, .name 1, .whole 2, .whole 4, .name 5]) (nl := []) (csorted id per W.la q W cf hW hM) ?_ (hle := by (repeat' first | refine And.intro ?_ ?_ | exact xeC | fail) <;> exact xmC)
  rintro v h' ⟨cp, rfl, rfl⟩ hcaps
  have hLl : (srtN (numW W)).length ≤ 12 := by unfold srtN numW; rw [List.length_mergeSort, List.length_map]; exact hM
  have hLm : ∀ x ∈ srtN (numW W), ∃ p, W.D x = some p := fun x hx => by
    have hx := List.mem_mergeSort.1 hx
    obtain ⟨e, he, rfl⟩ := List.mem_map.1 hx
    obtain ⟨i, hi, rfl⟩ := List.mem_iff_getElem.1 he
    have := (hW.a i hi).2
    rwa [getD_at hi] at this
  have hLn : (srtN (numW W)).Nodup := srt_nd hW
  generalize srtN (numW W) = L at *
  refine rH18oI0 ?_
  repeat' (first | (fail_if_success (with_reducible refine xstp ?_)); first | ((fail_if_success (with_reducible first | refine xgon ?_ | intro _)); (conv => whnf); (fail_if_success (fail_if_success (with_reducible first | refine xstp ?_ | refine xgon ?_ | intro _)))))
  refine LoopK.mk' ({k : Nat // k ≤ L.length} × Nat)
    (fun ⟨⟨k, _⟩, co⟩ => ⟨[(0, .c (.p 0 0 0)), (1, .c (.i .i64 at')), (5, .c (.sl 9 0 11 0 (polF id (stay q W.l at') W.la at' W.D (L.take k)).length co)), (32, .c (.sl 7 0 1 0 L.length cp)), (33, .c (.i .i64 L.length)), (34, .c (.i .i64 k))],
      [.one (wrc 1 2 id per W.la q), .one (hist 6 q (stay q W.l at').length cs), .one (peM 4 W.M W.ck), .one .no, prs 8 (polD per W.la at' W.D (L.take k)) (polC cf (L.take k)), .one .no, .one (smps true (stay q W.l at') cs), .one (ptR true 4 L cp), rqs (polD per W.la at' W.D (L.take k)) (polC cf (L.take k)), .one (pkR true (polF id (stay q W.l at') W.la at' W.D (L.take k)) co)]⟩)
    (fun k => L.length - k.1.1)
    ⟨⟨⟨0, Nat.zero_le _⟩, 0⟩, [0, 1, 2, 3, 4, 5, 6, 8, 5, 99], ?_⟩ ?_
  · (repeat' first | refine And.intro ?_ ?_ | exact xeC | fail)
    all_goals first
      | (exact xmC)
      | (intro i hi; exact absurd hi (Nat.not_lt_zero i))
      | exact fun x => prC_le rfl
      | exact fun x => rqO_le
      | skip
    all_goals trace_state
  rintro ⟨⟨k, hk⟩, co⟩
  have hok := hol (L.take k)
  rw [List.length_take] at hok
  repeat' (first | (fail_if_success (with_reducible refine xstp ?_)); first | ((with_reducible refine And.intro (fun (hb : _ = true) => ?_) (fun (hb : _ = false) => ?_)) <;> replace hb := xnC hb <;> (try first | exact xfC | exact bff hb (by assumption) | exact bff (by assumption) hb)) | ((with_reducible refine And.intro ?_ ?_); focus exact xoC) | (with_reducible intro hc; (try simp only [capsP, and_true] at hc); (try exact xfC)) | ((fail_if_success (with_reducible first | refine xgon ?_ | intro _)); (conv => whnf); (fail_if_success (fail_if_success (with_reducible first | refine xstp ?_ | refine xgon ?_ | intro _)))))
  rotate_left 1
  · have ek : L.take k = L := List.take_of_length_le (by omega)
    rw [ek]
    refine FinK.mk ⟨[0, 1, 2, 3, 4, 5, 6, 8, 9], _, _, ⟨cs, polC cf L, co, rfl, rfl⟩, ?_⟩
    (repeat' first | refine And.intro ?_ ?_ | exact xeC | fail)
    all_goals first
      | (exact xmC)
      | exact fun x => prC_le rfl
      | exact fun x => rqO_le
      | exact fun x => prC_bel rfl
      | skip
    all_goals trace_state
  have hkl : k < L.length := by omega
  rw [show 0 + ((k : Nat) : Int).toNat = k by omega]
  have hxL : L.getD k default ∈ L := by rw [getD_at hkl]; exact List.getElem_mem _
  have hxn : L.getD k default ∉ L.take k := fun h => by
    obtain ⟨j, hj, e⟩ := List.mem_iff_getElem.1 h
    rw [List.length_take] at hj
    rw [List.getElem_take, getD_at hkl] at e
    have := (List.getElem_inj hLn).1 e
    omega
  have hFs := polF_succ id (stay q W.l at') W.la at' W.D L hkl
  obtain ⟨p, hp⟩ := hLm _ hxL
  have hts : L.take (k + 1) = L.take k ++ [L.getD k default] := by rw [← List.take_append_getElem hkl, getD_at hkl]
  generalize L.getD k default = x at *
  have hcell : prC 8 x x (polD per W.la at' W.D (L.take k) x) (polC cf (L.take k) x) = .cells true (encPr 8 x x p (cf x)) := by
    unfold polD polC; rw [if_neg hxn, if_neg hxn, hp]; rfl
  have hrow : rqO (polD per W.la at' W.D (L.take k) x) (polC cf (L.take k) x) = ints true p.rq (cf x) := by
    unfold polD polC; rw [if_neg hxn, if_neg hxn, hp]; rfl
  have hF1 : polF1 id (stay q W.l at') W.la at' W.D x = polL id (stay q W.l at') x p W.la at' := by unfold polF1; rw [hp]
  have hll := polL_le (id := id) (l := stay q W.l at') (X := x) (at' := at') (hD x p hp) hla
  rw [hF1] at hFs
  refine cH18oI1 (σ := [.whole 0, .whole 1, .name 2, .whole 6, .mem 4 (x), .mem 8 (x)]) (nl := []) (cpoll1 id per W.la q (stay q W.l at') cs x p (cf x) at' (by omega) hla (hD x p hp) hat2 hper) ?_ (hle := by (repeat' first | refine And.intro ?_ ?_ | exact xeC | fail) <;> (refine ManyK.mk ⟨_, hcell, ?_⟩ <;> (repeat' first | refine And.intro ?_ ?_ | exact xeC | fail) <;> refine ManyK.mk ⟨_, hrow, ?_⟩ <;> (repeat' first | refine And.intro ?_ ?_ | exact xeC | fail)))
  rintro v h' ⟨cr, rfl, rfl⟩ hcaps
  generalize polL id (stay q W.l at') x p W.la at' = y at *
  refine ret_mk3 (by (try simp only [↓List.length_cons, ↓List.length_nil, Nat.reduceAdd]); rfl) (by (try simp (maxSteps := 1000000) only [givesF, setF, updF, Fam.zeroth, Fam.rk, Ck.rk, C.rk, E.rk, T.rk, key, List.map_cons, List.map_nil, List.cons_append, List.nil_append, List.length_cons, List.length_nil, Option.map_some, Option.bind_some, Nat.reduceAdd, Nat.zero_add, Nat.add_zero, Nat.add_sub_cancel_left, Int.toNat_natCast, reps, List.all_cons, List.all_nil, C.flat, List.append_eq, Bool.not_true, Bool.and_true, Bool.or_false, Bool.or_self, Bool.not_false, List.append_nil, Bool.and_self, ↓prC_rk, ↓rqO_rk, encPr]); rfl) (by (try simp only [givesF, setF, updF, Fam.zeroth, Fam.rk, Ck.rk, C.rk, E.rk, T.rk, key, List.map_cons, List.map_nil, List.cons_append, List.nil_append, List.length_cons, List.length_nil, Option.map_some, Option.bind_some, Nat.reduceAdd, Nat.zero_add, Nat.add_zero, Nat.add_sub_cancel_left, Int.toNat_natCast, reps, List.all_cons, List.all_nil, C.flat, List.append_eq, Bool.not_true, Bool.and_true, Bool.or_false, Bool.or_self, Bool.not_false, List.append_nil, Bool.and_self, ↓prC_rk, ↓rqO_rk, encPr]); rfl) ?_
  repeat' (first | (fail_if_success (with_reducible refine xstp ?_)); first | ((with_reducible refine And.intro ?_ ?_); focus exact xoC) | ((with_reducible refine Or.inl ⟨?_, ?_, ?_⟩); (focus rfl); focus exact xaC) | (with_reducible intro hc; (try simp only [capsP, and_true] at hc); (try exact xfC)) | ((fail_if_success (with_reducible first | refine xgon ?_ | intro _)); (conv => whnf); (fail_if_success (fail_if_success (with_reducible first | refine xstp ?_ | refine xgon ?_ | intro _)))))
  rename_i c3
  have hDn : ∀ y, y ≠ x → polD per W.la at' W.D (L.take k ++ [x]) y = polD per W.la at' W.D (L.take k) y := fun y hy => by
    unfold polD; simp [hy]
  have hCn : ∀ y, y ≠ x → polC cf (L.take k ++ [x]) y = polC cf (L.take k) y := fun y hy => by
    unfold polC; simp [hy]
  have hDx : polD per W.la at' W.D (L.take k ++ [x]) x = some (polP per p W.la at') := by unfold polD; simp [hp]
  have hCx : polC cf (L.take k ++ [x]) x = 0 := by unfold polC; simp
  have hki : ∀ y N, key [0, 1, 2, 3, 4, 5, 6, 7, .adopt 8 x 11, 12] N 8 y = (if y = x then 11 else 8, if y = x then 0 else y) := fun y N => rfl
  refine ⟨⟨⟨k + 1, by omega⟩, c3⟩, [0, 1, 2, 3, 4, 5, 6, 7, .adopt 8 x 11, 12], by simp only; omega, ?_⟩
  rw [hts] at hFs
  simp only [hts, hFs]
  (repeat' first | refine And.intro ?_ ?_ | exact xeC | fail)
  all_goals first
    | (exact xmC)
    | (simp only [List.length_append]; done)
    | (simp only [List.length_append]; exact Nat.le_refl _)
    | (intro i hi; exact app_rowL (encP .nils) (polF id (stay q W.l at') W.la at' W.D (L.take k)) y 0 _ (fun j hj => by rw [Nat.zero_add]; rfl) i hi)
    | exact fun y => prs_set2 (fun y hy => by rw [hki, if_neg hy, if_neg hy]) hDn hCn (prC_cells hDx (by rw [hki, if_pos rfl, if_pos rfl, hCx]; rfl)) y
    | (intro y hy
       show Ck.leK _ (if y = x then _ else if y = x then _ else _) (Ck.rk _ _ (rqO (polD per W.la at' W.D (L.take k ++ [x]) y) (polC cf (L.take k ++ [x]) y))) True
       rw [if_neg hy, if_neg hy, hDn y hy, hCn y hy]
       exact rqO_le)
    | skip
  refine leK_cong (q'' := ints true [] 0) (by show Ck.rk _ _ (rqO (polD per W.la at' W.D (L.take k ++ [x]) x) (polC cf (L.take k ++ [x]) x)) = _; rw [hDx, hCx]; rfl) ?_
  (repeat' first | refine And.intro ?_ ?_ | exact xeC | fail)
  all_goals first
    | (exact xmC)
    | (simp only [List.length_append]; done)
    | (simp only [List.length_append]; exact Nat.le_refl _)
    | (intro i hi; exact app_rowL (encP .nils) (polF id (stay q W.l at') W.la at' W.D (L.take k)) y 0 _ (fun j hj => by rw [Nat.zero_add]; rfl) i hi)
    | (intro i hi; exact absurd hi (Nat.not_lt_zero i))
    | skip
end Go.Proofs.Ytofcadbfjbefkaa


namespace Go.Proofs.Ytofcadbfjbefkaa
open Go.X
set_option linter.unusedSimpArgs false
set_option linter.unusedVariables false
/-- A writer with the one reader 3. -/
def oneW (l : List Smp) (la : Int) (p : Pr) : Ws := ⟨l, la, [(0, 3)], 1, fun y => if y = 3 then some p else none⟩
def noW (l : List Smp) (la : Int) : Ws := ⟨l, la, [], 0, fun _ => none⟩
theorem oneW_ok (l : List Smp) (la : Int) (p : Pr) : WOk (oneW l la p) := by
  refine ⟨fun i hi => ?_, fun x p' h => ?_, fun a b hab hb => ?_, fun a b hab hb => ?_, fun i hi => ?_⟩
  · have : i < 1 := hi
    obtain rfl : i = 0 := by omega
    exact ⟨⟨show (1 : Int) ≤ 3 by decide, show (3 : Int) ≤ 1073741824 by decide⟩, p, rfl⟩
  · have h : (if x = 3 then some p else none) = some p' := h
    split at h
    · rename_i e; subst e; exact ⟨0, Nat.one_pos, rfl, by decide⟩
    · cases h
  · have : b < 1 := hb; omega
  · have : b < 1 := hb; omega
  · have : i < 1 := hi
    obtain rfl : i = 0 := by omega
    exact Nat.one_pos
theorem oneW_D {l : List Smp} {la : Int} {p : Pr} {P : Pr → Prop} (h : P p) : ∀ y p', (oneW l la p).D y = some p' → P p' := fun y p' e => by
  have e : (if y = 3 then some p else none) = some p' := e
  split at e
  · rw [← Option.some.inj e]; exact h
  · cases e
theorem one_add (l : List Smp) (la : Int) (p : Pr) : addPW (noW l la) 3 p = oneW l la p := by
  unfold addPW noW oneW
  rfl
theorem one_set (l : List Smp) (la : Int) (p p' : Pr) : setP (oneW l la p) 3 p' = oneW l la p' := by
  unfold setP oneW
  simp only [Ws.mk.injEq, true_and]
  funext y
  show (if y = 3 then some p' else if y = 3 then some p else none) = _
  split <;> rfl
theorem one_srt (l : List Smp) (la : Int) (p : Pr) : srtN (numW (oneW l la p)) = [3] := by
  show List.mergeSort [3] _ = [3]
  exact List.mergeSort_singleton _
theorem one_poL {id : Int} {q : Qos} {at' : Int} {l : List Smp} {la : Int} {p : Pr} (h : atOk at') : poL id q at' (oneW l la p) = polL id (stay q l at') 3 p la at' := by
  unfold poL
  rw [if_pos h, one_srt]
  show (polF1 _ _ _ _ _ 3 ++ []) = _
  rw [List.append_nil]
  rfl
theorem one_poW {per : Int} {q : Qos} {at' : Int} {l : List Smp} {la : Int} {p : Pr} (h : atOk at') : poW per q at' (oneW l la p) = oneW (stay q l at') la (polP per p la at') := by
  unfold poW
  rw [if_pos h, one_srt]
  unfold oneW polD
  simp only [Ws.mk.injEq, true_and]
  funext y
  by_cases h3 : y = 3
  · subst h3; simp
  · simp [h3]
/-! ### Nobody -/
/-! ### awake -/
def awQ : Qos := ⟨true, false, false, 1, 0, 0, 0⟩
def awS : Smp := ⟨7, 1, 5, ⟨#[97]⟩⟩
def awP : Pr := ⟨2, true, 1, 0, 0, [], false, 0⟩
theorem aw_ma : maE awQ 3 2 0 awQ W0 = 0 ∧ maW awQ 3 2 0 awQ W0 = oneW [] 0 awP := ⟨rfl, by rw [show maW awQ 3 2 0 awQ W0 = addPW (noW [] 0) 3 awP from rfl, one_add]⟩
theorem aw_wr : wrE 7 awQ (oneW [] 0 awP) 5 ⟨#[97]⟩ = 0 ∧ wrN 7 awQ (oneW [] 0 awP) 5 ⟨#[97]⟩ = 1 ∧ wrW 7 awQ (oneW [] 0 awP) 5 ⟨#[97]⟩ = oneW [awS] 1 awP := ⟨by decide, by decide, rfl⟩
theorem aw_po : poL 7 awQ 5 (oneW [awS] 1 awP) = [datK 7 3 awP 1 awS, hbK 7 3 awP 1 5] := by
  rw [one_poL (by decide), (exp_zero (q := awQ) rfl [awS] 5).2]
  unfold polL
  rw [show polB 7 3 awP 5 = [] from rfl, show polR 7 [awS] 3 awP 5 awP.rq.length = [] by unfold polR; rw [show awP.rq.length = 0 from rfl, List.take_zero]; rfl]
  rfl
theorem rH18oJ0 {σ : List Sg} {H h' : List Fam} {v : T} {K : T → List Fam → Prop} {H' : List Fam} {v' : T} {N : Nat} (hk : K v' H') (hN : H.length = N := by (try simp only [↓List.length_cons, ↓List.length_nil, Nat.reduceAdd]) <;> rfl) (h : givesF σ N H σ h' = some H' := by (try simp (maxSteps := 1000000) only [givesF, setF, updF, Fam.zeroth, Fam.rk, Ck.rk, C.rk, E.rk, T.rk, key, List.map_cons, List.map_nil, List.cons_append, List.nil_append, List.length_cons, List.length_nil, Option.map_some, Option.bind_some, Nat.reduceAdd, Nat.zero_add, Nat.add_zero, Nat.add_sub_cancel_left, Int.toNat_natCast, reps, List.all_cons, List.all_nil, C.flat, List.append_eq, Bool.not_true, Bool.and_true, Bool.or_false, Bool.or_self, Bool.not_false, List.append_nil, Bool.and_self, ↓prC_rk, ↓rqO_rk, encQ]) <;> rfl) (hv : v.rk σ N = v' := by (try simp only [givesF, setF, updF, Fam.zeroth, Fam.rk, Ck.rk, C.rk, E.rk, T.rk, key, List.map_cons, List.map_nil, List.cons_append, List.nil_append, List.length_cons, List.length_nil, Option.map_some, Option.bind_some, Nat.reduceAdd, Nat.zero_add, Nat.add_zero, Nat.add_sub_cancel_left, Int.toNat_natCast, reps, List.all_cons, List.all_nil, C.flat, List.append_eq, Bool.not_true, Bool.and_true, Bool.or_false, Bool.or_self, Bool.not_false, List.append_nil, Bool.and_self, ↓prC_rk, ↓rqO_rk, encQ]) <;> rfl) : RetG σ H h' v K := ret_mk3 hN h hv hk
theorem cH18oJ1 {P : Program} {F : Nat} {args : List T} {H : List Fam} {K : T → List Fam → Prop} {σ : List Sg} {nl : List Fam} {args0 : List T} {h0 : List Fam} {Q : T → List Fam → Prop} {H2 H1 : List Fam} {N n : Nat} (hc : Ctr P F args0 h0 Q) (hk : ∀ v h', Q v h' → capsP h' → RetG σ H2 h' v K) (hap : apart σ = true := by rfl) (hnl : nl.all nilB = true := by rfl) (h1 : H ++ nl = H1 := by first | exact List.append_nil _ | ((try simp only [List.cons_append, List.nil_append]) <;> rfl)) (hN : H1.length = N := by (try simp only [↓List.length_cons, ↓List.length_nil, Nat.reduceAdd]) <;> rfl) (hn : H.length = n := by (try simp only [↓List.length_cons, ↓List.length_nil, Nat.reduceAdd]) <;> rfl) (hH : givesF σ N H1 σ h0 = some H2 := by (try simp (maxSteps := 1000000) only [givesF, setF, updF, Fam.zeroth, Fam.rk, Ck.rk, C.rk, E.rk, T.rk, key, List.map_cons, List.map_nil, List.cons_append, List.nil_append, List.length_cons, List.length_nil, Option.map_some, Option.bind_some, Nat.reduceAdd, Nat.zero_add, Nat.add_zero, Nat.add_sub_cancel_left, Int.toNat_natCast, reps, List.all_cons, List.all_nil, C.flat, List.append_eq, Bool.not_true, Bool.and_true, Bool.or_false, Bool.or_self, Bool.not_false, List.append_nil, Bool.and_self, ↓prC_rk, ↓rqO_rk]) <;> rfl) (hle : leS n H1 σ N σ h0 (belsK N (h0.map (Fam.rk σ N)) (argsK n args (args0.map (T.rk σ N)) True)) := by repeat' first | refine And.intro ?_ ?_ | exact xeC | fail) : CallK P F args H K := CallK.mk3 hc hap hnl h1 hN hn hH hle hk
set_option maxRecDepth 20000 in
set_option maxHeartbeats 8000000 in
theorem cawake : Ctr Try.prog 10 [] [] fun v h => v = .c .tt ∧ h = [] := by
  refine Ctr.mk' tbv mixed Try.func10 rfl rfl rfl (fun _ _ => by kernel_rfl) (by kernel_rfl) (by rfl) (by rfl) (by (repeat' first | refine And.intro ?_ ?_ | exact xeC | fail)) ?_
  repeat' (first | (fail_if_success (with_reducible refine xstp ?_)); first | (with_reducible intro hc; (try simp only [capsP, and_true] at hc); (try exact xfC)) | ((fail_if_success (with_reducible first | refine xgon ?_ | intro _)); (conv => whnf); (fail_if_success (fail_if_success (with_reducible first | refine xstp ?_ | refine xgon ?_ | intro _)))))
  refine cH18oJ1 (σ := []) (nl := []) (cnewW 7 10 awQ) ?_
  rintro v h' (⟨hq, rfl, rfl⟩ | ⟨hq, rfl, rfl⟩) hcaps
  rotate_left 1
  · exact absurd (by decide) hq
  refine rH18oJ0 ?_
  repeat' (first | (fail_if_success (with_reducible refine xstp ?_)); first | ((with_reducible refine And.intro (fun (hb : _ = true) => ?_) (fun (hb : _ = false) => ?_)) <;> replace hb := xnC hb <;> (try first | exact xfC | exact bff hb (by assumption) | exact bff (by assumption) hb)) | ((fail_if_success (with_reducible first | refine xgon ?_ | intro _)); (conv => whnf); (fail_if_success (fail_if_success (with_reducible first | refine xstp ?_ | refine xgon ?_ | intro _)))))
  refine cH18oJ1 (σ := [.whole 0, .whole 1, .whole 2, .whole 3, .whole 4, .whole 5]) (nl := []) (cmatchW 7 10 awQ W0 0 (fun _ => 0) 3 2 0 awQ W0_ok (by decide) (by decide) (by intro s hs; cases hs)) ?_ (hle := by (repeat' first | refine And.intro ?_ ?_ | exact xeC | fail) <;> exact xmC)
  rw [aw_ma.1, aw_ma.2]
  rintro v h' ⟨cf1, rfl, rfl⟩ hcaps
  refine rH18oJ0 ?_
  repeat' (first | (fail_if_success (with_reducible refine xstp ?_)); first | ((with_reducible refine And.intro (fun (hb : _ = true) => ?_) (fun (hb : _ = false) => ?_)) <;> replace hb := xnC hb <;> (try first | exact xfC | exact bff hb (by assumption) | exact bff (by assumption) hb)) | ((fail_if_success (with_reducible first | refine xgon ?_ | intro _)); (conv => whnf); (fail_if_success (fail_if_success (with_reducible first | refine xstp ?_ | refine xgon ?_ | intro _)))))
  refine cH18oJ1 (σ := [.whole 0, .whole 1, .whole 2, .whole 3, .whole 6, .whole 7]) (nl := []) (cwrite 7 10 awQ (oneW [] 0 awP) 0 cf1 5 ⟨#[97]⟩ (oneW_ok _ _ _) (by decide) (by decide)) ?_ (hle := by (repeat' first | refine And.intro ?_ ?_ | exact xeC | fail) <;> exact xmC)
  rw [aw_wr.1, aw_wr.2.1, aw_wr.2.2]
  rintro v h' ⟨c2, rfl, rfl⟩ hcaps
  refine rH18oJ0 ?_
  repeat' (first | (fail_if_success (with_reducible refine xstp ?_)); first | ((fail_if_success (with_reducible first | refine xgon ?_ | intro _)); (conv => whnf); (fail_if_success (fail_if_success (with_reducible first | refine xstp ?_ | refine xgon ?_ | intro _)))))
  refine cH18oJ1 (σ := [.whole 0, .whole 1, .whole 2, .whole 8, .whole 6, .whole 7]) (nl := []) (cpollW 7 10 awQ (oneW [awS] 1 awP) c2 cf1 5 (oneW_ok _ _ _) (by decide) (by decide) (by decide) (oneW_D ⟨by decide, by decide, by decide, by decide⟩) (by decide) (by intro s hs; rw [List.mem_singleton.1 hs]; decide) (by decide)) ?_ (hle := by (repeat' first | refine And.intro ?_ ?_ | exact xeC | fail) <;> exact xmC)
  rw [aw_po, one_poW (by decide)]
  rintro v h' ⟨c3, cf3, co, rfl, rfl⟩ hcaps
  refine rH18oJ0 ?_
  repeat' (first | (fail_if_success (with_reducible refine xstp ?_)); first | ((with_reducible refine And.intro (fun (hb : _ = true) => ?_) (fun (hb : _ = false) => ?_)) <;> replace hb := xnC hb <;> (try first | exact xfC | exact bff hb (by assumption) | exact bff (by assumption) hb | (exfalso; simp only [List.length_nil] at hb; omega) | (exfalso; revert hb; decide) | (exfalso; simp at hb; done))) | (with_reducible refine Both.mk ?_ ?_) | ((with_reducible refine And.intro ?_ ?_); focus exact xoC) | ((with_reducible refine Or.inl ⟨?_, ?_, ?_⟩); (focus rfl); focus exact xaC) | ((with_reducible refine xwB ?_ ?_); focus exact xaC) | ((with_reducible refine xwC ?_ ?_); focus exact xaC) | ((with_reducible refine xwD ?_ ?_); focus exact xaC) | ((with_reducible refine xwE ?_ ?_); focus exact xaC) | (with_reducible intro hc; (try simp only [capsP, and_true] at hc); (try exact xfC)) | ((fail_if_success (with_reducible first | refine xgon ?_ | intro _)); (conv => whnf); (fail_if_success (fail_if_success (with_reducible first | refine xstp ?_ | refine Both.mk ?_ ?_ | refine xgon ?_ | intro _)))))
  refine FinK.mk ⟨[], _, _, ⟨rfl, rfl⟩, ?_⟩
  (repeat' first | refine And.intro ?_ ?_ | exact xeC | fail)
  all_goals exact decide_eq_true rfl
end Go.Proofs.Ytofcadbfjbefkaa


namespace Go.Proofs.Ytofcadbfjbefkaa
open Go.X
set_option linter.unusedVariables false
theorem WOk.congr {W W' : Ws} (h : WOk W) (hM : W'.M = W.M) (hck : W'.ck = W.ck) (hD : ∀ x, (W'.D x).isSome = (W.D x).isSome) : WOk W' := by
  refine ⟨fun i hi => ?_, fun x p hx => ?_, fun a b hab hb => ?_, fun a b hab hb => ?_, fun i hi => ?_⟩
  · rw [hM] at hi ⊢
    obtain ⟨h1, p, h2⟩ := h.a i hi
    refine ⟨h1, Option.isSome_iff_exists.1 ?_⟩
    rw [hD, h2]; rfl
  · have : (W.D x).isSome = true := by rw [← hD, hx]; rfl
    obtain ⟨p', hp'⟩ := Option.isSome_iff_exists.1 this
    rw [hM]
    exact h.b x p' hp'
  · rw [hM] at hb ⊢; exact h.ne a b hab hb
  · rw [hM] at hb ⊢; exact h.st a b hab hb
  · rw [hM] at hi ⊢; rw [hck]; exact h.lt i hi
/-! ### As many readers as there may be -/
end Go.Proofs.Ytofcadbfjbefkaa


namespace Go.Proofs.Ytofcadbfjbefkaa
open Go.X
set_option linter.unusedVariables false
def heldL (f : Nat → Smp) (m D : Nat) : List Smp := (List.range (min m D)).map fun i => f (m - min m D + i)
def nice (f : Nat → Smp) : Prop := ∀ i, (f i).w = 7 ∧ (f i).q = (i : Int) + 1 ∧ 0 ≤ (f i).t ∧ (f i).t ≤ 1099511627776 ∧ (f i).p.size ≤ 2000
theorem held_len (f : Nat → Smp) (m D : Nat) : (heldL f m D).length = min m D := by unfold heldL; rw [List.length_map, List.length_range]
theorem held_at {f : Nat → Smp} {m D i : Nat} (h : i < min m D) : (heldL f m D).getD i default = f (m - min m D + i) := by
  have h2 : i < (heldL f m D).length := by rw [held_len]; exact h
  rw [getD_at h2]
  have : (heldL f m D)[i]? = some (f (m - min m D + i)) := by
    unfold heldL
    rw [List.getElem?_map, List.getElem?_range h]
    rfl
  rw [List.getElem?_eq_getElem h2] at this
  exact Option.some.inj this
theorem held_mem {f : Nat → Smp} {m D : Nat} {s : Smp} (h : s ∈ heldL f m D) : ∃ j, j < m ∧ m - min m D ≤ j ∧ s = f j := by
  unfold heldL at h
  obtain ⟨i, hi, rfl⟩ := List.mem_map.1 h
  have := List.mem_range.1 hi
  exact ⟨m - min m D + i, by omega, by omega, rfl⟩
theorem held_snoc (f : Nat → Smp) {m D : Nat} (h : m < D) : heldL f m D ++ [f m] = heldL f (m + 1) D := by
  unfold heldL
  rw [show min m D = m by omega, show min (m + 1) D = m + 1 by omega, List.range_succ, List.map_append, Nat.sub_self, Nat.sub_self]
  simp
theorem held_roll (f : Nat → Smp) {m D : Nat} (h : D ≤ m) (hD : 1 ≤ D) : (heldL f m D).eraseIdx 0 ++ [f m] = heldL f (m + 1) D := by
  obtain ⟨d, rfl⟩ : ∃ d, D = d + 1 := ⟨D - 1, by omega⟩
  unfold heldL
  rw [show min m (d + 1) = d + 1 by omega, show min (m + 1) (d + 1) = d + 1 by omega]
  conv => lhs; rw [List.range_succ_eq_map]
  conv => rhs; rw [List.range_succ]
  rw [List.map_cons, List.eraseIdx_cons_zero, List.map_map, List.map_append, List.map_singleton, show m + 1 - (d + 1) + d = m by omega]
  congr 1
  refine List.map_congr_left fun i hi => ?_
  show f _ = f _
  congr 1
  omega
theorem held_w {f : Nat → Smp} (hf : nice f) {m D : Nat} {s : Smp} (h : s ∈ heldL f m D) : s.w = 7 ∧ 1 ≤ s.q ∧ s.q ≤ m := by
  obtain ⟨j, h1, _, rfl⟩ := held_mem h
  obtain ⟨h2, h3, _⟩ := hf j
  exact ⟨h2, by omega, by omega⟩
theorem held_t {f : Nat → Smp} (hf : nice f) {m D : Nat} : ∀ s ∈ heldL f m D, 0 ≤ s.t ∧ s.t ≤ 1099511627776 := fun s h => by
  obtain ⟨j, h1, _, rfl⟩ := held_mem h
  exact ⟨(hf j).2.2.1, (hf j).2.2.2.1⟩
theorem held_cnt {f : Nat → Smp} (hf : nice f) (m D : Nat) : cnt (heldL f m D) 7 = min m D := by
  unfold cnt
  rw [List.filter_eq_self.2 (fun s hs => by rw [(held_w hf hs).1]; rfl), held_len]
theorem held_fst {f : Nat → Smp} (hf : nice f) {m D : Nat} (h : 0 < min m D) : fstI (heldL f m D) 7 = 0 := by
  cases e : heldL f m D with
  | nil => have := held_len f m D; rw [e] at this; rw [← this] at h; exact absurd h (Nat.lt_irrefl 0)
  | cons a t =>
    have ha : a.w = 7 := (held_w hf (by rw [e]; exact List.mem_cons_self)).1
    unfold fstI
    rw [List.findIdx?_cons, ha]
    rfl
theorem held_old {f : Nat → Smp} (hf : nice f) {q : Qos} {m D : Nat} (hk : q.keep = false) (hd : q.depth = D) (hD : 1 ≤ D) : oldI q (heldL f m D) 7 = if m < D then -1 else 0 := by
  unfold oldI
  rw [if_neg (by rw [hk]; decide), held_cnt hf, hd]
  by_cases h : m < D
  · rw [if_pos (by omega), if_pos h]
  · rw [if_neg (by omega), if_neg h, held_fst hf (by omega)]
theorem held_find {f : Nat → Smp} (hf : nice f) {m D : Nat} (j : Nat) (h : m ≤ j ∨ j < m - min m D) : findI (heldL f m D) 7 ((j : Int) + 1) = -1 := by
  refine findI_none fun i hi he => ?_
  rw [held_len] at hi
  rw [held_at hi] at he
  have := (hf (m - min m D + i)).2.1
  omega
theorem held_get {f : Nat → Smp} (hf : nice f) {m D : Nat} (j : Nat) : getS (heldL f m D) 7 ((j : Int) + 1) = if m - min m D ≤ j ∧ j < m then (f j, true) else (default, false) := by
  split
  · rename_i h
    have hi : j - (m - min m D) < min m D := by omega
    have e : (heldL f m D).getD (j - (m - min m D)) default = f j := by rw [held_at hi]; congr 1; omega
    have hl : j - (m - min m D) < (heldL f m D).length := by rw [held_len]; exact hi
    have h2 : findI (heldL f m D) 7 ((j : Int) + 1) = ((j - (m - min m D) : Nat) : Int) := by
      refine findI_some hl (by rw [e]; exact (hf j).1) (by rw [e]; exact (hf j).2.1) fun i hi2 he => ?_
      rw [held_at (by omega)] at he
      have := (hf (m - min m D + i)).2.1
      omega
    rcases find_cases (heldL f m D) 7 ((j : Int) + 1) with ⟨k, hk, e1, e2⟩ | ⟨e1, _⟩
    · rw [e2]
      have : k = j - (m - min m D) := by omega
      rw [this, e]
    · omega
  · rename_i h
    have h2 := held_find hf (m := m) (D := D) j (by omega)
    rcases find_cases (heldL f m D) 7 ((j : Int) + 1) with ⟨k, hk, e1, e2⟩ | ⟨_, e2⟩
    · omega
    · exact e2
/-! ### Write -/
theorem held_addE {f : Nat → Smp} (hf : nice f) {q : Qos} {m D : Nat} (hk : q.keep = false) (hd : q.depth = D) (hD : 1 ≤ D ∧ D ≤ 64) : addE q (heldL f m D) (f m) = 0 := by
  obtain ⟨h1, h2, h3, h4, h5⟩ := hf m
  unfold addE
  rw [if_neg (by omega), if_neg (by omega), h1, h2, held_find hf m (.inl (Nat.le_refl m)), if_neg (by omega), if_neg]
  rw [held_len]
  omega
theorem held_new {f : Nat → Smp} (hf : nice f) {q : Qos} {m D : Nat} (hk : q.keep = false) (hd : q.depth = D) (hD : 1 ≤ D ∧ D ≤ 64) : newS q (heldL f m D) (f m) = heldL f (m + 1) D := by
  unfold newS
  rw [if_pos (held_addE hf hk hd hD)]
  unfold addL
  rw [(hf m).1, held_old hf hk hd hD.1]
  by_cases h : m < D
  · rw [if_pos (by rw [if_pos h]; decide), held_snoc f h]
  · have e : (if m < D then (-1 : Int) else 0) = 0 := if_neg h
    rw [e, if_neg (by decide)]
    exact held_roll f (by omega) hD.1
abbrev hW (f : Nat → Smp) (m D : Nat) (W : Ws) : Ws := ⟨heldL f m D, m, W.M, W.ck, W.D⟩
theorem held_wr {f : Nat → Smp} (hf : nice f) {q : Qos} {m D : Nat} (hk : q.keep = false) (hd : q.depth = D) (hD : 1 ≤ D ∧ D ≤ 64) (W : Ws) {at' : Int} {p : ByteArray} (hs : f m = ⟨7, (m : Int) + 1, at', p⟩) :
    wrE 7 q (hW f m D W) at' p = 0 ∧ wrN 7 q (hW f m D W) at' p = (m : Int) + 1 ∧ wrW 7 q (hW f m D W) at' p = hW f (m + 1) D W := by
  have e0 : prn 7 q (hW f m D W) = heldL f m D := by unfold prn; rw [if_neg (by rw [hk]; simp)]
  have e1 : smpW 7 (hW f m D W) at' p = f m := hs.symm
  have e2 : wrE 7 q (hW f m D W) at' p = 0 := by unfold wrE; rw [e0, e1]; exact held_addE hf hk hd hD
  refine ⟨e2, ?_, ?_⟩
  · unfold wrN; rw [if_pos e2]
  · unfold wrW
    rw [e0, e1, held_new hf hk hd hD, if_pos e2]
    rfl
/-! ### Where a late reader begins -/
end Go.Proofs.Ytofcadbfjbefkaa


namespace Go.Proofs.Ytofcadbfjbefkaa
open Go.X
set_option linter.unusedVariables false
def isD (x : Pk) : Bool := decide (x.k = 1)
def sn (L : List Pk) (i : Nat) : Nat := ((L.take i).filter isD).length
end Go.Proofs.Ytofcadbfjbefkaa


namespace Go.Proofs.Ytofcadbfjbefkaa
open Go.X
set_option linter.unusedVariables false
abbrev rF : Nat → Smp := fun i => if i < 40 then ⟨7, (i : Int) + 1, i, ⟨#[120]⟩⟩ else ⟨7, (i : Int) + 1, 45, ⟨#[121]⟩⟩
theorem rF_nice : nice rF := fun i => by
  unfold rF
  split
  · exact ⟨rfl, rfl, show (0 : Int) ≤ i by omega, show (i : Int) ≤ 1099511627776 by omega, show 1 ≤ 2000 by decide⟩
  · exact ⟨rfl, rfl, show (0 : Int) ≤ 45 by omega, show (45 : Int) ≤ 1099511627776 by omega, show 1 ≤ 2000 by decide⟩
/-- The reader: acknowledged, sent, asked for, time of the next heartbeat. -/
def rP (ac se : Int) (rq : List Int) (bt : Int) : Pr := ⟨2, true, 1, ac, se, rq, false, bt⟩
theorem rP_ok {ac se bt : Int} {rq : List Int} {m : Nat} (h1 : 0 ≤ ac ∧ ac ≤ 1000) (h2 : 0 ≤ se ∧ se ≤ m) (h3 : rq.length ≤ 1000) (hm : m ≤ 1000) : PrOk m (rP ac se rq bt) :=
  ⟨⟨show (1 : Int) ≤ 1 by decide, show (1 : Int) ≤ m + 1 by omega⟩, ⟨h1.1, show ac ≤ 1099511627777 by omega⟩, h2, show rq.length ≤ 100000 by omega⟩
/-- The numbers that the first i bits of b tell. -/
def msI (b : Nat) : Nat → List Int
  | 0 => []
  | i + 1 => msI b i ++ if b / 2 ^ i % 2 = 1 then [(i : Int) + 1] else []
theorem ms_mem {b : Nat} : ∀ {i : Nat} {j : Int}, j ∈ msI b i → 1 ≤ j ∧ j ≤ i
  | i + 1, j, h => by
    rcases List.mem_append.1 h with h | h
    · have := ms_mem h; omega
    · split at h
      · have := List.mem_singleton.1 h; omega
      · cases h
theorem ms_pw (b : Nat) : ∀ i, (msI b i).Pairwise (· < ·)
  | 0 => List.Pairwise.nil
  | i + 1 => by
    refine List.pairwise_append.2 ⟨ms_pw b i, ?_, fun a ha c hc => ?_⟩
    · split
      · exact List.pairwise_singleton _ _
      · exact List.Pairwise.nil
    · have := ms_mem ha
      split at hc
      · have := List.mem_singleton.1 hc; omega
      · cases hc
theorem ms_len (b : Nat) : ∀ i, (msI b i).length ≤ i
  | 0 => Nat.le_refl 0
  | i + 1 => by
    have := ms_len b i
    unfold msI
    rw [List.length_append]
    split
    · show _ + 1 ≤ _; omega
    · show _ + 0 ≤ _; omega
theorem ms_srt (b i : Nat) : srtI (msI b i) = msI b i := by
  refine List.mergeSort_of_pairwise ((ms_pw b i).imp fun h => ?_)
  exact decide_eq_true (by omega)
/-- The acknowledgement of a round. -/
def rA (f la : Int) (m : List Int) : Pk := ⟨3, 0, 0, 7, 3, 0, f, la, 0, m, []⟩
theorem rA_chk {f la : Int} {m : List Int} (hf : 1 ≤ f ∧ f ≤ 1000) (hl : 0 ≤ la ∧ la ≤ 1000) (hm : m.length ≤ 32) (hmem : ∀ j ∈ m, f ≤ j ∧ j ≤ la) (hpw : m.Pairwise (· < ·)) : chk (rA f la m) = 0 := by
  have h1 : rngP (rA f la m) := by
    refine ⟨⟨?_, ?_⟩, ⟨?_, ?_⟩, ⟨?_, ?_⟩, ⟨.inr ?_, ?_⟩, ⟨.inr ?_, ?_⟩, .inl (.inr rfl), .inr ⟨⟨hf.1, ?_⟩, hl.1, ?_⟩, ?_, ?_⟩
    all_goals first
      | (show f ≤ _; omega)
      | (show la ≤ _; omega)
      | (simp only [rA]; omega)
  have h2 : ¬ unuP (rA f la m) := by
    unfold unuP rA
    simp
  have h3 : ¬ badP (rA f la m) := fun ⟨i, hi, hb⟩ => by
    have hi : i < m.length := hi
    have hb : m.getD i default < f ∨ la < m.getD i default ∨ (0 < i ∧ m.getD i default ≤ m.getD (i - 1) default) := hb
    have hmi := hmem (m.getD i default) (by rw [getD_at hi]; exact List.getElem_mem _)
    rcases hb with h | h | ⟨h, h'⟩
    · omega
    · omega
    · have := List.pairwise_iff_getElem.1 hpw (i - 1) i (by omega) hi (by omega)
      rw [getD_at hi, getD_at (show i - 1 < m.length by omega)] at h'
      omega
  unfold chk
  rw [if_neg (fun h => h h1), if_neg, if_neg h2, if_neg h3]
  show ¬ (2000 < 0 ∨ 32 < m.length)
  omega
theorem foldl_ak {st : Int} (ac se : Int) (bt : Int) : ∀ (m rq : List Int), (∀ j ∈ m, 1 ≤ j ∧ j ≤ se) → (rq ++ m).Pairwise (· < ·) → m.foldl akS (rP ac se rq bt) = rP ac se (rq ++ m) bt
  | [], rq, _, _ => by rw [List.append_nil]; rfl
  | j :: m, rq, h, hp => by
    have hj := h j List.mem_cons_self
    have hno : ¬ j ∈ rq := fun hm => by
      have := (List.pairwise_append.1 hp).2.2 j hm j List.mem_cons_self
      omega
    have e : akS (rP ac se rq bt) j = rP ac se (rq ++ [j]) bt := by
      unfold akS
      rw [if_neg (show ¬ j < (rP ac se rq bt).st from show ¬ j < 1 by omega), if_pos (show j ≤ (rP ac se rq bt).se ∧ ¬ j ∈ (rP ac se rq bt).rq from ⟨hj.2, hno⟩)]
      rfl
    rw [List.foldl_cons, e, foldl_ak (st := st) ac se bt m (rq ++ [j]) (fun x hx => h x (List.mem_cons_of_mem _ hx)) (by rw [List.append_assoc]; exact hp), List.append_assoc]
    rfl
theorem ak_ok {f la : Int} {m : List Int} {ac se bt : Int} {l : List Smp} (hc : chk (rA f la m) = 0) (hf : f ≤ se + 1) (hmem : ∀ j ∈ m, 1 ≤ j ∧ j ≤ se) (hpw : m.Pairwise (· < ·)) :
    akE 7 (rA f la m) (oneW l se (rP ac se [] bt)) = 0 ∧ akW 7 (rA f la m) (oneW l se (rP ac se [] bt)) = oneW l se (rP (max ac (f - 1)) se m bt) := by
  have e1 : akE 7 (rA f la m) (oneW l se (rP ac se [] bt)) = 0 := by
    unfold akE
    rw [if_neg, if_neg, if_pos]
    · rfl
    · intro ⟨j, hj, h⟩
      have := hmem j hj
      have h : se < j := h
      omega
    · intro h
      rcases h with h | h | h | h
      · exact h hc
      · exact h rfl
      · exact h rfl
      · have h : se + 1 < f := h
        omega
  refine ⟨e1, ?_⟩
  unfold akW
  rw [if_pos e1]
  show setP (oneW l se (rP ac se [] bt)) 3 (akP (rA f la m) (rP ac se [] bt)) = _
  rw [one_set]
  have : akP (rA f la m) (rP ac se [] bt) = rP (max ac (f - 1)) se m bt := by
    unfold akP
    rw [if_neg (show ¬ (rP ac se [] bt).rel = false from show ¬ true = false by decide)]
    show m.foldl akS (rP (max ac (f - 1)) se [] bt) = _
    rw [foldl_ak (st := 0) _ _ _ m [] hmem (by rw [List.nil_append]; exact hpw), List.nil_append]
  rw [this]
/-! ### What the rounds send -/
theorem rp_hb {l : List Smp} {ac m bt at' : Int} (h : ac < m) (hb : bt ≤ at') : polL 7 l 3 (rP ac m [] bt) m at' = [hbK 7 3 (rP ac m [] bt) m at'] := by
  unfold polL
  have e1 : polB 7 3 (rP ac m [] bt) at' = [] := if_neg (show ¬ false = true by decide)
  have e2 : polR 7 l 3 (rP ac m [] bt) at' (rP ac m [] bt).rq.length = [] := by
    unfold polR
    show ((srtI []).take 0).map _ = []
    rw [List.take_zero]; rfl
  have e3 : (m - (rP ac m [] bt).se).toNat = 0 := by show (m - m).toNat = 0; omega
  have e4 : polH 7 3 (rP ac m [] bt) m at' = [hbK 7 3 (rP ac m [] bt) m at'] := if_pos ⟨rfl, h, hb⟩
  rw [e1, e2, e3, e4]
  rfl
theorem rp_hbP {ac m bt at' : Int} (h : ac < m) (hb : bt ≤ at') : polP 50 (rP ac m [] bt) m at' = rP ac m [] (at' + 50) := by
  unfold polP
  rw [if_pos ⟨rfl, h, hb⟩]
  rfl
theorem rp_ms {l : List Smp} {ac m bt at' : Int} {rq : List Int} (h : at' < bt ∨ m ≤ ac) (hs : srtI rq = rq) : polL 7 l 3 (rP ac m rq bt) m at' = rq.map (dat 7 l 3 (rP ac m rq bt) at') := by
  unfold polL
  have e1 : polB 7 3 (rP ac m rq bt) at' = [] := if_neg (show ¬ false = true by decide)
  have e2 : polR 7 l 3 (rP ac m rq bt) at' (rP ac m rq bt).rq.length = rq.map (dat 7 l 3 (rP ac m rq bt) at') := by
    unfold polR
    show ((srtI rq).take rq.length).map _ = _
    rw [hs, List.take_length]
  have e3 : (m - (rP ac m rq bt).se).toNat = 0 := by show (m - m).toNat = 0; omega
  have e4 : polH 7 3 (rP ac m rq bt) m at' = [] := if_neg fun hb => by
    have h2 : ac < m := hb.2.1
    have h3 : bt ≤ at' := hb.2.2
    omega
  rw [e1, e2, e3, e4, List.nil_append, List.append_nil]
  show _ ++ [] = _
  rw [List.append_nil]
theorem rp_msP {ac m bt at' : Int} {rq : List Int} (h : at' < bt ∨ m ≤ ac) : polP 50 (rP ac m rq bt) m at' = rP ac m [] bt := by
  unfold polP
  rw [if_neg fun hb => by
    have h2 : ac < m := hb.2.1
    have h3 : bt ≤ at' := hb.2.2
    omega]
  rfl
theorem nx_one {l : List Smp} {ac m bt b : Int} {rq : List Int} {is : Bool} (h : IsNx (oneW l m (rP ac m rq bt)) (· < 1) b is) : (ac < m → b = bt ∧ is = true) ∧ (m ≤ ac → is = false) := by
  have hc : cand (oneW l m (rP ac m rq bt)) (((oneW l m (rP ac m rq bt)).M.getD 0 default).2.toNat) = if ac < m then some bt else none := by
    show (if true = true ∧ ac < m then some bt else none) = _
    by_cases h : ac < m
    · rw [if_pos ⟨rfl, h⟩, if_pos h]
    · rw [if_neg (fun h' => h h'.2), if_neg h]
  rcases h with ⟨rfl, rfl, h3⟩ | ⟨rfl, ⟨i, hi, h4⟩, _⟩
  · refine ⟨fun hm => ?_, fun _ => rfl⟩
    have := h3 0 Nat.one_pos
    rw [hc, if_pos hm] at this
    cases this
  · obtain rfl : i = 0 := by omega
    rw [hc] at h4
    by_cases hm : ac < m
    · rw [if_pos hm] at h4
      exact ⟨fun _ => ⟨(Option.some.inj h4).symm, rfl⟩, fun h => by omega⟩
    · rw [if_neg hm] at h4; cases h4
/-- What a packet of a round is, for the number j. -/
theorem dat_of {m D : Nat} (p : Pr) (at' : Int) {j : Int} (h : 1 ≤ j ∧ j ≤ m) (hm : m ≤ 40) :
    ((m : Int) - j < D → (dat 7 (heldL rF m D) 3 p at' j).k = 1 ∧ (dat 7 (heldL rF m D) 3 p at' j).q = j ∧ (dat 7 (heldL rF m D) 3 p at' j).p = [120]) ∧
    (¬ (m : Int) - j < D → (dat 7 (heldL rF m D) 3 p at' j).k = 4 ∧ (dat 7 (heldL rF m D) 3 p at' j).q = 1 ∧ (dat 7 (heldL rF m D) 3 p at' j).f = j ∧ (dat 7 (heldL rF m D) 3 p at' j).la = j) := by
  obtain ⟨i, rfl⟩ : ∃ i : Nat, j = (i : Int) + 1 := ⟨(j - 1).toNat, by omega⟩
  unfold dat
  rw [held_get rF_nice]
  refine ⟨fun h1 => ?_, fun h1 => ?_⟩
  · rw [if_pos (show m - min m D ≤ i ∧ i < m by omega), if_pos rfl]
    refine ⟨rfl, rfl, ?_⟩
    show (rF i).p.data.toList = [120]
    rw [show rF i = ⟨7, (i : Int) + 1, i, ⟨#[120]⟩⟩ from if_pos (by omega)]
  · rw [if_neg (show ¬ (m - min m D ≤ i ∧ i < m) by omega), if_neg (by decide)]
    exact ⟨rfl, rfl, rfl, rfl⟩
def rQ (D : Nat) : Qos := ⟨true, false, false, D, 0, 0, 0⟩
theorem rQ_ok {D : Nat} (h : 1 ≤ D ∧ D ≤ 64) : okQ (rQ D) := by
  have z : okT 0 := by decide
  exact ⟨z, z, z, (fun h => by cases h), fun _ => ⟨show (1 : Int) ≤ D by omega, show (D : Int) ≤ 64 by omega⟩⟩
theorem mr_E {D : Nat} (h : 1 ≤ D ∧ D ≤ 64) : maE (rQ D) 3 2 0 (rQ D) W0 = 0 := by
  unfold maE
  rw [if_neg (by decide), if_neg (fun h' => h' (rQ_ok h)), if_neg]
  · rfl
  · intro h'
    refine h' ?_
    unfold viol
    rw [if_neg (fun h => by cases h.2), if_neg (fun h => by cases h.1)]
    rfl
theorem held_0 (f : Nat → Smp) (D : Nat) : heldL f 0 D = [] := by
  unfold heldL
  rw [Nat.zero_min]
  rfl
theorem mr_W {D : Nat} (h : 1 ≤ D ∧ D ≤ 64) : maW (rQ D) 3 2 0 (rQ D) W0 = oneW (heldL rF 0 D) ((0 : Nat) : Int) (rP 0 0 [] 0) := by
  unfold maW
  rw [if_pos (mr_E h), held_0]
  exact one_add [] 0 _
theorem r_wr {k D : Nat} (hk : k < 40) (h64 : 1 ≤ D ∧ D ≤ 64) (p : Pr) : wrE 7 (rQ D) (oneW (heldL rF k D) k p) k ⟨#[120]⟩ = 0 ∧ wrN 7 (rQ D) (oneW (heldL rF k D) k p) k ⟨#[120]⟩ = (k : Int) + 1 ∧ wrW 7 (rQ D) (oneW (heldL rF k D) k p) k ⟨#[120]⟩ = oneW (heldL rF (k + 1) D) ((k + 1 : Nat) : Int) p :=
  held_wr rF_nice (q := rQ D) (m := k) (D := D) rfl rfl h64 (oneW [] 0 p) (at' := k) (p := ⟨#[120]⟩) (if_pos hk)
theorem r_po {m D : Nat} {p : Pr} {at' : Int} (h : atOk at') : poL 7 (rQ D) at' (oneW (heldL rF m D) m p) = polL 7 (heldL rF m D) 3 p m at' ∧ poW 50 (rQ D) at' (oneW (heldL rF m D) m p) = oneW (heldL rF m D) m (polP 50 p m at') := by
  rw [one_poL h, one_poW h, (exp_zero (q := rQ D) rfl (heldL rF m D) at').2]
  exact ⟨rfl, rfl⟩
theorem r_P0 {m : Nat} : polP 50 (rP 0 0 [] 0) m 100 = rP 0 m [] (if 0 < m then 150 else 0) := by
  unfold polP
  have : beats (rP 0 0 [] 0) m 100 ↔ 0 < m := ⟨fun h => by have h2 : (0 : Int) < m := h.2.1; omega, fun h => ⟨rfl, show (0 : Int) < m by omega, show (0 : Int) ≤ 100 by decide⟩⟩
  by_cases h : 0 < m
  · rw [if_pos (this.2 h), if_pos h]; rfl
  · rw [if_neg (fun h' => h (this.1 h')), if_neg h]; rfl
theorem r_hl {m D : Nat} {p : Pr} {a : Int} (h : m ≤ 1000) : (oneW (heldL rF m D) a p).l.length ≤ 1000000 := by
  show (heldL rF m D).length ≤ _
  rw [held_len]; omega
theorem hb_is (p : Pr) (m : Nat) (at' : Int) (h : p.st = 1) : ∃ LH : List Pk, LH.length = 1 ∧ (LH.getD (((LH.length : Nat) : Int) - 1).toNat default).k = 2 ∧ (LH.getD (((LH.length : Nat) : Int) - 1).toNat default).f = 1 ∧ (LH.getD (((LH.length : Nat) : Int) - 1).toNat default).la = m ∧ LH = [hbK 7 3 p m at'] :=
  ⟨[hbK 7 3 p m at'], rfl, rfl, h, rfl, rfl⟩
theorem ms_is {m D : Nat} (p : Pr) (at' : Int) {M : List Int} (h : ∀ j ∈ M, 1 ≤ j ∧ j ≤ m) (hm : m ≤ 40) : ∃ LM : List Pk, LM.length = M.length ∧ (∀ t, t < M.length →
    ((m : Int) - M.getD t default < D → (LM.getD t default).k = 1 ∧ (LM.getD t default).q = M.getD t default ∧ (LM.getD t default).p = [120]) ∧
    (¬ (m : Int) - M.getD t default < D → (LM.getD t default).k = 4 ∧ (LM.getD t default).q = 1 ∧ (LM.getD t default).f = M.getD t default ∧ (LM.getD t default).la = M.getD t default)) ∧ LM = M.map (dat 7 (heldL rF m D) 3 p at') := by
  refine ⟨M.map (dat 7 (heldL rF m D) 3 p at'), List.length_map _, fun t ht => ?_, rfl⟩
  have e : (M.map (dat 7 (heldL rF m D) 3 p at')).getD t default = dat 7 (heldL rF m D) 3 p at' (M.getD t default) := by
    rw [getD_at (by rw [List.length_map]; exact ht), List.getElem_map, getD_at ht]
  rw [e]
  exact dat_of p at' (h _ (by rw [getD_at ht]; exact List.getElem_mem _)) hm
theorem nt_mod (y : Nat) : (y : Int).tmod 2 = ((y % 2 : Nat) : Int) := by rw [Int.tmod_eq_emod_of_nonneg (by omega)]; omega
theorem nt_div (y : Nat) : (y : Int).tdiv 2 = ((y / 2 : Nat) : Int) := by rw [Int.tdiv_eq_ediv_of_nonneg (by omega)]; omega
theorem nt_u32 {y : Nat} (h : y ≤ 4294967295) : IntKind.u32.wrap (y : Int) = (y : Int) := by
  have : IntKind.u32.wrap (y : Int) = (y : Int) % 4294967296 := rfl
  rw [this]
  omega
theorem nt_pow (b i : Nat) : b / 2 ^ i / 2 = b / 2 ^ (i + 1) := by rw [Nat.pow_succ, Nat.div_div_eq_div_mul]
theorem ms_yes {b i : Nat} (h : b / 2 ^ i % 2 = 1) : msI b (i + 1) = msI b i ++ [(i : Int) + 1] := by
  show _ ++ (if _ then _ else _) = _
  rw [if_pos h]
theorem ms_no {b i : Nat} (h : ¬ b / 2 ^ i % 2 = 1) : msI b (i + 1) = msI b i := by
  show _ ++ (if _ then _ else _) = _
  rw [if_neg h, List.append_nil]
end Go.Proofs.Ytofcadbfjbefkaa

