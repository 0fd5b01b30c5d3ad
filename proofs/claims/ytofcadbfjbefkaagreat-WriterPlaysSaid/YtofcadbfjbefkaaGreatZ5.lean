/- Part 5 of the texts that a walk of this program rests on: an abstract machine, its soundness, contracts of functions. No statement of the seat is proved in this file. -/
import Derived.Test.YtofcadbfjbefkaaGreatZ4
namespace Go.Proofs.YtofcadbfjbefkaaGreat
open Go.X
set_option linter.unusedSimpArgs false
set_option linter.unusedVariables false
/-! What a poll sends to a reader. -/
def polB (id : Int) (X : Nat) (p : Pr) (at' : Int) : List Pk := if p.bg = true then [gapK id X p 0 1 (p.st - 1) at'] else []
def polR (id : Int) (l : List Smp) (X : Nat) (p : Pr) (at' : Int) (k : Nat) : List Pk := ((srtI p.rq).take k).map (dat id l X p at')
def polN1 (id : Int) (l : List Smp) (X : Nat) (p : Pr) (at' : Int) (n : Int) : List Pk := if p.rel = true ∨ (dat id l X p at' n).k = 1 then [dat id l X p at' n] else []
def polN (id : Int) (l : List Smp) (X : Nat) (p : Pr) (at' : Int) (k : Nat) : List Pk := (List.range k).flatMap fun (i : Nat) => polN1 id l X p at' (p.se + 1 + (i : Int))
def beats (p : Pr) (la at' : Int) : Prop := p.rel = true ∧ p.ac < la ∧ p.bt ≤ at'
instance (p : Pr) (la at' : Int) : Decidable (beats p la at') := by unfold beats; infer_instance
def polH (id : Int) (X : Nat) (p : Pr) (la at' : Int) : List Pk := if beats p la at' then [hbK id X p la at'] else []
def polL (id : Int) (l : List Smp) (X : Nat) (p : Pr) (la at' : Int) : List Pk := polB id X p at' ++ polR id l X p at' p.rq.length ++ polN id l X p at' (la - p.se).toNat ++ polH id X p la at'
def polP (per : Int) (p : Pr) (la at' : Int) : Pr := ⟨p.nd, p.rel, p.st, p.ac, la, [], false, if beats p la at' then at' + per else p.bt⟩
/-- A peer in the midst of a poll. -/
def pS (p : Pr) : Pr := ⟨p.nd, p.rel, p.st, p.ac, p.se, srtI p.rq, false, p.bt⟩
def pE (p : Pr) : Pr := ⟨p.nd, p.rel, p.st, p.ac, p.se, [], false, p.bt⟩
/-- What holds of a peer's numbers. -/
structure PrOk (la : Int) (p : Pr) : Prop where
  st : 1 ≤ p.st ∧ p.st ≤ la + 1
  ac : 0 ≤ p.ac ∧ p.ac ≤ 1099511627777
  se : 0 ≤ p.se ∧ p.se ≤ la
  rq : p.rq.length ≤ 100000
theorem polN_succ (id : Int) (l : List Smp) (X : Nat) (p : Pr) (at' : Int) (k : Nat) : polN id l X p at' (k + 1) = polN id l X p at' k ++ polN1 id l X p at' (p.se + 1 + (k : Int)) := by
  unfold polN
  rw [List.range_succ, List.flatMap_append, List.flatMap_cons, List.flatMap_nil, List.append_nil]
theorem polN1_le (id : Int) (l : List Smp) (X : Nat) (p : Pr) (at' : Int) (n : Int) : (polN1 id l X p at' n).length ≤ 1 := by
  unfold polN1; split <;> simp
theorem polN_le (id : Int) (l : List Smp) (X : Nat) (p : Pr) (at' : Int) : ∀ k, (polN id l X p at' k).length ≤ k
  | 0 => Nat.le_refl _
  | k + 1 => by
    rw [polN_succ, List.length_append]
    have := polN_le id l X p at' k
    have := polN1_le id l X p at' (p.se + 1 + (k : Int))
    omega
theorem polB_le (id : Int) (X : Nat) (p : Pr) (at' : Int) : (polB id X p at').length ≤ 1 := by unfold polB; split <;> simp
theorem srt_len (l : List Int) : (srtI l).length = l.length := List.length_mergeSort l
theorem polR_le (id : Int) (l : List Smp) (X : Nat) (p : Pr) (at' : Int) (k : Nat) : (polR id l X p at' k).length ≤ k := by
  unfold polR; rw [List.length_map, List.length_take]; omega
theorem polR_succ (id : Int) (l : List Smp) (X : Nat) (p : Pr) (at' : Int) {k : Nat} (hk : k < p.rq.length) : polR id l X p at' (k + 1) = polR id l X p at' k ++ [dat id l X p at' ((srtI p.rq).getD k default)] := by
  unfold polR
  have hk' : k < (srtI p.rq).length := by rw [srt_len]; exact hk
  rw [← List.take_append_getElem hk', List.map_append, getD_at hk']
  rfl
theorem cH18zoG0 {P : Program} {F : Nat} {args : List T} {H : List Fam} {K : T → List Fam → Prop} {σ : List Sg} {nl : List Fam} {args0 : List T} {h0 : List Fam} {Q : T → List Fam → Prop} {H2 H1 : List Fam} {N n : Nat} (hc : Ctr P F args0 h0 Q) (hk : ∀ v h', Q v h' → capsP h' → RetG σ H2 h' v K) (hap : apart σ = true := by rfl) (hnl : nl.all nilB = true := by rfl) (h1 : H ++ nl = H1 := by first | exact List.append_nil _ | ((try simp only [List.cons_append, List.nil_append]) <;> rfl)) (hN : H1.length = N := by (try simp only [↓List.length_cons, ↓List.length_nil, Nat.reduceAdd]) <;> rfl) (hn : H.length = n := by (try simp only [↓List.length_cons, ↓List.length_nil, Nat.reduceAdd]) <;> rfl) (hH : givesF σ N H1 σ h0 = some H2 := by (try simp (maxSteps := 1000000) only [givesF, setF, updF, Fam.zeroth, Fam.rk, Ck.rk, C.rk, E.rk, T.rk, key, List.map_cons, List.map_nil, List.cons_append, List.nil_append, List.length_cons, List.length_nil, Option.map_some, Option.bind_some, Nat.reduceAdd, Nat.zero_add, Nat.add_zero, Nat.add_sub_cancel_left, Int.toNat_natCast, reps, List.all_cons, List.all_nil, C.flat, List.append_eq, Bool.not_true, Bool.and_true, Bool.or_false, Bool.or_self, Bool.not_false, List.append_nil, Bool.and_self, ↓prC_rk, ↓rqO_rk]) <;> rfl) (hle : leS n H1 σ N σ h0 (belsK N (h0.map (Fam.rk σ N)) (argsK n args (args0.map (T.rk σ N)) True)) := by repeat' first | refine And.intro ?_ ?_ | exact xeC | fail) : CallK P F args H K := CallK.mk3 hc hap hnl h1 hN hn hH hle hk
set_option maxRecDepth 10000 in
set_option maxHeartbeats 16000000 in
theorem cpoll1 (id per la : Int) (q : Qos) (l : List Smp) (c X : Nat) (p : Pr) (cq : Nat) (at' : Int) (hl : l.length ≤ 1000000) (hla : 0 ≤ la ∧ la ≤ 1000000) (hp : PrOk la p) (hat : 0 ≤ at' ∧ at' ≤ 1099511627776) (hper : 1 ≤ per ∧ per ≤ 1099511627776) :
    Ctr Tryz.prog 49 [.c (.p 0 0 0), .c (.p 4 0 0), .c (.i .i64 at')] [.one (wrc 1 2 id per la q), .one (hist 3 q l.length c), .one .no, .one (smps true l c), .one (.cells true (encPr 5 0 X p cq)), .one (ints true p.rq cq)]
      fun v h => ∃ co, v = .c (.sl 6 0 11 0 (polL id l X p la at').length co) ∧ h = [.one (wrc 1 2 id per la q), .one (hist 3 q l.length c), .one .no, .one (smps true l c), .one (.cells true (encPr 7 0 X (polP per p la at') 0)), .one .no, .one (pkR true (polL id l X p la at') co), .one (ints true [] 0)] := by
  have hst := hp.st
  have hse2 : 0 ≤ (pS p).se ∧ (pS p).se ≤ la := hp.se
  have hse3 : 0 ≤ (pE p).se ∧ (pE p).se ≤ la := hp.se
  have hac := hp.ac
  have hse := hp.se
  have hrq := hp.rq
  have hBl := polB_le id X p at'
  have hsl := srt_len p.rq
  refine Ctr.mk' tbv mixed Tryz.func49 rfl rfl rfl (fun _ _ => by kernel_rfl) (by kernel_rfl) (by rfl) (by rfl) (by (repeat' first | refine And.intro ?_ ?_ | exact xeC | fail)) ?_
  repeat' (first | (fail_if_success (with_reducible refine xstp ?_)); first | ((with_reducible refine And.intro (fun (hb : _ = true) => ?_) (fun (hb : _ = false) => ?_)) <;> replace hb := xnC hb <;> (try first | exact xfC | exact bff hb (by assumption) | exact bff (by assumption) hb)) | ((with_reducible refine And.intro ?_ ?_); focus exact xoC) | (with_reducible intro hc; (try simp only [capsP, and_true] at hc); (try exact xfC)) | ((fail_if_success (with_reducible first | refine xgon ?_ | intro _)); (conv => whnf); (fail_if_success (fail_if_success (with_reducible first | refine xstp ?_ | refine xgon ?_ | intro _)))))
  · have hB : polB id X p at' = [gapK id X p 0 1 (p.st - 1) at'] := if_pos (by assumption)
    refine cH18zoG0 (σ := [.whole 0, .whole 4, .name 1, .name 2, .name 5]) (nl := []) (cgap id per la q X p cq 0 1 (p.st - 1) at') ?_
    rintro v h' ⟨rfl, rfl⟩ hcaps
    refine ret_mk3 (by (try simp only [↓List.length_cons, ↓List.length_nil, Nat.reduceAdd]); rfl) (by (try simp (maxSteps := 1000000) only [givesF, setF, updF, Fam.zeroth, Fam.rk, Ck.rk, C.rk, E.rk, T.rk, key, List.map_cons, List.map_nil, List.cons_append, List.nil_append, List.length_cons, List.length_nil, Option.map_some, Option.bind_some, Nat.reduceAdd, Nat.zero_add, Nat.add_zero, Nat.add_sub_cancel_left, Int.toNat_natCast, reps, List.all_cons, List.all_nil, C.flat, List.append_eq, Bool.not_true, Bool.and_true, Bool.or_false, Bool.or_self, Bool.not_false, List.append_nil, Bool.and_self, ↓prC_rk, ↓rqO_rk, encPr, encP]); rfl) (by (try simp only [givesF, setF, updF, Fam.zeroth, Fam.rk, Ck.rk, C.rk, E.rk, T.rk, key, List.map_cons, List.map_nil, List.cons_append, List.nil_append, List.length_cons, List.length_nil, Option.map_some, Option.bind_some, Nat.reduceAdd, Nat.zero_add, Nat.add_zero, Nat.add_sub_cancel_left, Int.toNat_natCast, reps, List.all_cons, List.all_nil, C.flat, List.append_eq, Bool.not_true, Bool.and_true, Bool.or_false, Bool.or_self, Bool.not_false, List.append_nil, Bool.and_self, ↓prC_rk, ↓rqO_rk, encPr, encP]); rfl) ?_
    repeat' (first | (fail_if_success (with_reducible refine xstp ?_)); first | ((with_reducible refine And.intro ?_ ?_); focus exact xoC) | (with_reducible intro hc; (try simp only [capsP, and_true] at hc); (try exact xfC)) | ((fail_if_success (with_reducible first | refine xgon ?_ | intro _)); (conv => whnf); (fail_if_success (fail_if_success (with_reducible first | refine xstp ?_ | refine xgon ?_ | intro _)))))
    rename_i c1
    have h0 : polB id X p at' ++ polR id l X p at' 0 = [gapK id X p 0 1 (p.st - 1) at'] := by rw [hB]; rfl
    refine cH18zoG0 (σ := [.whole 5]) (nl := []) (cSort 3 p.rq cq (by omega)) ?_
    rintro v h' ⟨rfl, rfl⟩ hcaps
    refine ret_mk3 (by (try simp only [↓List.length_cons, ↓List.length_nil, Nat.reduceAdd]); rfl) (by (try simp (maxSteps := 1000000) only [givesF, setF, updF, Fam.zeroth, Fam.rk, Ck.rk, C.rk, E.rk, T.rk, key, List.map_cons, List.map_nil, List.cons_append, List.nil_append, List.length_cons, List.length_nil, Option.map_some, Option.bind_some, Nat.reduceAdd, Nat.zero_add, Nat.add_zero, Nat.add_sub_cancel_left, Int.toNat_natCast, reps, List.all_cons, List.all_nil, C.flat, List.append_eq, Bool.not_true, Bool.and_true, Bool.or_false, Bool.or_self, Bool.not_false, List.append_nil, Bool.and_self, ↓prC_rk, ↓rqO_rk, encPr, encP]); rfl) (by (try simp only [givesF, setF, updF, Fam.zeroth, Fam.rk, Ck.rk, C.rk, E.rk, T.rk, key, List.map_cons, List.map_nil, List.cons_append, List.nil_append, List.length_cons, List.length_nil, Option.map_some, Option.bind_some, Nat.reduceAdd, Nat.zero_add, Nat.add_zero, Nat.add_sub_cancel_left, Int.toNat_natCast, reps, List.all_cons, List.all_nil, C.flat, List.append_eq, Bool.not_true, Bool.and_true, Bool.or_false, Bool.or_self, Bool.not_false, List.append_nil, Bool.and_self, ↓prC_rk, ↓rqO_rk, encPr, encP]); rfl) ?_
    repeat' (first | (fail_if_success (with_reducible refine xstp ?_)); first | ((fail_if_success (with_reducible first | refine xgon ?_ | intro _)); (conv => whnf); (fail_if_success (fail_if_success (with_reducible first | refine xstp ?_ | refine xgon ?_ | intro _)))))
    refine LoopK.mk' ({k : Nat // k ≤ p.rq.length} × Nat)
      (fun ⟨⟨k, _⟩, cc⟩ => ⟨[(0, .c (.p 0 0 0)), (1, .c (.p 4 0 0)), (2, .c (.i .i64 at')), (7, .c (.sl 6 0 11 0 (polB id X p at' ++ polR id l X p at' k).length cc)), (39, .c (.sl 5 0 1 0 p.rq.length cq)), (40, .c (.i .i64 p.rq.length)), (41, .c (.i .i64 k))],
        [.one (wrc 1 2 id per la q), .one (hist 3 q l.length c), .one .no, .one (smps true l c), .one (.cells true (encPr 5 0 X (pS p) cq)), .one (ints true (srtI p.rq) cq), .one (pkR true (polB id X p at' ++ polR id l X p at' k) cc)]⟩)
      (fun k => p.rq.length - k.1.1)
      ⟨⟨⟨0, Nat.zero_le _⟩, c1⟩, [0, 1, 2, 3, 4, 5, 7], ?_⟩ ?_
    · (repeat' first | refine And.intro ?_ ?_ | exact xeC | fail)
      all_goals try rw [h0]
      all_goals first
        | rfl
        | exact hsl.symm
        | exact Nat.le_of_eq hsl
        | (show p.bg = false; assumption)
        | exact Nat.le_refl _
        | (intro i hi
           have hi1 : i < 1 := hi
           obtain rfl : i = 0 := by omega
           rfl)
        | (intro i hi; exact absurd hi (Nat.not_lt_zero i))
        | skip
      all_goals trace_state
    rintro ⟨⟨k, hk⟩, cc⟩
    have hRl := polR_le id l X p at' k
    have hOl : (polB id X p at' ++ polR id l X p at' k).length ≤ 100001 := by rw [List.length_append]; omega
    repeat' (first | (fail_if_success (with_reducible refine xstp ?_)); first | ((with_reducible refine And.intro (fun (hb : _ = true) => ?_) (fun (hb : _ = false) => ?_)) <;> replace hb := xnC hb <;> (try first | exact xfC | exact bff hb (by assumption) | exact bff (by assumption) hb)) | ((with_reducible refine And.intro ?_ ?_); focus exact xoC) | (with_reducible intro hc; (try simp only [capsP, and_true] at hc); (try exact xfC)) | ((fail_if_success (with_reducible first | refine xgon ?_ | intro _)); (conv => whnf); (fail_if_success (fail_if_success (with_reducible first | refine xstp ?_ | refine xgon ?_ | intro _)))))
    · rw [show 0 + ((k : Nat) : Int).toNat = k by omega]
      refine cH18zoG0 (σ := [.whole 0, .whole 1, .name 2, .whole 3, .whole 4, .name 5]) (nl := []) (cdata id per la q l c X (pS p) cq ((srtI p.rq).getD k default) at' hl) ?_
      rintro v h' ⟨rfl, rfl⟩ hcaps
      rw [show dat id l X (pS p) at' ((srtI p.rq).getD k default) = dat id l X p at' ((srtI p.rq).getD k default) from rfl]
      have hR1 := polR_succ id l X p at' (show k < p.rq.length by omega)
      generalize dat id l X p at' ((srtI p.rq).getD k default) = y at *
      refine ret_mk3 (by (try simp only [↓List.length_cons, ↓List.length_nil, Nat.reduceAdd]); rfl) (by (try simp (maxSteps := 1000000) only [givesF, setF, updF, Fam.zeroth, Fam.rk, Ck.rk, C.rk, E.rk, T.rk, key, List.map_cons, List.map_nil, List.cons_append, List.nil_append, List.length_cons, List.length_nil, Option.map_some, Option.bind_some, Nat.reduceAdd, Nat.zero_add, Nat.add_zero, Nat.add_sub_cancel_left, Int.toNat_natCast, reps, List.all_cons, List.all_nil, C.flat, List.append_eq, Bool.not_true, Bool.and_true, Bool.or_false, Bool.or_self, Bool.not_false, List.append_nil, Bool.and_self, ↓prC_rk, ↓rqO_rk, encPr, encP]); rfl) (by (try simp only [givesF, setF, updF, Fam.zeroth, Fam.rk, Ck.rk, C.rk, E.rk, T.rk, key, List.map_cons, List.map_nil, List.cons_append, List.nil_append, List.length_cons, List.length_nil, Option.map_some, Option.bind_some, Nat.reduceAdd, Nat.zero_add, Nat.add_zero, Nat.add_sub_cancel_left, Int.toNat_natCast, reps, List.all_cons, List.all_nil, C.flat, List.append_eq, Bool.not_true, Bool.and_true, Bool.or_false, Bool.or_self, Bool.not_false, List.append_nil, Bool.and_self, ↓prC_rk, ↓rqO_rk, encPr, encP]); rfl) ?_
      repeat' (first | (fail_if_success (with_reducible refine xstp ?_)); first | ((with_reducible refine And.intro ?_ ?_); focus exact xoC) | ((with_reducible refine Or.inl ⟨?_, ?_, ?_⟩); (focus rfl); focus exact xaC) | (with_reducible intro hc; (try simp only [capsP, and_true] at hc); (try exact xfC)) | ((fail_if_success (with_reducible first | refine xgon ?_ | intro _)); (conv => whnf); (fail_if_success (fail_if_success (with_reducible first | refine xstp ?_ | refine xgon ?_ | intro _)))))
      rename_i c2
      refine ⟨⟨⟨k + 1, by omega⟩, c2⟩, [0, 1, 2, 3, 4, 5, 8], by simp only; omega, ?_⟩
      simp only [hR1, ← List.append_assoc]
      (repeat' first | refine And.intro ?_ ?_ | exact xeC | fail)
      all_goals first
        | (simp only [List.length_append, List.length_cons, List.length_nil]; done)
        | (simp only [List.length_append, List.length_cons, List.length_nil]; exact Nat.le_refl _)
        | (intro i hi; exact app_rowG (encP .nils) (polB id X p at' ++ polR id l X p at' k) y _ rfl i hi)
        | skip
      all_goals trace_state
    obtain rfl : k = p.rq.length := by omega
    refine LoopK.mk' ({k : Nat // k ≤ (la - p.se).toNat} × Nat)
      (fun ⟨⟨k, _⟩, cc⟩ => ⟨[(0, .c (.p 0 0 0)), (1, .c (.p 4 0 0)), (2, .c (.i .i64 at')), (7, .c (.sl 6 0 11 0 (polB id X p at' ++ polR id l X p at' p.rq.length ++ polN id l X p at' k).length cc)), (10, .c (.i .i64 (p.se + 1 + (k : Int))))],
        [.one (wrc 1 2 id per la q), .one (hist 3 q l.length c), .one .no, .one (smps true l c), .one (.cells true (encPr 7 0 X (pE p) 0)), .one .no, .one (pkR true (polB id X p at' ++ polR id l X p at' p.rq.length ++ polN id l X p at' k) cc), .one (ints true [] 0)]⟩)
      (fun k => (la - p.se).toNat - k.1.1)
      ⟨⟨⟨0, Nat.zero_le _⟩, cc⟩, [0, 1, 2, 3, 4, 5, 6, 99], ?_⟩ ?_
    · have h1 : polB id X p at' ++ polR id l X p at' p.rq.length ++ polN id l X p at' 0 = polB id X p at' ++ polR id l X p at' p.rq.length := List.append_nil _
      (repeat' first | refine And.intro ?_ ?_ | exact xeC | fail)
      all_goals try rw [h1]
      all_goals first
        | rfl
        | exact Nat.le_refl _
        | exact (Int.add_zero _).symm
        | exact fun _ _ => rfl
        | skip
      all_goals trace_state
    rintro ⟨⟨k, hk⟩, cc⟩
    have hNl := polN_le id l X p at' k
    have hOl : (polB id X p at' ++ polR id l X p at' p.rq.length ++ polN id l X p at' k).length ≤ 1100001 := by rw [List.length_append, List.length_append]; have : (polR id l X p at' p.rq.length).length ≤ p.rq.length := polR_le id l X p at' _; omega
    repeat' (first | (fail_if_success (with_reducible refine xstp ?_)); first | ((with_reducible refine And.intro (fun (hb : _ = true) => ?_) (fun (hb : _ = false) => ?_)) <;> replace hb := xnC hb <;> (try first | exact xfC | exact bff hb (by assumption) | exact bff (by assumption) hb)) | ((with_reducible refine And.intro ?_ ?_); focus exact xoC) | ((with_reducible refine Or.inl ⟨?_, ?_, ?_⟩); (focus rfl); focus exact xaC) | (with_reducible intro hc; (try simp only [capsP, and_true] at hc); (try exact xfC)) | ((fail_if_success (with_reducible first | refine xgon ?_ | intro _)); (conv => whnf); (fail_if_success (fail_if_success (with_reducible first | refine xstp ?_ | refine xgon ?_ | intro _)))))
    · refine cH18zoG0 (σ := [.whole 0, .whole 1, .name 2, .whole 3, .whole 4, .name 7]) (nl := []) (cdata id per la q l c X (pE p) 0 (p.se + 1 + (k : Int)) at' hl) ?_
      rintro v h' ⟨rfl, rfl⟩ hcaps
      rw [show dat id l X (pE p) at' (p.se + 1 + (k : Int)) = dat id l X p at' (p.se + 1 + (k : Int)) from rfl]
      have hN1 := polN_succ id l X p at' k
      unfold polN1 at hN1
      generalize dat id l X p at' (p.se + 1 + (k : Int)) = y at *
      refine ret_mk3 (by (try simp only [↓List.length_cons, ↓List.length_nil, Nat.reduceAdd]); rfl) (by (try simp (maxSteps := 1000000) only [givesF, setF, updF, Fam.zeroth, Fam.rk, Ck.rk, C.rk, E.rk, T.rk, key, List.map_cons, List.map_nil, List.cons_append, List.nil_append, List.length_cons, List.length_nil, Option.map_some, Option.bind_some, Nat.reduceAdd, Nat.zero_add, Nat.add_zero, Nat.add_sub_cancel_left, Int.toNat_natCast, reps, List.all_cons, List.all_nil, C.flat, List.append_eq, Bool.not_true, Bool.and_true, Bool.or_false, Bool.or_self, Bool.not_false, List.append_nil, Bool.and_self, ↓prC_rk, ↓rqO_rk, encPr, encP]); rfl) (by (try simp only [givesF, setF, updF, Fam.zeroth, Fam.rk, Ck.rk, C.rk, E.rk, T.rk, key, List.map_cons, List.map_nil, List.cons_append, List.nil_append, List.length_cons, List.length_nil, Option.map_some, Option.bind_some, Nat.reduceAdd, Nat.zero_add, Nat.add_zero, Nat.add_sub_cancel_left, Int.toNat_natCast, reps, List.all_cons, List.all_nil, C.flat, List.append_eq, Bool.not_true, Bool.and_true, Bool.or_false, Bool.or_self, Bool.not_false, List.append_nil, Bool.and_self, ↓prC_rk, ↓rqO_rk, encPr, encP]); rfl) ?_
      repeat' (first | (fail_if_success (with_reducible refine xstp ?_)); first | ((with_reducible refine And.intro (fun (hb : _ = true) => ?_) (fun (hb : _ = false) => ?_)) <;> replace hb := xnC hb <;> (try first | exact xfC | exact bff hb (by assumption) | exact bff (by assumption) hb)) | ((with_reducible refine And.intro ?_ ?_); focus exact xoC) | ((with_reducible refine Or.inl ⟨?_, ?_, ?_⟩); (focus rfl); focus exact xaC) | (with_reducible intro hc; (try simp only [capsP, and_true] at hc); (try exact xfC)) | ((fail_if_success (with_reducible first | refine xgon ?_ | intro _)); (conv => whnf); (fail_if_success (fail_if_success (with_reducible first | refine xstp ?_ | refine xgon ?_ | intro _)))))
      all_goals first
        | (have hcnd : p.rel = true ∨ y.k = 1 := by first | exact .inl ‹(pE p).rel = true› | exact .inr ‹y.k = 1›
           rw [if_pos hcnd] at hN1
           rename_i c2
           refine ⟨⟨⟨k + 1, by omega⟩, c2⟩, [0, 1, 2, 3, 4, 5, 10, 7], by simp only; omega, ?_⟩
           simp only [hN1, ← List.append_assoc]
           (repeat' first | refine And.intro ?_ ?_ | exact xeC | fail)
           all_goals first
             | (simp only [List.length_append, List.length_cons, List.length_nil]; done)
             | (simp only [List.length_append, List.length_cons, List.length_nil]; exact Nat.le_refl _)
             | (intro i hi; exact app_rowG (encP .nils) (polB id X p at' ++ polR id l X p at' p.rq.length ++ polN id l X p at' k) y _ rfl i hi)
             | (show p.se + 1 + (k : Int) + 1 = p.se + 1 + ((k + 1 : Nat) : Int); omega)
           done)
        | (have hc1 : ¬ y.k = 1 := ‹¬ y.k = 1›
           have hc2 : p.rel = false := ‹(pE p).rel = false›
           have hcnd : ¬ (p.rel = true ∨ y.k = 1) := fun h => h.elim (fun h => by rw [hc2] at h; cases h) hc1
           rw [if_neg hcnd, List.append_nil] at hN1
           refine ⟨⟨⟨k + 1, by omega⟩, cc⟩, [0, 1, 2, 3, 4, 5, 6, 7], by simp only; omega, ?_⟩
           simp only [hN1]
           (repeat' first | refine And.intro ?_ ?_ | exact xeC | fail)
           all_goals first
             | (show p.se + 1 + (k : Int) + 1 = p.se + 1 + ((k + 1 : Nat) : Int); omega)
           done)
        | skip
      all_goals trace_state
      all_goals stop
      all_goals skip
    rename Nat => c2
    all_goals have ek : k = (la - p.se).toNat := by omega
    all_goals subst ek
    · have hbe : beats p la at' := ⟨‹(pE p).rel = true›, ‹(pE p).ac < la›, ‹(pE p).bt ≤ at'›⟩
      have e1 : polL id l X p la at' = polB id X p at' ++ polR id l X p at' p.rq.length ++ polN id l X p at' (la - p.se).toNat ++ [hbK id X p la at'] := by unfold polL polH; rw [if_pos hbe]
      have e2 : polP per p la at' = ⟨p.nd, p.rel, p.st, p.ac, la, [], false, at' + per⟩ := by unfold polP; rw [if_pos hbe]
      rw [e1, e2]
      refine FinK.mk ⟨[0, 1, 2, 3, 4, 5, 9, 7], _, _, ⟨c2, rfl, rfl⟩, ?_⟩
      (repeat' first | refine And.intro ?_ ?_ | exact xeC | fail)
      all_goals first
        | (simp only [List.length_append, List.length_cons, List.length_nil]; done)
        | (simp only [List.length_append, List.length_cons, List.length_nil]; exact Nat.le_refl _)
        | (intro i hi; exact app_rowG (encP .nils) (polB id X p at' ++ polR id l X p at' p.rq.length ++ polN id l X p at' (la - p.se).toNat) (hbK id X p la at') _ rfl i hi)
        | skip
      all_goals trace_state
    all_goals (
      have hbe : ¬ beats p la at' := fun h => by
        have h1 : (pE p).rel = true := h.1
        have h2 : (pE p).ac < la := h.2.1
        have h3 : (pE p).bt ≤ at' := h.2.2
        first
          | omega
          | exact absurd h1 (by rw [‹(pE p).rel = false›]; simp)
      have e1 : polL id l X p la at' = polB id X p at' ++ polR id l X p at' p.rq.length ++ polN id l X p at' (la - p.se).toNat := by unfold polL polH; rw [if_neg hbe, List.append_nil]
      have e2 : polP per p la at' = ⟨p.nd, p.rel, p.st, p.ac, la, [], false, p.bt⟩ := by unfold polP; rw [if_neg hbe]
      rw [e1, e2]
      refine FinK.mk ⟨[0, 1, 2, 3, 4, 5, 6, 7], _, _, ⟨cc, rfl, rfl⟩, ?_⟩
      (repeat' first | refine And.intro ?_ ?_ | exact xeC | fail)
      all_goals trace_state
      skip)
  · have hB : polB id X p at' = [] := if_neg (by simp [*])
    have h0 : polB id X p at' ++ polR id l X p at' 0 = [] := by rw [hB]; rfl
    refine cH18zoG0 (σ := [.whole 5]) (nl := []) (cSort 3 p.rq cq (by omega)) ?_
    rintro v h' ⟨rfl, rfl⟩ hcaps
    refine ret_mk3 (by (try simp only [↓List.length_cons, ↓List.length_nil, Nat.reduceAdd]); rfl) (by (try simp (maxSteps := 1000000) only [givesF, setF, updF, Fam.zeroth, Fam.rk, Ck.rk, C.rk, E.rk, T.rk, key, List.map_cons, List.map_nil, List.cons_append, List.nil_append, List.length_cons, List.length_nil, Option.map_some, Option.bind_some, Nat.reduceAdd, Nat.zero_add, Nat.add_zero, Nat.add_sub_cancel_left, Int.toNat_natCast, reps, List.all_cons, List.all_nil, C.flat, List.append_eq, Bool.not_true, Bool.and_true, Bool.or_false, Bool.or_self, Bool.not_false, List.append_nil, Bool.and_self, ↓prC_rk, ↓rqO_rk, encPr, encP]); rfl) (by (try simp only [givesF, setF, updF, Fam.zeroth, Fam.rk, Ck.rk, C.rk, E.rk, T.rk, key, List.map_cons, List.map_nil, List.cons_append, List.nil_append, List.length_cons, List.length_nil, Option.map_some, Option.bind_some, Nat.reduceAdd, Nat.zero_add, Nat.add_zero, Nat.add_sub_cancel_left, Int.toNat_natCast, reps, List.all_cons, List.all_nil, C.flat, List.append_eq, Bool.not_true, Bool.and_true, Bool.or_false, Bool.or_self, Bool.not_false, List.append_nil, Bool.and_self, ↓prC_rk, ↓rqO_rk, encPr, encP]); rfl) ?_
    repeat' (first | (fail_if_success (with_reducible refine xstp ?_)); first | ((fail_if_success (with_reducible first | refine xgon ?_ | intro _)); (conv => whnf); (fail_if_success (fail_if_success (with_reducible first | refine xstp ?_ | refine xgon ?_ | intro _)))))
    refine LoopK.mk' ({k : Nat // k ≤ p.rq.length} × Nat)
      (fun ⟨⟨k, _⟩, cc⟩ => ⟨[(0, .c (.p 0 0 0)), (1, .c (.p 4 0 0)), (2, .c (.i .i64 at')), (7, .c (.sl 6 0 11 0 (polB id X p at' ++ polR id l X p at' k).length cc)), (39, .c (.sl 5 0 1 0 p.rq.length cq)), (40, .c (.i .i64 p.rq.length)), (41, .c (.i .i64 k))],
        [.one (wrc 1 2 id per la q), .one (hist 3 q l.length c), .one .no, .one (smps true l c), .one (.cells true (encPr 5 0 X (pS p) cq)), .one (ints true (srtI p.rq) cq), .one (pkR true (polB id X p at' ++ polR id l X p at' k) cc)]⟩)
      (fun k => p.rq.length - k.1.1)
      ⟨⟨⟨0, Nat.zero_le _⟩, 0⟩, [0, 1, 2, 3, 4, 5, 99], ?_⟩ ?_
    · (repeat' first | refine And.intro ?_ ?_ | exact xeC | fail)
      all_goals try rw [h0]
      all_goals first
        | rfl
        | exact hsl.symm
        | exact Nat.le_of_eq hsl
        | (show p.bg = false; assumption)
        | exact Nat.le_refl _
        | (intro i hi
           have hi1 : i < 1 := hi
           obtain rfl : i = 0 := by omega
           rfl)
        | (intro i hi; exact absurd hi (Nat.not_lt_zero i))
        | skip
      all_goals trace_state
    rintro ⟨⟨k, hk⟩, cc⟩
    have hRl := polR_le id l X p at' k
    have hOl : (polB id X p at' ++ polR id l X p at' k).length ≤ 100001 := by rw [List.length_append]; omega
    repeat' (first | (fail_if_success (with_reducible refine xstp ?_)); first | ((with_reducible refine And.intro (fun (hb : _ = true) => ?_) (fun (hb : _ = false) => ?_)) <;> replace hb := xnC hb <;> (try first | exact xfC | exact bff hb (by assumption) | exact bff (by assumption) hb)) | ((with_reducible refine And.intro ?_ ?_); focus exact xoC) | (with_reducible intro hc; (try simp only [capsP, and_true] at hc); (try exact xfC)) | ((fail_if_success (with_reducible first | refine xgon ?_ | intro _)); (conv => whnf); (fail_if_success (fail_if_success (with_reducible first | refine xstp ?_ | refine xgon ?_ | intro _)))))
    · rw [show 0 + ((k : Nat) : Int).toNat = k by omega]
      refine cH18zoG0 (σ := [.whole 0, .whole 1, .name 2, .whole 3, .whole 4, .name 5]) (nl := []) (cdata id per la q l c X (pS p) cq ((srtI p.rq).getD k default) at' hl) ?_
      rintro v h' ⟨rfl, rfl⟩ hcaps
      rw [show dat id l X (pS p) at' ((srtI p.rq).getD k default) = dat id l X p at' ((srtI p.rq).getD k default) from rfl]
      have hR1 := polR_succ id l X p at' (show k < p.rq.length by omega)
      generalize dat id l X p at' ((srtI p.rq).getD k default) = y at *
      refine ret_mk3 (by (try simp only [↓List.length_cons, ↓List.length_nil, Nat.reduceAdd]); rfl) (by (try simp (maxSteps := 1000000) only [givesF, setF, updF, Fam.zeroth, Fam.rk, Ck.rk, C.rk, E.rk, T.rk, key, List.map_cons, List.map_nil, List.cons_append, List.nil_append, List.length_cons, List.length_nil, Option.map_some, Option.bind_some, Nat.reduceAdd, Nat.zero_add, Nat.add_zero, Nat.add_sub_cancel_left, Int.toNat_natCast, reps, List.all_cons, List.all_nil, C.flat, List.append_eq, Bool.not_true, Bool.and_true, Bool.or_false, Bool.or_self, Bool.not_false, List.append_nil, Bool.and_self, ↓prC_rk, ↓rqO_rk, encPr, encP]); rfl) (by (try simp only [givesF, setF, updF, Fam.zeroth, Fam.rk, Ck.rk, C.rk, E.rk, T.rk, key, List.map_cons, List.map_nil, List.cons_append, List.nil_append, List.length_cons, List.length_nil, Option.map_some, Option.bind_some, Nat.reduceAdd, Nat.zero_add, Nat.add_zero, Nat.add_sub_cancel_left, Int.toNat_natCast, reps, List.all_cons, List.all_nil, C.flat, List.append_eq, Bool.not_true, Bool.and_true, Bool.or_false, Bool.or_self, Bool.not_false, List.append_nil, Bool.and_self, ↓prC_rk, ↓rqO_rk, encPr, encP]); rfl) ?_
      repeat' (first | (fail_if_success (with_reducible refine xstp ?_)); first | ((with_reducible refine And.intro ?_ ?_); focus exact xoC) | ((with_reducible refine Or.inl ⟨?_, ?_, ?_⟩); (focus rfl); focus exact xaC) | (with_reducible intro hc; (try simp only [capsP, and_true] at hc); (try exact xfC)) | ((fail_if_success (with_reducible first | refine xgon ?_ | intro _)); (conv => whnf); (fail_if_success (fail_if_success (with_reducible first | refine xstp ?_ | refine xgon ?_ | intro _)))))
      rename_i c2
      refine ⟨⟨⟨k + 1, by omega⟩, c2⟩, [0, 1, 2, 3, 4, 5, 8], by simp only; omega, ?_⟩
      simp only [hR1, ← List.append_assoc]
      (repeat' first | refine And.intro ?_ ?_ | exact xeC | fail)
      all_goals first
        | (simp only [List.length_append, List.length_cons, List.length_nil]; done)
        | (simp only [List.length_append, List.length_cons, List.length_nil]; exact Nat.le_refl _)
        | (intro i hi; exact app_rowG (encP .nils) (polB id X p at' ++ polR id l X p at' k) y _ rfl i hi)
        | skip
      all_goals trace_state
    obtain rfl : k = p.rq.length := by omega
    refine LoopK.mk' ({k : Nat // k ≤ (la - p.se).toNat} × Nat)
      (fun ⟨⟨k, _⟩, cc⟩ => ⟨[(0, .c (.p 0 0 0)), (1, .c (.p 4 0 0)), (2, .c (.i .i64 at')), (7, .c (.sl 6 0 11 0 (polB id X p at' ++ polR id l X p at' p.rq.length ++ polN id l X p at' k).length cc)), (10, .c (.i .i64 (p.se + 1 + (k : Int))))],
        [.one (wrc 1 2 id per la q), .one (hist 3 q l.length c), .one .no, .one (smps true l c), .one (.cells true (encPr 7 0 X (pE p) 0)), .one .no, .one (pkR true (polB id X p at' ++ polR id l X p at' p.rq.length ++ polN id l X p at' k) cc), .one (ints true [] 0)]⟩)
      (fun k => (la - p.se).toNat - k.1.1)
      ⟨⟨⟨0, Nat.zero_le _⟩, cc⟩, [0, 1, 2, 3, 4, 5, 6, 99], ?_⟩ ?_
    · have h1 : polB id X p at' ++ polR id l X p at' p.rq.length ++ polN id l X p at' 0 = polB id X p at' ++ polR id l X p at' p.rq.length := List.append_nil _
      (repeat' first | refine And.intro ?_ ?_ | exact xeC | fail)
      all_goals try rw [h1]
      all_goals first
        | rfl
        | exact Nat.le_refl _
        | exact (Int.add_zero _).symm
        | exact fun _ _ => rfl
        | skip
      all_goals trace_state
    rintro ⟨⟨k, hk⟩, cc⟩
    have hNl := polN_le id l X p at' k
    have hOl : (polB id X p at' ++ polR id l X p at' p.rq.length ++ polN id l X p at' k).length ≤ 1100001 := by rw [List.length_append, List.length_append]; have : (polR id l X p at' p.rq.length).length ≤ p.rq.length := polR_le id l X p at' _; omega
    repeat' (first | (fail_if_success (with_reducible refine xstp ?_)); first | ((with_reducible refine And.intro (fun (hb : _ = true) => ?_) (fun (hb : _ = false) => ?_)) <;> replace hb := xnC hb <;> (try first | exact xfC | exact bff hb (by assumption) | exact bff (by assumption) hb)) | ((with_reducible refine And.intro ?_ ?_); focus exact xoC) | ((with_reducible refine Or.inl ⟨?_, ?_, ?_⟩); (focus rfl); focus exact xaC) | (with_reducible intro hc; (try simp only [capsP, and_true] at hc); (try exact xfC)) | ((fail_if_success (with_reducible first | refine xgon ?_ | intro _)); (conv => whnf); (fail_if_success (fail_if_success (with_reducible first | refine xstp ?_ | refine xgon ?_ | intro _)))))
    · refine cH18zoG0 (σ := [.whole 0, .whole 1, .name 2, .whole 3, .whole 4, .name 7]) (nl := []) (cdata id per la q l c X (pE p) 0 (p.se + 1 + (k : Int)) at' hl) ?_
      rintro v h' ⟨rfl, rfl⟩ hcaps
      rw [show dat id l X (pE p) at' (p.se + 1 + (k : Int)) = dat id l X p at' (p.se + 1 + (k : Int)) from rfl]
      have hN1 := polN_succ id l X p at' k
      unfold polN1 at hN1
      generalize dat id l X p at' (p.se + 1 + (k : Int)) = y at *
      refine ret_mk3 (by (try simp only [↓List.length_cons, ↓List.length_nil, Nat.reduceAdd]); rfl) (by (try simp (maxSteps := 1000000) only [givesF, setF, updF, Fam.zeroth, Fam.rk, Ck.rk, C.rk, E.rk, T.rk, key, List.map_cons, List.map_nil, List.cons_append, List.nil_append, List.length_cons, List.length_nil, Option.map_some, Option.bind_some, Nat.reduceAdd, Nat.zero_add, Nat.add_zero, Nat.add_sub_cancel_left, Int.toNat_natCast, reps, List.all_cons, List.all_nil, C.flat, List.append_eq, Bool.not_true, Bool.and_true, Bool.or_false, Bool.or_self, Bool.not_false, List.append_nil, Bool.and_self, ↓prC_rk, ↓rqO_rk, encPr, encP]); rfl) (by (try simp only [givesF, setF, updF, Fam.zeroth, Fam.rk, Ck.rk, C.rk, E.rk, T.rk, key, List.map_cons, List.map_nil, List.cons_append, List.nil_append, List.length_cons, List.length_nil, Option.map_some, Option.bind_some, Nat.reduceAdd, Nat.zero_add, Nat.add_zero, Nat.add_sub_cancel_left, Int.toNat_natCast, reps, List.all_cons, List.all_nil, C.flat, List.append_eq, Bool.not_true, Bool.and_true, Bool.or_false, Bool.or_self, Bool.not_false, List.append_nil, Bool.and_self, ↓prC_rk, ↓rqO_rk, encPr, encP]); rfl) ?_
      repeat' (first | (fail_if_success (with_reducible refine xstp ?_)); first | ((with_reducible refine And.intro (fun (hb : _ = true) => ?_) (fun (hb : _ = false) => ?_)) <;> replace hb := xnC hb <;> (try first | exact xfC | exact bff hb (by assumption) | exact bff (by assumption) hb)) | ((with_reducible refine And.intro ?_ ?_); focus exact xoC) | ((with_reducible refine Or.inl ⟨?_, ?_, ?_⟩); (focus rfl); focus exact xaC) | (with_reducible intro hc; (try simp only [capsP, and_true] at hc); (try exact xfC)) | ((fail_if_success (with_reducible first | refine xgon ?_ | intro _)); (conv => whnf); (fail_if_success (fail_if_success (with_reducible first | refine xstp ?_ | refine xgon ?_ | intro _)))))
      all_goals first
        | (have hcnd : p.rel = true ∨ y.k = 1 := by first | exact .inl ‹(pE p).rel = true› | exact .inr ‹y.k = 1›
           rw [if_pos hcnd] at hN1
           rename_i c2
           refine ⟨⟨⟨k + 1, by omega⟩, c2⟩, [0, 1, 2, 3, 4, 5, 10, 7], by simp only; omega, ?_⟩
           simp only [hN1, ← List.append_assoc]
           (repeat' first | refine And.intro ?_ ?_ | exact xeC | fail)
           all_goals first
             | (simp only [List.length_append, List.length_cons, List.length_nil]; done)
             | (simp only [List.length_append, List.length_cons, List.length_nil]; exact Nat.le_refl _)
             | (intro i hi; exact app_rowG (encP .nils) (polB id X p at' ++ polR id l X p at' p.rq.length ++ polN id l X p at' k) y _ rfl i hi)
             | (show p.se + 1 + (k : Int) + 1 = p.se + 1 + ((k + 1 : Nat) : Int); omega)
           done)
        | (have hc1 : ¬ y.k = 1 := ‹¬ y.k = 1›
           have hc2 : p.rel = false := ‹(pE p).rel = false›
           have hcnd : ¬ (p.rel = true ∨ y.k = 1) := fun h => h.elim (fun h => by rw [hc2] at h; cases h) hc1
           rw [if_neg hcnd, List.append_nil] at hN1
           refine ⟨⟨⟨k + 1, by omega⟩, cc⟩, [0, 1, 2, 3, 4, 5, 6, 7], by simp only; omega, ?_⟩
           simp only [hN1]
           (repeat' first | refine And.intro ?_ ?_ | exact xeC | fail)
           all_goals first
             | (show p.se + 1 + (k : Int) + 1 = p.se + 1 + ((k + 1 : Nat) : Int); omega)
           done)
        | skip
      all_goals trace_state
      all_goals stop
      all_goals skip
    rename Nat => c2
    all_goals have ek : k = (la - p.se).toNat := by omega
    all_goals subst ek
    · have hbe : beats p la at' := ⟨‹(pE p).rel = true›, ‹(pE p).ac < la›, ‹(pE p).bt ≤ at'›⟩
      have e1 : polL id l X p la at' = polB id X p at' ++ polR id l X p at' p.rq.length ++ polN id l X p at' (la - p.se).toNat ++ [hbK id X p la at'] := by unfold polL polH; rw [if_pos hbe]
      have e2 : polP per p la at' = ⟨p.nd, p.rel, p.st, p.ac, la, [], false, at' + per⟩ := by unfold polP; rw [if_pos hbe]
      rw [e1, e2]
      refine FinK.mk ⟨[0, 1, 2, 3, 4, 5, 9, 7], _, _, ⟨c2, rfl, rfl⟩, ?_⟩
      (repeat' first | refine And.intro ?_ ?_ | exact xeC | fail)
      all_goals first
        | (simp only [List.length_append, List.length_cons, List.length_nil]; done)
        | (simp only [List.length_append, List.length_cons, List.length_nil]; exact Nat.le_refl _)
        | (intro i hi; exact app_rowG (encP .nils) (polB id X p at' ++ polR id l X p at' p.rq.length ++ polN id l X p at' (la - p.se).toNat) (hbK id X p la at') _ rfl i hi)
        | skip
      all_goals trace_state
    all_goals (
      have hbe : ¬ beats p la at' := fun h => by
        have h1 : (pE p).rel = true := h.1
        have h2 : (pE p).ac < la := h.2.1
        have h3 : (pE p).bt ≤ at' := h.2.2
        first
          | omega
          | exact absurd h1 (by rw [‹(pE p).rel = false›]; simp)
      have e1 : polL id l X p la at' = polB id X p at' ++ polR id l X p at' p.rq.length ++ polN id l X p at' (la - p.se).toNat := by unfold polL polH; rw [if_neg hbe, List.append_nil]
      have e2 : polP per p la at' = ⟨p.nd, p.rel, p.st, p.ac, la, [], false, p.bt⟩ := by unfold polP; rw [if_neg hbe]
      rw [e1, e2]
      refine FinK.mk ⟨[0, 1, 2, 3, 4, 5, 6, 7], _, _, ⟨cc, rfl, rfl⟩, ?_⟩
      (repeat' first | refine And.intro ?_ ?_ | exact xeC | fail)
      all_goals trace_state
      skip)
end Go.Proofs.YtofcadbfjbefkaaGreat


namespace Go.Proofs.YtofcadbfjbefkaaGreat
open Go.X
set_option linter.unusedSimpArgs false
set_option linter.unusedVariables false
abbrev ptR (w : Bool) (F : Nat) (l : List Nat) (c : Nat) : Ck := .row w true 76 1 l.length c (fun i => [.p F (l.getD i default) 0])
def srtN (l : List Nat) : List Nat := l.mergeSort fun x y => decide (x ≤ y)
theorem srtN_of {l m : List Nat} (h1 : m.Pairwise (· ≤ ·)) (h2 : m.Perm l) : m = srtN l := by
  refine List.Perm.eq_of_pairwise (le := fun a b => a ≤ b) (fun a b _ _ h1 h2 => Nat.le_antisymm h1 h2) h1 ?_ (h2.trans (List.mergeSort_perm l _).symm)
  have := List.pairwise_mergeSort (le := fun x y : Nat => decide (x ≤ y)) (fun a b c => by simp; omega) (fun a b => by simp; omega) l
  exact this.imp fun h => of_decide_eq_true h
def KnB (D : Nat → Option Pr) (l : List Nat) : Prop := ∀ x ∈ l, (∃ p, D x = some p) ∧ x ≤ 1073741824
set_option maxRecDepth 10000 in
theorem ccmp (D : Nat → Option Pr) (cf : Nat → Nat) (x y : Nat) (hx : (∃ p, D x = some p) ∧ x ≤ 1073741824) (hy : (∃ p, D y = some p) ∧ y ≤ 1073741824) :
    Ctr Tryz.prog 72 [.c (.p 0 x 0), .c (.p 0 y 0)] [prs 1 D cf, .one .no] fun v h => v = .c (.i .i64 ((x : Int) - y)) ∧ h = [prs 1 D cf, .one .no] := by
  obtain ⟨⟨p, hp⟩, hx⟩ := hx
  obtain ⟨⟨p2, hp2⟩, hy⟩ := hy
  refine Ctr.mk' tbv mixed Tryz.func72 rfl rfl rfl (fun _ _ => by kernel_rfl) (by kernel_rfl) (by rfl) (by rfl) (by (repeat' first | refine And.intro ?_ ?_ | exact xeC | fail) <;> exact xmC) ?_
  repeat' (first | (fail_if_success (with_reducible refine xstp ?_)); first | (with_reducible intro hc; (try simp only [capsP, and_true] at hc); (try exact xfC)) | ((fail_if_success (with_reducible first | refine xgon ?_ | intro _)); (conv => whnf); (fail_if_success (fail_if_success (with_reducible first | refine xstp ?_ | refine xgon ?_ | intro _)))))
  all_goals try (
    refine ManyK.mk ⟨.cells true (encPr 1 x x p (cf x)), by simp only [hp]; rfl, ?_⟩
    repeat' (first | (fail_if_success (with_reducible refine xstp ?_)); first | ((fail_if_success (with_reducible first | refine xgon ?_ | intro _)); (conv => whnf); (fail_if_success (fail_if_success (with_reducible first | refine xstp ?_ | refine xgon ?_ | intro _)))))
    skip)
  all_goals try (
    refine ManyK.mk ⟨.cells true (encPr 1 y y p2 (cf y)), by simp only [hp2]; rfl, ?_⟩
    repeat' (first | (fail_if_success (with_reducible refine xstp ?_)); first | ((with_reducible refine And.intro ?_ ?_); focus exact xoC) | ((fail_if_success (with_reducible first | refine xgon ?_ | intro _)); (conv => whnf); (fail_if_success (fail_if_success (with_reducible first | refine xstp ?_ | refine xgon ?_ | intro _)))))
    skip)
  all_goals (
    refine FinK.mk ⟨[0, 1], _, _, ⟨rfl, rfl⟩, ?_⟩; (repeat' first | refine And.intro ?_ ?_ | exact xeC | fail)
    all_goals (exact xmC))
theorem fin_any {t : List (Nat × T)} {k : Int} : FinK 0 ⟨t, []⟩ (.c (.i .i64 k)) fun v h => ∃ k, v = .c (.i .i64 k) ∧ h = [] := by
  refine FinK.mk ⟨[], .c (.i .i64 k), [], ⟨k, rfl, rfl⟩, ?_⟩
  (repeat' first | refine And.intro ?_ ?_ | exact xeC | fail)
set_option maxRecDepth 10000 in
theorem cLen64 (n : Int) (h : 0 ≤ n ∧ n ≤ 12) : Ctr Tryz.prog 99 [.c (.i .u64 n)] [] fun v h => ∃ k, v = .c (.i .i64 k) ∧ h = [] := by
  refine Ctr.mk' tbv mixed Tryz.func99 rfl rfl rfl (fun _ _ => by kernel_rfl) (by kernel_rfl) (by rfl) (by rfl) (by (repeat' first | refine And.intro ?_ ?_ | exact xeC | fail)) ?_
  repeat' (first | (fail_if_success (with_reducible refine xstp ?_)); first | ((with_reducible refine And.intro (fun (hb : _ = true) => ?_) (fun (hb : _ = false) => ?_)) <;> replace hb := xnC hb <;> (try first | exact xfC | exact bff hb (by assumption) | exact bff (by assumption) hb)) | (with_reducible intro hc; (try simp only [capsP, and_true] at hc); (try exact xfC)) | ((fail_if_success (with_reducible first | refine xgon ?_ | intro _)); (conv => whnf); (fail_if_success (fail_if_success (with_reducible first | refine xstp ?_ | refine xgon ?_ | intro _)))))
  have hw : IntKind.u8.wrap n = n := by
    rw [IntKind.wrap_u8]; omega
  rw [hw]
  refine ⟨⟨h.1, ?_⟩, ?_⟩
  · show n < 256
    omega
  have hb8 : ∀ b : UInt8, In64 (0 + IntKind.i64.wrap ((b.toNat : Nat) : Int)) := fun b => by
    have hb := b.toNat_lt
    unfold In64
    rw [IntKind.wrap_i64]
    omega
  repeat' (first | (fail_if_success (with_reducible refine xstp ?_)); first | ((fail_if_success (with_reducible first | refine xgon ?_ | intro _)); (conv => whnf); (fail_if_success (fail_if_success (with_reducible first | refine xstp ?_ | refine xgon ?_ | intro _)))))
  refine ⟨hb8 _, ?_⟩
  repeat' (first | (fail_if_success (with_reducible refine xstp ?_)); first | ((fail_if_success (with_reducible first | refine xgon ?_ | intro _)); (conv => whnf); (fail_if_success (fail_if_success (with_reducible first | refine xstp ?_ | refine xgon ?_ | intro _)))))
  exact fin_any
theorem rH18zoH0 {σ : List Sg} {H h' : List Fam} {v : T} {K : T → List Fam → Prop} {H' : List Fam} {v' : T} {N : Nat} (hk : K v' H') (hN : H.length = N := by (try simp only [↓List.length_cons, ↓List.length_nil, Nat.reduceAdd]) <;> rfl) (h : givesF σ N H σ h' = some H' := by (try simp (maxSteps := 1000000) only [givesF, setF, updF, Fam.zeroth, Fam.rk, Ck.rk, C.rk, E.rk, T.rk, key, List.map_cons, List.map_nil, List.cons_append, List.nil_append, List.length_cons, List.length_nil, Option.map_some, Option.bind_some, Nat.reduceAdd, Nat.zero_add, Nat.add_zero, Nat.add_sub_cancel_left, Int.toNat_natCast, reps, List.all_cons, List.all_nil, C.flat, List.append_eq, Bool.not_true, Bool.and_true, Bool.or_false, Bool.or_self, Bool.not_false, List.append_nil, Bool.and_self, ↓prC_rk, ↓rqO_rk]) <;> rfl) (hv : v.rk σ N = v' := by (try simp only [givesF, setF, updF, Fam.zeroth, Fam.rk, Ck.rk, C.rk, E.rk, T.rk, key, List.map_cons, List.map_nil, List.cons_append, List.nil_append, List.length_cons, List.length_nil, Option.map_some, Option.bind_some, Nat.reduceAdd, Nat.zero_add, Nat.add_zero, Nat.add_sub_cancel_left, Int.toNat_natCast, reps, List.all_cons, List.all_nil, C.flat, List.append_eq, Bool.not_true, Bool.and_true, Bool.or_false, Bool.or_self, Bool.not_false, List.append_nil, Bool.and_self, ↓prC_rk, ↓rqO_rk]) <;> rfl) : RetG σ H h' v K := ret_mk3 hN h hv hk
theorem cH18zoH1 {P : Program} {F : Nat} {args : List T} {H : List Fam} {K : T → List Fam → Prop} {σ : List Sg} {nl : List Fam} {args0 : List T} {h0 : List Fam} {Q : T → List Fam → Prop} {H2 H1 : List Fam} {N n : Nat} (hc : Ctr P F args0 h0 Q) (hk : ∀ v h', Q v h' → capsP h' → RetG σ H2 h' v K) (hap : apart σ = true := by rfl) (hnl : nl.all nilB = true := by rfl) (h1 : H ++ nl = H1 := by first | exact List.append_nil _ | ((try simp only [List.cons_append, List.nil_append]) <;> rfl)) (hN : H1.length = N := by (try simp only [↓List.length_cons, ↓List.length_nil, Nat.reduceAdd]) <;> rfl) (hn : H.length = n := by (try simp only [↓List.length_cons, ↓List.length_nil, Nat.reduceAdd]) <;> rfl) (hH : givesF σ N H1 σ h0 = some H2 := by (try simp (maxSteps := 1000000) only [givesF, setF, updF, Fam.zeroth, Fam.rk, Ck.rk, C.rk, E.rk, T.rk, key, List.map_cons, List.map_nil, List.cons_append, List.nil_append, List.length_cons, List.length_nil, Option.map_some, Option.bind_some, Nat.reduceAdd, Nat.zero_add, Nat.add_zero, Nat.add_sub_cancel_left, Int.toNat_natCast, reps, List.all_cons, List.all_nil, C.flat, List.append_eq, Bool.not_true, Bool.and_true, Bool.or_false, Bool.or_self, Bool.not_false, List.append_nil, Bool.and_self, ↓prC_rk, ↓rqO_rk]) <;> rfl) (hle : leS n H1 σ N σ h0 (belsK N (h0.map (Fam.rk σ N)) (argsK n args (args0.map (T.rk σ N)) True)) := by repeat' first | refine And.intro ?_ ?_ | exact xeC | fail) : CallK P F args H K := CallK.mk3 hc hap hnl h1 hN hn hH hle hk
set_option maxRecDepth 10000 in
theorem cLen (n : Int) (h : 0 ≤ n ∧ n ≤ 12) : Ctr Tryz.prog 87 [.c (.i .u64 n)] [] fun v h => ∃ k, v = .c (.i .i64 k) ∧ h = [] := by
  refine Ctr.mk' tbv mixed Tryz.func87 rfl rfl rfl (fun _ _ => by kernel_rfl) (by kernel_rfl) (by rfl) (by rfl) (by (repeat' first | refine And.intro ?_ ?_ | exact xeC | fail)) ?_
  repeat' (first | (fail_if_success (with_reducible refine xstp ?_)); first | (with_reducible intro hc; (try simp only [capsP, and_true] at hc); (try exact xfC)) | ((fail_if_success (with_reducible first | refine xgon ?_ | intro _)); (conv => whnf); (fail_if_success (fail_if_success (with_reducible first | refine xstp ?_ | refine xgon ?_ | intro _)))))
  refine cH18zoH1 (σ := []) (nl := []) (cLen64 n h) ?_
  rintro v h' ⟨k, rfl, rfl⟩ hcaps
  refine rH18zoH0 ?_
  repeat' (first | (fail_if_success (with_reducible refine xstp ?_)); first | ((fail_if_success (with_reducible first | refine xgon ?_ | intro _)); (conv => whnf); (fail_if_success (fail_if_success (with_reducible first | refine xstp ?_ | refine xgon ?_ | intro _)))))
  refine FinK.mk ⟨[], _, _, ⟨k, rfl, rfl⟩, ?_⟩
  (repeat' first | refine And.intro ?_ ?_ | exact xeC | fail)
/-! ### insertion sort -/
theorem ins_next {A B : List Nat} {a x : Nat} (h : (A ++ [a] ++ B).Pairwise (· ≤ ·)) (hB : ∀ b ∈ B, x < b) (hx : x < a) : (∀ b ∈ a :: B, x < b) := fun b hb => by
  rcases List.mem_cons.1 hb with rfl | hb
  · exact hx
  · exact hB b hb
theorem ins_done {A B : List Nat} {x : Nat} (h : (A ++ B).Pairwise (· ≤ ·)) (hB : ∀ b ∈ B, x < b) (hA : ∀ a, A.getLast? = some a → a ≤ x) : (A ++ x :: B).Pairwise (· ≤ ·) := by
  rw [List.pairwise_append] at h ⊢
  refine ⟨h.1, List.pairwise_cons.2 ⟨fun b hb => Nat.le_of_lt (hB b hb), h.2.1⟩, fun a ha b hb => ?_⟩
  have hax : a ≤ x := by
    rcases List.eq_nil_or_concat A with rfl | ⟨A', y, rfl⟩
    · cases ha
    · have hy := hA y (by simp)
      have h1 := h.1
      simp only [List.concat_eq_append] at h1 ha
      rw [List.pairwise_append] at h1
      rcases List.mem_append.1 ha with ha | ha
      · exact Nat.le_trans (h1.2.2 a ha y (by simp)) hy
      · rw [List.mem_singleton.1 ha]; exact hy
  rcases List.mem_cons.1 hb with rfl | hb
  · exact hax
  · exact h.2.2 a ha b hb
theorem ins_perm {A B R l : List Nat} {x : Nat} (h : (A ++ B ++ x :: R).Perm l) : (A ++ x :: B ++ R).Perm l := by
  refine List.Perm.trans ?_ h
  rw [List.append_assoc, List.append_assoc]
  refine List.Perm.append_left A ?_
  show (x :: (B ++ R)).Perm (B ++ x :: R)
  exact List.perm_middle.symm
structure InsI (l : List Nat) (i : Nat) (S R : List Nat) : Prop where
  so : S.Pairwise (· ≤ ·)
  pe : (S ++ R).Perm l
  le : S.length = min i l.length
  po : 1 ≤ i
theorem ins_0 (l : List Nat) : InsI l 1 (l.take 1) (l.drop 1) := by
  refine ⟨?_, by rw [List.take_append_drop], by rw [List.length_take], Nat.le_refl _⟩
  cases l with
  | nil => exact List.Pairwise.nil
  | cons a l => simp
theorem sw_row {A B R : List Nat} {a x : Nat} (i : Nat) :
    (if i = A.length then [C.p 0 x 0] else if i = A.length + 1 then [C.p 0 a 0] else [C.p 0 ((A ++ [a] ++ x :: B ++ R).getD i default) 0]) = [C.p 0 ((A ++ x :: (a :: B) ++ R).getD i default) 0] := by
  by_cases h : i = A.length
  · rw [if_pos h, h]; simp [List.getD]
  · rw [if_neg h]
    by_cases h2 : i = A.length + 1
    · rw [if_pos h2, h2]; simp [List.getD, List.getElem?_append]
    · rw [if_neg h2]
      suffices e : (A ++ [a] ++ x :: B ++ R).getD i default = (A ++ x :: (a :: B) ++ R).getD i default by rw [e]
      simp only [List.getD, List.append_assoc, List.cons_append, List.nil_append]
      rcases Nat.lt_or_ge i A.length with h3 | h3
      · rw [List.getElem?_append_left h3, List.getElem?_append_left h3]
      · rw [List.getElem?_append_right h3, List.getElem?_append_right h3]
        obtain ⟨m, hm⟩ : ∃ m, i - A.length = m + 2 := ⟨i - A.length - 2, by omega⟩
        rw [hm]
        simp
set_option maxRecDepth 10000 in
set_option maxHeartbeats 8000000 in
theorem cinsert (D : Nat → Option Pr) (cf : Nat → Nat) (l : List Nat) (c : Nat) (hl : l.length ≤ 1000000) (hk : KnB D l) :
    Ctr Tryz.prog 90 [.c (.sl 2 0 1 0 l.length c), .c (.i .i64 0), .c (.i .i64 l.length), .c (.fn 72 [])] [prs 1 D cf, .one .no, .one (ptR true 0 l c)]
      fun v h => v = .t [] ∧ h = [prs 1 D cf, .one .no, .one (ptR true 0 (srtN l) c)] := by
  refine Ctr.mk' tbv mixed Tryz.func90 rfl rfl rfl (fun _ _ => by kernel_rfl) (by kernel_rfl) (by rfl) (by rfl) (by (repeat' first | refine And.intro ?_ ?_ | exact xeC | fail) <;> exact xmC) ?_
  repeat' (first | (fail_if_success (with_reducible refine xstp ?_)); first | ((with_reducible refine And.intro ?_ ?_); focus exact xoC) | (with_reducible intro hc; (try simp only [capsP, and_true] at hc); (try exact xfC)) | ((fail_if_success (with_reducible first | refine xgon ?_ | intro _)); (conv => whnf); (fail_if_success (fail_if_success (with_reducible first | refine xstp ?_ | refine xgon ?_ | intro _)))))
  refine LoopK.mk' {k : Nat × List Nat × List Nat // InsI l k.1 k.2.1 k.2.2}
    (fun ⟨(i, S, R), _⟩ => ⟨[(0, .c (.sl 2 0 1 0 l.length c)), (1, .c (.i .i64 0)), (2, .c (.i .i64 l.length)), (3, .c (.fn 72 [])), (8, .c (.i .i64 (i : Nat)))], [prs 1 D cf, .one .no, .one (ptR true 0 (S ++ R) c)]⟩) (fun k => l.length - k.1.1)
    ⟨⟨(1, l.take 1, l.drop 1), ins_0 l⟩, [0, 1, 2], ?_⟩ ?_
  · (repeat' first | refine And.intro ?_ ?_ | exact xeC | fail)
    all_goals first
      | (exact xmC)
      | (rw [List.take_append_drop]; done)
      | (rw [List.take_append_drop]; exact Nat.le_refl _)
      | (intro i hi; rw [List.take_append_drop]; rfl)
      | skip
    all_goals trace_state
  rintro ⟨⟨i, S, R⟩, hI⟩
  obtain ⟨hso, hpe, hle, hpo⟩ := hI
  simp only at hso hpe hle hpo
  have hlen := hpe.length_eq
  rw [List.length_append] at hlen
  repeat' (first | (fail_if_success (with_reducible refine xstp ?_)); first | ((with_reducible refine And.intro (fun (hb : _ = true) => ?_) (fun (hb : _ = false) => ?_)) <;> replace hb := xnC hb <;> (try first | exact xfC | exact bff hb (by assumption) | exact bff (by assumption) hb)) | (with_reducible intro hc; (try simp only [capsP, and_true] at hc); (try exact xfC)) | ((fail_if_success (with_reducible first | refine xgon ?_ | intro _)); (conv => whnf); (fail_if_success (fail_if_success (with_reducible first | refine xstp ?_ | refine xgon ?_ | intro _)))))
  rotate_left 1
  · have hR : R = [] := List.eq_nil_of_length_eq_zero (by omega)
    subst hR
    rw [List.append_nil] at hpe
    have e : S = srtN l := srtN_of hso hpe
    rw [← e]
    refine FinK.mk ⟨[0, 1, 2], _, _, ⟨rfl, rfl⟩, ?_⟩
    (repeat' first | refine And.intro ?_ ?_ | exact xeC | fail)
    all_goals first
      | (exact xmC)
      | (rw [List.append_nil]; done)
      | (rw [List.append_nil]; exact Nat.le_refl _)
      | (intro i hi; rw [List.append_nil]; rfl)
      | skip
    all_goals trace_state
  have hil : i < l.length := by omega
  obtain ⟨x, R', rfl⟩ : ∃ x R', R = x :: R' := by
    cases R with
    | nil => simp at hlen; omega
    | cons x R' => exact ⟨x, R', rfl⟩
  have hSi : S.length = i := by omega
  have hxk := hk x (hpe.subset (by simp))
  refine LoopK.mk' {k : List Nat × List Nat // k.1 ++ k.2 = S ∧ ∀ b ∈ k.2, x < b}
    (fun ⟨(A, B), _⟩ => ⟨[(0, .c (.sl 2 0 1 0 l.length c)), (1, .c (.i .i64 0)), (2, .c (.i .i64 l.length)), (3, .c (.fn 72 [])), (8, .c (.i .i64 (i : Nat))), (9, .c (.i .i64 (A.length : Nat)))], [prs 1 D cf, .one .no, .one (ptR true 0 (A ++ x :: B ++ R') c)]⟩) (fun k => k.1.1.length)
    ⟨⟨(S, []), ⟨List.append_nil _, by simp⟩⟩, [0, 1, 2], ?_⟩ ?_
  · (repeat' first | refine And.intro ?_ ?_ | exact xeC | fail)
    all_goals first
      | (exact xmC)
      | (rw [List.append_assoc]; rfl)
      | (rw [List.append_assoc]; exact Nat.le_refl _)
      | (intro i hi; rw [List.append_assoc]; rfl)
      | (show (i : Int) = S.length; omega)
      | skip
    all_goals trace_state
  rintro ⟨⟨A, B⟩, hAB, hB⟩
  simp only at hAB hB
  subst hAB
  have hll : (A ++ x :: B ++ R').length = l.length := by simp at hlen ⊢; omega
  have hall : (A ++ x :: B ++ R').length ≤ 1000000 := by omega
  have hAl : A.length + B.length = i := by rw [← hSi, List.length_append]
  obtain rfl | ⟨A', a, rfl⟩ : A = [] ∨ ∃ A' a, A = A' ++ [a] := by
    rcases List.eq_nil_or_concat A with h | ⟨A', a, h⟩
    · exact .inl h
    · exact .inr ⟨A', a, by rw [h, List.concat_eq_append]⟩
  · have h00 : ([] : List Nat).length = 0 := rfl
    repeat' (first | (fail_if_success (with_reducible refine xstp ?_)); first | ((with_reducible refine And.intro (fun (hb : _ = true) => ?_) (fun (hb : _ = false) => ?_)) <;> replace hb := xnC hb <;> (try first | exact xfC | exact bff hb (by assumption) | exact bff (by assumption) hb)) | ((with_reducible refine And.intro ?_ ?_); focus exact xoC) | (with_reducible intro hc; (try simp only [capsP, and_true] at hc); (try exact xfC)) | ((fail_if_success (with_reducible first | refine xgon ?_ | intro _)); (conv => whnf); (fail_if_success (fail_if_success (with_reducible first | refine xstp ?_ | refine xgon ?_ | intro _)))))
    have hI2 : InsI l (i + 1) ([] ++ x :: B) R' := ⟨ins_done hso hB (fun a h => by cases h), ins_perm hpe, by simp at hSi ⊢; omega, by omega⟩
    refine ⟨⟨(i + 1, [] ++ x :: B, R'), hI2⟩, [0, 1, 2], by simp only; omega, ?_⟩
    (repeat' first | refine And.intro ?_ ?_ | exact xeC | fail)
    all_goals first | (exact xmC) | skip
    all_goals trace_state
  · have hak := hk a (hpe.subset (by simp))
    have hjl : (A' ++ [a]).length = A'.length + 1 := by simp
    have e1 : (A' ++ [a] ++ x :: B ++ R').getD (0 + (((A' ++ [a]).length : Nat) : Int).toNat) default = x := by
      rw [show 0 + (((A' ++ [a]).length : Nat) : Int).toNat = A'.length + 1 by omega]
      simp [List.getD, List.getElem?_append]
    have e2 : (A' ++ [a] ++ x :: B ++ R').getD (0 + ((((A' ++ [a]).length : Nat) : Int) - 1).toNat) default = a := by
      rw [show 0 + ((((A' ++ [a]).length : Nat) : Int) - 1).toNat = A'.length by omega]
      simp [List.getD, List.getElem?_append]
    repeat' (first | (fail_if_success (with_reducible refine xstp ?_)); first | ((with_reducible refine And.intro (fun (hb : _ = true) => ?_) (fun (hb : _ = false) => ?_)) <;> replace hb := xnC hb <;> (try first | exact xfC | exact bff hb (by assumption) | exact bff (by assumption) hb)) | ((with_reducible refine And.intro ?_ ?_); focus exact xoC) | (with_reducible intro hc; (try simp only [capsP, and_true] at hc); (try exact xfC)) | ((fail_if_success (with_reducible first | refine xgon ?_ | intro _)); (conv => whnf); (fail_if_success (fail_if_success (with_reducible first | refine xstp ?_ | refine xgon ?_ | intro _)))))
    rw [e1, e2]
    refine cH18zoH1 (σ := [.whole 0, .name 1]) (nl := []) (ccmp D cf x a hxk hak) ?_ (hle := by (repeat' first | refine And.intro ?_ ?_ | exact xeC | fail) <;> exact xmC)
    rintro v h' ⟨rfl, rfl⟩ hcaps
    refine rH18zoH0 ?_
    repeat' (first | (fail_if_success (with_reducible refine xstp ?_)); first | ((with_reducible refine And.intro (fun (hb : _ = true) => ?_) (fun (hb : _ = false) => ?_)) <;> replace hb := xnC hb <;> (try first | exact xfC | exact bff hb (by assumption) | exact bff (by assumption) hb)) | ((with_reducible refine And.intro ?_ ?_); focus exact xoC) | ((fail_if_success (with_reducible first | refine xgon ?_ | intro _)); (conv => whnf); (fail_if_success (fail_if_success (with_reducible first | refine xstp ?_ | refine xgon ?_ | intro _)))))
    · have hxa : x < a := by omega
      rw [e2]
      repeat' (first | (fail_if_success (with_reducible refine xstp ?_)); first | ((with_reducible refine And.intro (fun (hb : _ = true) => ?_) (fun (hb : _ = false) => ?_)) <;> replace hb := xnC hb <;> (try first | exact xfC | exact bff hb (by assumption) | exact bff (by assumption) hb)) | (with_reducible refine Both.mk ?_ ?_) | ((with_reducible refine And.intro ?_ ?_); focus exact xoC) | ((with_reducible refine Or.inl ⟨?_, ?_, ?_⟩); (focus rfl); focus exact xaC) | ((with_reducible refine xwB ?_ ?_); focus exact xaC) | ((with_reducible refine xwC ?_ ?_); focus exact xaC) | ((with_reducible refine xwD ?_ ?_); focus exact xaC) | ((with_reducible refine xwE ?_ ?_); focus exact xaC) | (with_reducible intro hc; (try simp only [capsP, and_true] at hc); (try exact xfC)) | ((fail_if_success (with_reducible first | refine xgon ?_ | intro _)); (conv => whnf); (fail_if_success (fail_if_success (with_reducible first | refine xstp ?_ | refine Both.mk ?_ ?_ | refine xgon ?_ | intro _)))))
      have e3 : (fun i => if i = 0 + (((A' ++ [a]).length : Nat) : Int).toNat then [C.p 0 a 0] else (fun i => [C.p 0 ((A' ++ [a] ++ x :: B ++ R').getD i default) 0]) i) (0 + ((((A' ++ [a]).length : Nat) : Int) - 1).toNat) = [C.p 0 a 0] := by
        show (if _ then _ else _) = _
        rw [if_neg (by omega)]
        show [C.p 0 ((A' ++ [a] ++ x :: B ++ R').getD _ default) 0] = _
        rw [e2]
      rw [e1, e3]
      repeat' (first | (fail_if_success (with_reducible refine xstp ?_)); first | ((with_reducible refine And.intro ?_ ?_); focus exact xoC) | ((fail_if_success (with_reducible first | refine xgon ?_ | intro _)); (conv => whnf); (fail_if_success (fail_if_success (with_reducible first | refine xstp ?_ | refine xgon ?_ | intro _)))))
      refine ⟨⟨(A', a :: B), ⟨by simp, ins_next hso hB hxa⟩⟩, [0, 1, 2], by simp only; omega, ?_⟩
      (repeat' first | refine And.intro ?_ ?_ | exact xeC | fail)
      all_goals first
        | (exact xmC)
        | omega
        | (simp only [List.length_append, List.length_cons, List.length_nil]; omega)
        | (intro i hi
           have s1 : 0 + ((((A' ++ [a]).length : Nat) : Int) - 1).toNat = A'.length := by omega
           have s2 : 0 + (((A' ++ [a]).length : Nat) : Int).toNat = A'.length + 1 := by omega
           rw [s1, s2]
           exact sw_row i)
    · have hxa : a ≤ x := by omega
      have hI2 : InsI l (i + 1) (A' ++ [a] ++ x :: B) R' := ⟨ins_done hso hB (fun b h => by simp at h; omega), ins_perm hpe, by simp at hSi ⊢; omega, by omega⟩
      refine ⟨⟨(i + 1, A' ++ [a] ++ x :: B, R'), hI2⟩, [0, 1, 2], by simp only; omega, ?_⟩
      (repeat' first | refine And.intro ?_ ?_ | exact xeC | fail)
      all_goals (exact xmC)
set_option maxRecDepth 10000 in
set_option maxHeartbeats 8000000 in
theorem cpdq (D : Nat → Option Pr) (cf : Nat → Nat) (l : List Nat) (c : Nat) (lim : Int) (hl : l.length ≤ 12) (hk : KnB D l) :
    Ctr Tryz.prog 86 [.c (.sl 2 0 1 0 l.length c), .c (.i .i64 0), .c (.i .i64 l.length), .c (.i .i64 lim), .c (.fn 72 [])] [prs 1 D cf, .one .no, .one (ptR true 0 l c)]
      fun v h => v = .t [] ∧ h = [prs 1 D cf, .one .no, .one (ptR true 0 (srtN l) c)] := by
  refine Ctr.mk' tbv mixed Tryz.func86 rfl rfl rfl (fun _ _ => by kernel_rfl) (by kernel_rfl) (by rfl) (by rfl) (by (repeat' first | refine And.intro ?_ ?_ | exact xeC | fail) <;> exact xmC) ?_
  repeat' (first | (fail_if_success (with_reducible refine xstp ?_)); first | (with_reducible intro hc; (try simp only [capsP, and_true] at hc); (try exact xfC)) | ((fail_if_success (with_reducible first | refine xgon ?_ | intro _)); (conv => whnf); (fail_if_success (fail_if_success (with_reducible first | refine xstp ?_ | refine xgon ?_ | intro _)))))
  refine LoopK.mk' Unit (fun _ => ⟨[(0, .c (.sl 2 0 1 0 l.length c)), (1, .c (.i .i64 0)), (2, .c (.i .i64 l.length)), (4, .c (.fn 72 []))], [prs 1 D cf, .one .no, .one (ptR true 0 l c)]⟩) (fun _ => 0) ⟨(), [0, 1, 2], ?_⟩ ?_
  · (repeat' first | refine And.intro ?_ ?_ | exact xeC | fail)
    all_goals (exact xmC)
  rintro ⟨⟩
  repeat' (first | (fail_if_success (with_reducible refine xstp ?_)); first | ((with_reducible refine And.intro (fun (hb : _ = true) => ?_) (fun (hb : _ = false) => ?_)) <;> replace hb := xnC hb <;> (try first | exact xfC | exact bff hb (by assumption) | exact bff (by assumption) hb)) | ((with_reducible refine And.intro ?_ ?_); focus exact xoC) | (with_reducible intro hc; (try simp only [capsP, and_true] at hc); (try exact xfC)) | ((fail_if_success (with_reducible first | refine xgon ?_ | intro _)); (conv => whnf); (fail_if_success (fail_if_success (with_reducible first | refine xstp ?_ | refine xgon ?_ | intro _)))))
  refine cH18zoH1 (σ := [.whole 0, .name 1, .whole 2]) (nl := []) (cinsert D cf l c (by omega) hk) ?_ (hle := by (repeat' first | refine And.intro ?_ ?_ | exact xeC | fail) <;> exact xmC)
  rintro v h' ⟨rfl, rfl⟩ hcaps
  refine rH18zoH0 ?_
  repeat' (first | (fail_if_success (with_reducible refine xstp ?_)); first | ((fail_if_success (with_reducible first | refine xgon ?_ | intro _)); (conv => whnf); (fail_if_success (fail_if_success (with_reducible first | refine xstp ?_ | refine xgon ?_ | intro _)))))
  refine FinK.mk ⟨[0, 1, 2], _, _, ⟨rfl, rfl⟩, ?_⟩
  (repeat' first | refine And.intro ?_ ?_ | exact xeC | fail)
  all_goals (exact xmC)
set_option maxRecDepth 10000 in
set_option maxHeartbeats 8000000 in
theorem csortF (D : Nat → Option Pr) (cf : Nat → Nat) (l : List Nat) (c : Nat) (hl : l.length ≤ 12) (hk : KnB D l) :
    Ctr Tryz.prog 71 [.c (.sl 2 0 1 0 l.length c), .c (.fn 72 [])] [prs 1 D cf, .one .no, .one (ptR true 0 l c)]
      fun v h => v = .t [] ∧ h = [prs 1 D cf, .one .no, .one (ptR true 0 (srtN l) c)] := by
  refine Ctr.mk' tbv mixed Tryz.func71 rfl rfl rfl (fun _ _ => by kernel_rfl) (by kernel_rfl) (by rfl) (by rfl) (by (repeat' first | refine And.intro ?_ ?_ | exact xeC | fail) <;> exact xmC) ?_
  repeat' (first | (fail_if_success (with_reducible refine xstp ?_)); first | (with_reducible intro hc; (try simp only [capsP, and_true] at hc); (try exact xfC)) | ((fail_if_success (with_reducible first | refine xgon ?_ | intro _)); (conv => whnf); (fail_if_success (fail_if_success (with_reducible first | refine xstp ?_ | refine xgon ?_ | intro _)))))
  have hw : IntKind.u64.wrap (l.length : Int) = l.length := by rw [IntKind.wrap_u64]; omega
  rw [hw]
  refine cH18zoH1 (σ := []) (nl := []) (cLen (l.length : Int) (by omega)) ?_
  rintro v h' ⟨lim, rfl, rfl⟩ hcaps
  refine rH18zoH0 ?_
  repeat' (first | (fail_if_success (with_reducible refine xstp ?_)); first | ((fail_if_success (with_reducible first | refine xgon ?_ | intro _)); (conv => whnf); (fail_if_success (fail_if_success (with_reducible first | refine xstp ?_ | refine xgon ?_ | intro _)))))
  refine cH18zoH1 (σ := [.whole 0, .name 1, .whole 2]) (nl := []) (cpdq D cf l c lim hl hk) ?_ (hle := by (repeat' first | refine And.intro ?_ ?_ | exact xeC | fail) <;> exact xmC)
  rintro v h' ⟨rfl, rfl⟩ hcaps
  refine rH18zoH0 ?_
  repeat' (first | (fail_if_success (with_reducible refine xstp ?_)); first | ((fail_if_success (with_reducible first | refine xgon ?_ | intro _)); (conv => whnf); (fail_if_success (fail_if_success (with_reducible first | refine xstp ?_ | refine xgon ?_ | intro _)))))
  refine FinK.mk ⟨[0, 1, 2], _, _, ⟨rfl, rfl⟩, ?_⟩
  (repeat' first | refine And.intro ?_ ?_ | exact xeC | fail)
  all_goals (exact xmC)
/-! ### sorted -/
def numW (W : Ws) : List Nat := W.M.map fun e => e.2.toNat
theorem srtN_perm {l m : List Nat} (h : l.Perm m) : srtN l = srtN m := by
  refine srtN_of ?_ ((List.mergeSort_perm l _).trans h)
  have := List.pairwise_mergeSort (le := fun x y : Nat => decide (x ≤ y)) (fun a b c => by simp; omega) (fun a b => by simp; omega) l
  exact this.imp fun h => of_decide_eq_true h
theorem srt_num {W : Ws} {Q : List Nat} (hW : WOk W) (hQ : Seen W Q) (hall : ∀ i, i < W.M.length → i ∈ Q) : srtN (Q.map fun i => (W.M.getD i default).2.toNat) = srtN (numW W) := by
  have h1 : Q.Perm (List.range W.M.length) := (List.perm_ext_iff_of_nodup hQ.nd List.nodup_range).2 fun i => ⟨fun h => List.mem_range.2 (hQ.lt i h), fun h => hall i (List.mem_range.1 h)⟩
  have h2 : numW W = (List.range W.M.length).map fun i => (W.M.getD i default).2.toNat := by
    unfold numW
    apply List.ext_getElem (by simp)
    intro i h1 h2
    simp only [List.getElem_map, List.getElem_range]
    rw [getD_at (by simpa using h1)]
  rw [h2]
  exact srtN_perm (h1.map _)
set_option maxRecDepth 10000 in
set_option maxHeartbeats 8000000 in
theorem csorted (id per la : Int) (q : Qos) (W : Ws) (cf : Nat → Nat) (hW : WOk W) (hM : W.M.length ≤ 12) :
    Ctr Tryz.prog 48 [.c (.p 0 0 0)] [.one (wrc 1 2 id per la q), .one .no, .one (peM 3 W.M W.ck), prs 4 W.D cf, .one .no]
      fun v h => ∃ c, v = .c (.sl 5 0 1 0 (srtN (numW W)).length c) ∧ h = [.one (wrc 1 2 id per la q), .one .no, .one (peM 3 W.M W.ck), prs 4 W.D cf, .one .no, .one (ptR true 3 (srtN (numW W)) c)] := by
  refine Ctr.mk' tbv mixed Tryz.func48 rfl rfl rfl (fun _ _ => by kernel_rfl) (by kernel_rfl) (by rfl) (by rfl) (by (repeat' first | refine And.intro ?_ ?_ | exact xeC | fail) <;> exact xmC) ?_
  repeat' (first | (fail_if_success (with_reducible refine xstp ?_)); first | (with_reducible intro hc; (try simp only [capsP, and_true] at hc); (try exact xfC)) | ((fail_if_success (with_reducible first | refine xgon ?_ | intro _)); (conv => whnf); (fail_if_success (fail_if_success (with_reducible first | refine xstp ?_ | refine xgon ?_ | intro _)))))
  refine LoopK.mk' ({Q : List Nat // Seen W Q} × Nat)
    (fun ⟨⟨Q, _⟩, c⟩ => ⟨[(3, .c (.sl 6 0 1 0 (Q.map fun i => (W.M.getD i default).2.toNat).length c)), (10, .c (.p 5 0 0))], [.one (wrc 1 2 id per la q), .one .no, .one (peM 3 W.M W.ck), prs 4 W.D cf, .one .no, .one (.iter 2 0 W.ck (Q.map fun q => (W.M.getD q default).1)), .one (ptR true 3 (Q.map fun i => (W.M.getD i default).2.toNat) c)]⟩) (fun Q => W.M.length - Q.1.1.length)
    ⟨⟨⟨[], ⟨by simp, by simp⟩⟩, 0⟩, [0, 1, 2, 3, 4, 5, 99], ?_⟩ ?_
  · (repeat' first | refine And.intro ?_ ?_ | exact xeC | fail)
    all_goals first | (exact xmC) | (intro i hi; exact absurd hi (Nat.not_lt_zero i)) | skip
    all_goals trace_state
  rintro ⟨⟨Q, hQ⟩, c⟩
  have hQl := hQ.le
  have hlm : (Q.map fun i => (W.M.getD i default).2.toNat).length = Q.length := List.length_map _
  repeat' (first | (fail_if_success (with_reducible refine xstp ?_)); first | (with_reducible refine Both.mk ?_ ?_) | ((with_reducible refine And.intro ?_ ?_); focus exact xoC) | (with_reducible intro hc; (try simp only [capsP, and_true] at hc); (try exact xfC)) | ((fail_if_success (with_reducible first | refine xgon ?_ | intro _)); (conv => whnf); (fail_if_success (fail_if_success (with_reducible first | refine xstp ?_ | refine Both.mk ?_ ?_ | refine xgon ?_ | intro _)))))
  · rename_i i hi
    have hQ' := hQ.next hi hc
    have hQl' := hQ'.le
    rw [List.length_append, List.length_singleton] at hQl'
    repeat' (first | (fail_if_success (with_reducible refine xstp ?_)); first | ((with_reducible refine And.intro (fun (hb : _ = true) => ?_) (fun (hb : _ = false) => ?_)) <;> replace hb := xnC hb <;> (try first | exact xfC | exact bff hb (by assumption) | exact bff (by assumption) hb)) | (with_reducible refine Both.mk ?_ ?_) | ((with_reducible refine And.intro ?_ ?_); focus exact xoC) | ((with_reducible refine Or.inl ⟨?_, ?_, ?_⟩); (focus rfl); focus exact xaC) | ((with_reducible refine xwB ?_ ?_); focus exact xaC) | ((with_reducible refine xwC ?_ ?_); focus exact xaC) | ((with_reducible refine xwD ?_ ?_); focus exact xaC) | ((with_reducible refine xwE ?_ ?_); focus exact xaC) | (with_reducible intro hc; (try simp only [capsP, and_true] at hc); (try exact xfC)) | ((fail_if_success (with_reducible first | refine xgon ?_ | intro _)); (conv => whnf); (fail_if_success (fail_if_success (with_reducible first | refine xstp ?_ | refine Both.mk ?_ ?_ | refine xgon ?_ | intro _)))))
    refine ⟨i, hi, List.getLast?_concat, ?_⟩
    repeat' (first | (fail_if_success (with_reducible refine xstp ?_)); first | ((with_reducible refine And.intro ?_ ?_); focus exact xoC) | ((with_reducible refine Or.inl ⟨?_, ?_, ?_⟩); (focus rfl); focus exact xaC) | (with_reducible intro hc; (try simp only [capsP, and_true] at hc); (try exact xfC)) | ((fail_if_success (with_reducible first | refine xgon ?_ | intro _)); (conv => whnf); (fail_if_success (fail_if_success (with_reducible first | refine xstp ?_ | refine xgon ?_ | intro _)))))
    rename_i c2
    refine ⟨⟨⟨Q ++ [i], hQ'⟩, c2⟩, [0, 1, 2, 3, 4, 5, 8], by simp only [List.length_append, List.length_singleton]; omega, ?_⟩
    (repeat' first | refine And.intro ?_ ?_ | exact xeC | fail)
    all_goals first
      | (exact xmC)
      | (rw [List.map_append]; rfl)
      | (simp only [List.map_append, List.length_append, List.length_map, List.map_cons, List.map_nil, List.length_cons, List.length_nil]; done)
      | (simp only [List.map_append, List.length_append, List.length_map, List.map_cons, List.map_nil, List.length_cons, List.length_nil]; omega)
      | (intro a ha
         rw [List.map_append] at ha
         show _ = [C.p 3 ((List.map (fun i => (W.M.getD i default).2.toNat) (Q ++ [i])).getD a default) 0]
         rw [List.map_append]
         exact app_rowG (fun x => [C.p 3 x 0]) (Q.map fun i => (W.M.getD i default).2.toNat) (W.M.getD i default).2.toNat _ rfl a ha)
      | skip
    all_goals trace_state
  · have hall := hQ.all hW hc
    have hke : KnB W.D (Q.map fun i => (W.M.getD i default).2.toNat) := fun x hx => by
      obtain ⟨i, hi, rfl⟩ := List.mem_map.1 hx
      have := hW.a i (hQ.lt i hi)
      exact ⟨this.2, by omega⟩
    have hsr := srt_num hW hQ hall
    refine cH18zoH1 (σ := [.whole 3, .name 4, .whole 6]) (nl := []) (csortF W.D cf (Q.map fun i => (W.M.getD i default).2.toNat) c (by omega) hke) ?_ (hle := by (repeat' first | refine And.intro ?_ ?_ | exact xeC | fail) <;> exact xmC)
    rintro v h' ⟨rfl, rfl⟩ hcaps
    rw [hsr]
    refine rH18zoH0 ?_
    repeat' (first | (fail_if_success (with_reducible refine xstp ?_)); first | ((fail_if_success (with_reducible first | refine xgon ?_ | intro _)); (conv => whnf); (fail_if_success (fail_if_success (with_reducible first | refine xstp ?_ | refine xgon ?_ | intro _)))))
    have hlen2 : (srtN (numW W)).length = (Q.map fun i => (W.M.getD i default).2.toNat).length := by rw [← hsr]; exact List.length_mergeSort _
    refine FinK.mk ⟨[0, 1, 2, 3, 4, 6], _, _, ⟨c, rfl, rfl⟩, ?_⟩
    (repeat' first | refine And.intro ?_ ?_ | exact xeC | fail)
    all_goals first
      | (exact xmC)
      | exact hlen2
      | exact hlen2.symm
      | exact Nat.le_of_eq hlen2
      | skip
    all_goals trace_state
end Go.Proofs.YtofcadbfjbefkaaGreat


namespace Go.Proofs.YtofcadbfjbefkaaGreat
open Go.X
set_option linter.unusedSimpArgs false
set_option linter.unusedVariables false
def polF1 (id : Int) (l : List Smp) (la at' : Int) (D : Nat → Option Pr) (x : Nat) : List Pk := match D x with | some p => polL id l x p la at' | none => []
def polF (id : Int) (l : List Smp) (la at' : Int) (D : Nat → Option Pr) (L : List Nat) : List Pk := L.flatMap (polF1 id l la at' D)
def polD (per la at' : Int) (D : Nat → Option Pr) (L : List Nat) : Nat → Option Pr := fun y => if y ∈ L then (D y).map fun p => polP per p la at' else D y
def polC (cf : Nat → Nat) (L : List Nat) : Nat → Nat := fun y => if y ∈ L then 0 else cf y
def atOk (at' : Int) : Prop := 0 ≤ at' ∧ at' ≤ 1099511627776
instance (a : Int) : Decidable (atOk a) := by unfold atOk; infer_instance
/-- What Poll sends, and leaves. -/
def poL (id : Int) (q : Qos) (at' : Int) (W : Ws) : List Pk := if atOk at' then polF id (stay q W.l at') W.la at' W.D (srtN (numW W)) else []
def poW (per : Int) (q : Qos) (at' : Int) (W : Ws) : Ws := if atOk at' then ⟨stay q W.l at', W.la, W.M, W.ck, polD per W.la at' W.D (srtN (numW W))⟩ else W
abbrev wP (id per : Int) (q : Qos) (W : Ws) (c : Nat) (cf : Nat → Nat) (o : List Pk) (co : Nat) : List Fam :=
  [.one (wrc 1 2 id per W.la q), .one (hist 6 q W.l.length c), .one (peM 4 W.M W.ck), .one .no, prs 7 W.D cf, .one .no, .one (smps true W.l c), rqs W.D cf, .one (pkR true o co)]
theorem polF_succ (id : Int) (l : List Smp) (la at' : Int) (D : Nat → Option Pr) (L : List Nat) {k : Nat} (hk : k < L.length) : polF id l la at' D (L.take (k + 1)) = polF id l la at' D (L.take k) ++ polF1 id l la at' D (L.getD k default) := by
  unfold polF
  rw [← List.take_append_getElem hk, List.flatMap_append, getD_at hk]
  simp
theorem polL_le {id : Int} {l : List Smp} {X : Nat} {p : Pr} {la at' : Int} (hp : PrOk la p) (hla : 0 ≤ la ∧ la ≤ 1000000) : (polL id l X p la at').length ≤ 1100003 := by
  have h1 := polB_le id X p at'
  have h2 := polR_le id l X p at' p.rq.length
  have h3 := polN_le id l X p at' (la - p.se).toNat
  have h4 : (polH id X p la at').length ≤ 1 := by unfold polH; split <;> simp
  have h5 := hp.rq
  have h6 := hp.se
  unfold polL
  simp only [List.length_append]
  omega
theorem polF_le {id : Int} {l : List Smp} {la at' : Int} {D : Nat → Option Pr} (hD : ∀ y p, D y = some p → PrOk la p) (hla : 0 ≤ la ∧ la ≤ 1000000) : ∀ L : List Nat, (polF id l la at' D L).length ≤ 1100003 * L.length
  | [] => Nat.le_refl _
  | x :: L => by
    have ih := polF_le (id := id) (l := l) (at' := at') hD hla L
    have h1 : (polF1 id l la at' D x).length ≤ 1100003 := by
      unfold polF1
      cases h : D x with
      | none => exact Nat.zero_le _
      | some p => exact polL_le (hD x p h) hla
    unfold polF at ih ⊢
    rw [List.flatMap_cons, List.length_append, List.length_cons]
    omega
theorem srt_nd {W : Ws} (hW : WOk W) : (srtN (numW W)).Nodup := by
  refine (List.mergeSort_perm _ _).nodup_iff.2 ?_
  unfold numW
  rw [List.nodup_iff_pairwise_ne, List.pairwise_map, List.pairwise_iff_getElem]
  intro i j hi hj hij e
  have h1 := hW.ne i j hij hj
  have h2 := (hW.a i hi).1
  have h3 := (hW.a j hj).1
  rw [getD_at hi] at h1 h2
  rw [getD_at hj] at h1 h3
  omega
theorem prs_set2 {N N' F F' X : Nat} {σ : List Sg} {D D' : Nat → Option Pr} {cf cf' : Nat → Nat} {c0 c1 : Ck} (hk : ∀ x, x ≠ X → key σ N' F x = (F', x)) (hD : ∀ y, y ≠ X → D' y = D y) (hc : ∀ y, y ≠ X → cf' y = cf y)
    (h1 : c1.leK N ((prC F X X (D' X) (cf' X)).rk σ N') True) (y : Nat) : (if y = X then c1 else if y = X then c0 else prC F' y y (D y) (cf y)).leK N ((prC F y y (D' y) (cf' y)).rk σ N') True := by
  by_cases h : y = X
  · subst h; rw [if_pos rfl]; exact h1
  · rw [if_neg h, if_neg h, hD y h, hc y h]; exact prC_le (hk y h)
theorem stay_le (q : Qos) (l : List Smp) (t : Int) : (stay q l t).length ≤ l.length := List.length_filter_le _ _
theorem rH18zoI0 {σ : List Sg} {H h' : List Fam} {v : T} {K : T → List Fam → Prop} {H' : List Fam} {v' : T} {N : Nat} (hk : K v' H') (hN : H.length = N := by (try simp only [↓List.length_cons, ↓List.length_nil, Nat.reduceAdd]) <;> rfl) (h : givesF σ N H σ h' = some H' := by (try simp (maxSteps := 1000000) only [givesF, setF, updF, Fam.zeroth, Fam.rk, Ck.rk, C.rk, E.rk, T.rk, key, List.map_cons, List.map_nil, List.cons_append, List.nil_append, List.length_cons, List.length_nil, Option.map_some, Option.bind_some, Nat.reduceAdd, Nat.zero_add, Nat.add_zero, Nat.add_sub_cancel_left, Int.toNat_natCast, reps, List.all_cons, List.all_nil, C.flat, List.append_eq, Bool.not_true, Bool.and_true, Bool.or_false, Bool.or_self, Bool.not_false, List.append_nil, Bool.and_self, ↓prC_rk, ↓rqO_rk]) <;> rfl) (hv : v.rk σ N = v' := by (try simp only [givesF, setF, updF, Fam.zeroth, Fam.rk, Ck.rk, C.rk, E.rk, T.rk, key, List.map_cons, List.map_nil, List.cons_append, List.nil_append, List.length_cons, List.length_nil, Option.map_some, Option.bind_some, Nat.reduceAdd, Nat.zero_add, Nat.add_zero, Nat.add_sub_cancel_left, Int.toNat_natCast, reps, List.all_cons, List.all_nil, C.flat, List.append_eq, Bool.not_true, Bool.and_true, Bool.or_false, Bool.or_self, Bool.not_false, List.append_nil, Bool.and_self, ↓prC_rk, ↓rqO_rk]) <;> rfl) : RetG σ H h' v K := ret_mk3 hN h hv hk
theorem cH18zoI1 {P : Program} {F : Nat} {args : List T} {H : List Fam} {K : T → List Fam → Prop} {σ : List Sg} {nl : List Fam} {args0 : List T} {h0 : List Fam} {Q : T → List Fam → Prop} {H2 H1 : List Fam} {N n : Nat} (hc : Ctr P F args0 h0 Q) (hk : ∀ v h', Q v h' → capsP h' → RetG σ H2 h' v K) (hap : apart σ = true := by rfl) (hnl : nl.all nilB = true := by rfl) (h1 : H ++ nl = H1 := by first | exact List.append_nil _ | ((try simp only [List.cons_append, List.nil_append]) <;> rfl)) (hN : H1.length = N := by (try simp only [↓List.length_cons, ↓List.length_nil, Nat.reduceAdd]) <;> rfl) (hn : H.length = n := by (try simp only [↓List.length_cons, ↓List.length_nil, Nat.reduceAdd]) <;> rfl) (hH : givesF σ N H1 σ h0 = some H2 := by (try simp (maxSteps := 1000000) only [givesF, setF, updF, Fam.zeroth, Fam.rk, Ck.rk, C.rk, E.rk, T.rk, key, List.map_cons, List.map_nil, List.cons_append, List.nil_append, List.length_cons, List.length_nil, Option.map_some, Option.bind_some, Nat.reduceAdd, Nat.zero_add, Nat.add_zero, Nat.add_sub_cancel_left, Int.toNat_natCast, reps, List.all_cons, List.all_nil, C.flat, List.append_eq, Bool.not_true, Bool.and_true, Bool.or_false, Bool.or_self, Bool.not_false, List.append_nil, Bool.and_self, ↓prC_rk, ↓rqO_rk]) <;> rfl) (hle : leS n H1 σ N σ h0 (belsK N (h0.map (Fam.rk σ N)) (argsK n args (args0.map (T.rk σ N)) True)) := by repeat' first | refine And.intro ?_ ?_ | exact xeC | fail) : CallK P F args H K := CallK.mk3 hc hap hnl h1 hN hn hH hle hk
set_option maxRecDepth 10000 in
set_option maxHeartbeats 16000000 in
theorem cpollW (id per : Int) (q : Qos) (W : Ws) (c : Nat) (cf : Nat → Nat) (at' : Int) (hW : WOk W) (hM : W.M.length ≤ 12) (hl : W.l.length ≤ 1000000) (hla : 0 ≤ W.la ∧ W.la ≤ 1000000) (hD : ∀ y p, W.D y = some p → PrOk W.la p) (hper : 1 ≤ per ∧ per ≤ 1099511627776) (hlt : ∀ x ∈ W.l, 0 ≤ x.t ∧ x.t ≤ 1099511627776) (hq : 0 ≤ q.life ∧ q.life ≤ 1099511627776) :
    Ctr Tryz.prog 18 [.c (.p 0 0 0), .c (.i .i64 at')] (wB id per q W c cf)
      fun v h => ∃ c' cf' co, v = .c (.sl 8 0 11 0 (poL id q at' W).length co) ∧ h = wP id per q (poW per q at' W) c' cf' (poL id q at' W) co := by
  refine Ctr.mk' tbv mixed Tryz.func18 rfl rfl rfl (fun _ _ => by kernel_rfl) (by kernel_rfl) (by rfl) (by rfl) (by (repeat' first | refine And.intro ?_ ?_ | exact xeC | fail) <;> exact xmC) ?_
  repeat' (first | (fail_if_success (with_reducible refine xstp ?_)); first | ((with_reducible refine And.intro (fun (hb : _ = true) => ?_) (fun (hb : _ = false) => ?_)) <;> replace hb := xnC hb <;> (try first | exact xfC | exact bff hb (by assumption) | exact bff (by assumption) hb)) | (with_reducible intro hc; (try simp only [capsP, and_true] at hc); (try exact xfC)) | ((fail_if_success (with_reducible first | refine xgon ?_ | intro _)); (conv => whnf); (fail_if_success (fail_if_success (with_reducible first | refine xstp ?_ | refine xgon ?_ | intro _)))))
  all_goals try (
    have hat : ¬ atOk at' := by unfold atOk; omega
    have e1 : poL id q at' W = [] := if_neg hat
    have e2 : poW per q at' W = W := if_neg hat
    rw [e1, e2]
    refine FinK.mk ⟨[0, 1, 2, 3, 4, 5, 3, 5, 99], _, _, ⟨c, cf, 0, rfl, rfl⟩, ?_⟩
    (repeat' first | refine And.intro ?_ ?_ | exact xeC | fail)
    all_goals first | (exact xmC) | (intro i hi; exact absurd hi (Nat.not_lt_zero i))
    done)
  have hat : atOk at' := by unfold atOk; omega
  have hat2 : 0 ≤ at' ∧ at' ≤ 1099511627776 := hat
  have hsl := stay_le q W.l at'
  have hol := polF_le (id := id) (l := stay q W.l at') (at' := at') hD hla
  have e1 : poL id q at' W = polF id (stay q W.l at') W.la at' W.D (srtN (numW W)) := if_pos hat
  have e2 : poW per q at' W = ⟨stay q W.l at', W.la, W.M, W.ck, polD per W.la at' W.D (srtN (numW W))⟩ := if_pos hat
  rw [e1, e2]
  refine cH18zoI1 (σ := [.whole 1, .whole 3]) (nl := []) (iexpire q W.l c at' hl hlt hq) ?_
  rintro v h' ⟨cg, cs, rfl, rfl⟩ hcaps
  refine rH18zoI0 ?_
  repeat' (first | (fail_if_success (with_reducible refine xstp ?_)); first | ((fail_if_success (with_reducible first | refine xgon ?_ | intro _)); (conv => whnf); (fail_if_success (fail_if_success (with_reducible first | refine xstp ?_ | refine xgon ?_ | intro _)))))
  refine cH18zoI1 (σ := [.whole 0, .name 1, .whole 2, .whole 4, .name 5]) (nl := []) (csorted id per W.la q W cf hW hM) ?_ (hle := by (repeat' first | refine And.intro ?_ ?_ | exact xeC | fail) <;> exact xmC)
  rintro v h' ⟨cp, rfl, rfl⟩ hcaps
  have hLl : (srtN (numW W)).length ≤ 12 := by unfold srtN numW; rw [List.length_mergeSort, List.length_map]; exact hM
  have hLm : ∀ x ∈ srtN (numW W), ∃ p, W.D x = some p := fun x hx => by
    have hx := List.mem_mergeSort.1 hx
    obtain ⟨e, he, rfl⟩ := List.mem_map.1 hx
    obtain ⟨i, hi, rfl⟩ := List.mem_iff_getElem.1 he
    have := (hW.a i hi).2
    rwa [getD_at hi] at this
  have hLn : (srtN (numW W)).Nodup := srt_nd hW
  generalize srtN (numW W) = L at *
  refine rH18zoI0 ?_
  repeat' (first | (fail_if_success (with_reducible refine xstp ?_)); first | ((fail_if_success (with_reducible first | refine xgon ?_ | intro _)); (conv => whnf); (fail_if_success (fail_if_success (with_reducible first | refine xstp ?_ | refine xgon ?_ | intro _)))))
  refine LoopK.mk' ({k : Nat // k ≤ L.length} × Nat)
    (fun ⟨⟨k, _⟩, co⟩ => ⟨[(0, .c (.p 0 0 0)), (1, .c (.i .i64 at')), (5, .c (.sl 9 0 11 0 (polF id (stay q W.l at') W.la at' W.D (L.take k)).length co)), (32, .c (.sl 7 0 1 0 L.length cp)), (33, .c (.i .i64 L.length)), (34, .c (.i .i64 k))],
      [.one (wrc 1 2 id per W.la q), .one (hist 6 q (stay q W.l at').length cs), .one (peM 4 W.M W.ck), .one .no, prs 8 (polD per W.la at' W.D (L.take k)) (polC cf (L.take k)), .one .no, .one (smps true (stay q W.l at') cs), .one (ptR true 4 L cp), rqs (polD per W.la at' W.D (L.take k)) (polC cf (L.take k)), .one (pkR true (polF id (stay q W.l at') W.la at' W.D (L.take k)) co)]⟩)
    (fun k => L.length - k.1.1)
    ⟨⟨⟨0, Nat.zero_le _⟩, 0⟩, [0, 1, 2, 3, 4, 5, 6, 8, 5, 99], ?_⟩ ?_
  · (repeat' first | refine And.intro ?_ ?_ | exact xeC | fail)
    all_goals first
      | (exact xmC)
      | (intro i hi; exact absurd hi (Nat.not_lt_zero i))
      | exact fun x => prC_le rfl
      | exact fun x => rqO_le
      | skip
    all_goals trace_state
  rintro ⟨⟨k, hk⟩, co⟩
  have hok := hol (L.take k)
  rw [List.length_take] at hok
  repeat' (first | (fail_if_success (with_reducible refine xstp ?_)); first | ((with_reducible refine And.intro (fun (hb : _ = true) => ?_) (fun (hb : _ = false) => ?_)) <;> replace hb := xnC hb <;> (try first | exact xfC | exact bff hb (by assumption) | exact bff (by assumption) hb)) | ((with_reducible refine And.intro ?_ ?_); focus exact xoC) | (with_reducible intro hc; (try simp only [capsP, and_true] at hc); (try exact xfC)) | ((fail_if_success (with_reducible first | refine xgon ?_ | intro _)); (conv => whnf); (fail_if_success (fail_if_success (with_reducible first | refine xstp ?_ | refine xgon ?_ | intro _)))))
  rotate_left 1
  · have ek : L.take k = L := List.take_of_length_le (by omega)
    rw [ek]
    refine FinK.mk ⟨[0, 1, 2, 3, 4, 5, 6, 8, 9], _, _, ⟨cs, polC cf L, co, rfl, rfl⟩, ?_⟩
    (repeat' first | refine And.intro ?_ ?_ | exact xeC | fail)
    all_goals first
      | (exact xmC)
      | exact fun x => prC_le rfl
      | exact fun x => rqO_le
      | exact fun x => prC_bel rfl
      | skip
    all_goals trace_state
  have hkl : k < L.length := by omega
  rw [show 0 + ((k : Nat) : Int).toNat = k by omega]
  have hxL : L.getD k default ∈ L := by rw [getD_at hkl]; exact List.getElem_mem _
  have hxn : L.getD k default ∉ L.take k := fun h => by
    obtain ⟨j, hj, e⟩ := List.mem_iff_getElem.1 h
    rw [List.length_take] at hj
    rw [List.getElem_take, getD_at hkl] at e
    have := (List.getElem_inj hLn).1 e
    omega
  have hFs := polF_succ id (stay q W.l at') W.la at' W.D L hkl
  obtain ⟨p, hp⟩ := hLm _ hxL
  have hts : L.take (k + 1) = L.take k ++ [L.getD k default] := by rw [← List.take_append_getElem hkl, getD_at hkl]
  generalize L.getD k default = x at *
  have hcell : prC 8 x x (polD per W.la at' W.D (L.take k) x) (polC cf (L.take k) x) = .cells true (encPr 8 x x p (cf x)) := by
    unfold polD polC; rw [if_neg hxn, if_neg hxn, hp]; rfl
  have hrow : rqO (polD per W.la at' W.D (L.take k) x) (polC cf (L.take k) x) = ints true p.rq (cf x) := by
    unfold polD polC; rw [if_neg hxn, if_neg hxn, hp]; rfl
  have hF1 : polF1 id (stay q W.l at') W.la at' W.D x = polL id (stay q W.l at') x p W.la at' := by unfold polF1; rw [hp]
  have hll := polL_le (id := id) (l := stay q W.l at') (X := x) (at' := at') (hD x p hp) hla
  rw [hF1] at hFs
  refine cH18zoI1 (σ := [.whole 0, .whole 1, .name 2, .whole 6, .mem 4 (x), .mem 8 (x)]) (nl := []) (cpoll1 id per W.la q (stay q W.l at') cs x p (cf x) at' (by omega) hla (hD x p hp) hat2 hper) ?_ (hle := by (repeat' first | refine And.intro ?_ ?_ | exact xeC | fail) <;> (refine ManyK.mk ⟨_, hcell, ?_⟩ <;> (repeat' first | refine And.intro ?_ ?_ | exact xeC | fail) <;> refine ManyK.mk ⟨_, hrow, ?_⟩ <;> (repeat' first | refine And.intro ?_ ?_ | exact xeC | fail)))
  rintro v h' ⟨cr, rfl, rfl⟩ hcaps
  generalize polL id (stay q W.l at') x p W.la at' = y at *
  refine ret_mk3 (by (try simp only [↓List.length_cons, ↓List.length_nil, Nat.reduceAdd]); rfl) (by (try simp (maxSteps := 1000000) only [givesF, setF, updF, Fam.zeroth, Fam.rk, Ck.rk, C.rk, E.rk, T.rk, key, List.map_cons, List.map_nil, List.cons_append, List.nil_append, List.length_cons, List.length_nil, Option.map_some, Option.bind_some, Nat.reduceAdd, Nat.zero_add, Nat.add_zero, Nat.add_sub_cancel_left, Int.toNat_natCast, reps, List.all_cons, List.all_nil, C.flat, List.append_eq, Bool.not_true, Bool.and_true, Bool.or_false, Bool.or_self, Bool.not_false, List.append_nil, Bool.and_self, ↓prC_rk, ↓rqO_rk, encPr]); rfl) (by (try simp only [givesF, setF, updF, Fam.zeroth, Fam.rk, Ck.rk, C.rk, E.rk, T.rk, key, List.map_cons, List.map_nil, List.cons_append, List.nil_append, List.length_cons, List.length_nil, Option.map_some, Option.bind_some, Nat.reduceAdd, Nat.zero_add, Nat.add_zero, Nat.add_sub_cancel_left, Int.toNat_natCast, reps, List.all_cons, List.all_nil, C.flat, List.append_eq, Bool.not_true, Bool.and_true, Bool.or_false, Bool.or_self, Bool.not_false, List.append_nil, Bool.and_self, ↓prC_rk, ↓rqO_rk, encPr]); rfl) ?_
  repeat' (first | (fail_if_success (with_reducible refine xstp ?_)); first | ((with_reducible refine And.intro ?_ ?_); focus exact xoC) | ((with_reducible refine Or.inl ⟨?_, ?_, ?_⟩); (focus rfl); focus exact xaC) | (with_reducible intro hc; (try simp only [capsP, and_true] at hc); (try exact xfC)) | ((fail_if_success (with_reducible first | refine xgon ?_ | intro _)); (conv => whnf); (fail_if_success (fail_if_success (with_reducible first | refine xstp ?_ | refine xgon ?_ | intro _)))))
  rename_i c3
  have hDn : ∀ y, y ≠ x → polD per W.la at' W.D (L.take k ++ [x]) y = polD per W.la at' W.D (L.take k) y := fun y hy => by
    unfold polD; simp [hy]
  have hCn : ∀ y, y ≠ x → polC cf (L.take k ++ [x]) y = polC cf (L.take k) y := fun y hy => by
    unfold polC; simp [hy]
  have hDx : polD per W.la at' W.D (L.take k ++ [x]) x = some (polP per p W.la at') := by unfold polD; simp [hp]
  have hCx : polC cf (L.take k ++ [x]) x = 0 := by unfold polC; simp
  have hki : ∀ y N, key [0, 1, 2, 3, 4, 5, 6, 7, .adopt 8 x 11, 12] N 8 y = (if y = x then 11 else 8, if y = x then 0 else y) := fun y N => rfl
  refine ⟨⟨⟨k + 1, by omega⟩, c3⟩, [0, 1, 2, 3, 4, 5, 6, 7, .adopt 8 x 11, 12], by simp only; omega, ?_⟩
  rw [hts] at hFs
  simp only [hts, hFs]
  (repeat' first | refine And.intro ?_ ?_ | exact xeC | fail)
  all_goals first
    | (exact xmC)
    | (simp only [List.length_append]; done)
    | (simp only [List.length_append]; exact Nat.le_refl _)
    | (intro i hi; exact app_rowL (encP .nils) (polF id (stay q W.l at') W.la at' W.D (L.take k)) y 0 _ (fun j hj => by rw [Nat.zero_add]; rfl) i hi)
    | exact fun y => prs_set2 (fun y hy => by rw [hki, if_neg hy, if_neg hy]) hDn hCn (prC_cells hDx (by rw [hki, if_pos rfl, if_pos rfl, hCx]; rfl)) y
    | (intro y hy
       show Ck.leK _ (if y = x then _ else if y = x then _ else _) (Ck.rk _ _ (rqO (polD per W.la at' W.D (L.take k ++ [x]) y) (polC cf (L.take k ++ [x]) y))) True
       rw [if_neg hy, if_neg hy, hDn y hy, hCn y hy]
       exact rqO_le)
    | skip
  refine leK_cong (q'' := ints true [] 0) (by show Ck.rk _ _ (rqO (polD per W.la at' W.D (L.take k ++ [x]) x) (polC cf (L.take k ++ [x]) x)) = _; rw [hDx, hCx]; rfl) ?_
  (repeat' first | refine And.intro ?_ ?_ | exact xeC | fail)
  all_goals first
    | (exact xmC)
    | (simp only [List.length_append]; done)
    | (simp only [List.length_append]; exact Nat.le_refl _)
    | (intro i hi; exact app_rowL (encP .nils) (polF id (stay q W.l at') W.la at' W.D (L.take k)) y 0 _ (fun j hj => by rw [Nat.zero_add]; rfl) i hi)
    | (intro i hi; exact absurd hi (Nat.not_lt_zero i))
    | skip
end Go.Proofs.YtofcadbfjbefkaaGreat


namespace Go.Proofs.YtofcadbfjbefkaaGreat
open Go.X
set_option linter.unusedSimpArgs false
set_option linter.unusedVariables false
/-- A writer with the one reader 3. -/
def oneW (l : List Smp) (la : Int) (p : Pr) : Ws := ⟨l, la, [(0, 3)], 1, fun y => if y = 3 then some p else none⟩
def noW (l : List Smp) (la : Int) : Ws := ⟨l, la, [], 0, fun _ => none⟩
theorem oneW_ok (l : List Smp) (la : Int) (p : Pr) : WOk (oneW l la p) := by
  refine ⟨fun i hi => ?_, fun x p' h => ?_, fun a b hab hb => ?_, fun a b hab hb => ?_, fun i hi => ?_⟩
  · have : i < 1 := hi
    obtain rfl : i = 0 := by omega
    exact ⟨⟨show (1 : Int) ≤ 3 by decide, show (3 : Int) ≤ 1073741824 by decide⟩, p, rfl⟩
  · have h : (if x = 3 then some p else none) = some p' := h
    split at h
    · rename_i e; subst e; exact ⟨0, Nat.one_pos, rfl, by decide⟩
    · cases h
  · have : b < 1 := hb; omega
  · have : b < 1 := hb; omega
  · have : i < 1 := hi
    obtain rfl : i = 0 := by omega
    exact Nat.one_pos
theorem oneW_D {l : List Smp} {la : Int} {p : Pr} {P : Pr → Prop} (h : P p) : ∀ y p', (oneW l la p).D y = some p' → P p' := fun y p' e => by
  have e : (if y = 3 then some p else none) = some p' := e
  split at e
  · rw [← Option.some.inj e]; exact h
  · cases e
theorem one_add (l : List Smp) (la : Int) (p : Pr) : addPW (noW l la) 3 p = oneW l la p := by
  unfold addPW noW oneW
  rfl
theorem one_srt (l : List Smp) (la : Int) (p : Pr) : srtN (numW (oneW l la p)) = [3] := by
  show List.mergeSort [3] _ = [3]
  exact List.mergeSort_singleton _
theorem one_poL {id : Int} {q : Qos} {at' : Int} {l : List Smp} {la : Int} {p : Pr} (h : atOk at') : poL id q at' (oneW l la p) = polL id (stay q l at') 3 p la at' := by
  unfold poL
  rw [if_pos h, one_srt]
  show (polF1 _ _ _ _ _ 3 ++ []) = _
  rw [List.append_nil]
  rfl
theorem one_poW {per : Int} {q : Qos} {at' : Int} {l : List Smp} {la : Int} {p : Pr} (h : atOk at') : poW per q at' (oneW l la p) = oneW (stay q l at') la (polP per p la at') := by
  unfold poW
  rw [if_pos h, one_srt]
  unfold oneW polD
  simp only [Ws.mk.injEq, true_and]
  funext y
  by_cases h3 : y = 3
  · subst h3; simp
  · simp [h3]
/-! ### Nobody -/
/-! ### awake -/
def awQ : Qos := ⟨true, false, false, 1, 0, 0, 0⟩
def awS : Smp := ⟨7, 1, 5, ⟨#[97]⟩⟩
def awP : Pr := ⟨2, true, 1, 0, 0, [], false, 0⟩
theorem aw_ma : maE awQ 3 2 0 awQ W0 = 0 ∧ maW awQ 3 2 0 awQ W0 = oneW [] 0 awP := ⟨rfl, by rw [show maW awQ 3 2 0 awQ W0 = addPW (noW [] 0) 3 awP from rfl, one_add]⟩
theorem aw_wr : wrE 7 awQ (oneW [] 0 awP) 5 ⟨#[97]⟩ = 0 ∧ wrN 7 awQ (oneW [] 0 awP) 5 ⟨#[97]⟩ = 1 ∧ wrW 7 awQ (oneW [] 0 awP) 5 ⟨#[97]⟩ = oneW [awS] 1 awP := ⟨by decide, by decide, rfl⟩
theorem aw_po : poL 7 awQ 5 (oneW [awS] 1 awP) = [datK 7 3 awP 1 awS, hbK 7 3 awP 1 5] := by
  rw [one_poL (by decide), (exp_zero (q := awQ) rfl [awS] 5).2]
  unfold polL
  rw [show polB 7 3 awP 5 = [] from rfl, show polR 7 [awS] 3 awP 5 awP.rq.length = [] by unfold polR; rw [show awP.rq.length = 0 from rfl, List.take_zero]; rfl]
  rfl
theorem rH18zoJ0 {σ : List Sg} {H h' : List Fam} {v : T} {K : T → List Fam → Prop} {H' : List Fam} {v' : T} {N : Nat} (hk : K v' H') (hN : H.length = N := by (try simp only [↓List.length_cons, ↓List.length_nil, Nat.reduceAdd]) <;> rfl) (h : givesF σ N H σ h' = some H' := by (try simp (maxSteps := 1000000) only [givesF, setF, updF, Fam.zeroth, Fam.rk, Ck.rk, C.rk, E.rk, T.rk, key, List.map_cons, List.map_nil, List.cons_append, List.nil_append, List.length_cons, List.length_nil, Option.map_some, Option.bind_some, Nat.reduceAdd, Nat.zero_add, Nat.add_zero, Nat.add_sub_cancel_left, Int.toNat_natCast, reps, List.all_cons, List.all_nil, C.flat, List.append_eq, Bool.not_true, Bool.and_true, Bool.or_false, Bool.or_self, Bool.not_false, List.append_nil, Bool.and_self, ↓prC_rk, ↓rqO_rk, encQ]) <;> rfl) (hv : v.rk σ N = v' := by (try simp only [givesF, setF, updF, Fam.zeroth, Fam.rk, Ck.rk, C.rk, E.rk, T.rk, key, List.map_cons, List.map_nil, List.cons_append, List.nil_append, List.length_cons, List.length_nil, Option.map_some, Option.bind_some, Nat.reduceAdd, Nat.zero_add, Nat.add_zero, Nat.add_sub_cancel_left, Int.toNat_natCast, reps, List.all_cons, List.all_nil, C.flat, List.append_eq, Bool.not_true, Bool.and_true, Bool.or_false, Bool.or_self, Bool.not_false, List.append_nil, Bool.and_self, ↓prC_rk, ↓rqO_rk, encQ]) <;> rfl) : RetG σ H h' v K := ret_mk3 hN h hv hk
theorem cH18zoJ1 {P : Program} {F : Nat} {args : List T} {H : List Fam} {K : T → List Fam → Prop} {σ : List Sg} {nl : List Fam} {args0 : List T} {h0 : List Fam} {Q : T → List Fam → Prop} {H2 H1 : List Fam} {N n : Nat} (hc : Ctr P F args0 h0 Q) (hk : ∀ v h', Q v h' → capsP h' → RetG σ H2 h' v K) (hap : apart σ = true := by rfl) (hnl : nl.all nilB = true := by rfl) (h1 : H ++ nl = H1 := by first | exact List.append_nil _ | ((try simp only [List.cons_append, List.nil_append]) <;> rfl)) (hN : H1.length = N := by (try simp only [↓List.length_cons, ↓List.length_nil, Nat.reduceAdd]) <;> rfl) (hn : H.length = n := by (try simp only [↓List.length_cons, ↓List.length_nil, Nat.reduceAdd]) <;> rfl) (hH : givesF σ N H1 σ h0 = some H2 := by (try simp (maxSteps := 1000000) only [givesF, setF, updF, Fam.zeroth, Fam.rk, Ck.rk, C.rk, E.rk, T.rk, key, List.map_cons, List.map_nil, List.cons_append, List.nil_append, List.length_cons, List.length_nil, Option.map_some, Option.bind_some, Nat.reduceAdd, Nat.zero_add, Nat.add_zero, Nat.add_sub_cancel_left, Int.toNat_natCast, reps, List.all_cons, List.all_nil, C.flat, List.append_eq, Bool.not_true, Bool.and_true, Bool.or_false, Bool.or_self, Bool.not_false, List.append_nil, Bool.and_self, ↓prC_rk, ↓rqO_rk]) <;> rfl) (hle : leS n H1 σ N σ h0 (belsK N (h0.map (Fam.rk σ N)) (argsK n args (args0.map (T.rk σ N)) True)) := by repeat' first | refine And.intro ?_ ?_ | exact xeC | fail) : CallK P F args H K := CallK.mk3 hc hap hnl h1 hN hn hH hle hk
set_option maxRecDepth 20000 in
set_option maxHeartbeats 8000000 in
theorem cawake : Ctr Tryz.prog 5 [] [] fun v h => v = .c .tt ∧ h = [] := by
  refine Ctr.mk' tbv mixed Tryz.func5 rfl rfl rfl (fun _ _ => by kernel_rfl) (by kernel_rfl) (by rfl) (by rfl) (by (repeat' first | refine And.intro ?_ ?_ | exact xeC | fail)) ?_
  repeat' (first | (fail_if_success (with_reducible refine xstp ?_)); first | (with_reducible intro hc; (try simp only [capsP, and_true] at hc); (try exact xfC)) | ((fail_if_success (with_reducible first | refine xgon ?_ | intro _)); (conv => whnf); (fail_if_success (fail_if_success (with_reducible first | refine xstp ?_ | refine xgon ?_ | intro _)))))
  refine cH18zoJ1 (σ := []) (nl := []) (cnewW 7 10 awQ) ?_
  rintro v h' (⟨hq, rfl, rfl⟩ | ⟨hq, rfl, rfl⟩) hcaps
  rotate_left 1
  · exact absurd (by decide) hq
  refine rH18zoJ0 ?_
  repeat' (first | (fail_if_success (with_reducible refine xstp ?_)); first | ((with_reducible refine And.intro (fun (hb : _ = true) => ?_) (fun (hb : _ = false) => ?_)) <;> replace hb := xnC hb <;> (try first | exact xfC | exact bff hb (by assumption) | exact bff (by assumption) hb)) | ((fail_if_success (with_reducible first | refine xgon ?_ | intro _)); (conv => whnf); (fail_if_success (fail_if_success (with_reducible first | refine xstp ?_ | refine xgon ?_ | intro _)))))
  refine cH18zoJ1 (σ := [.whole 0, .whole 1, .whole 2, .whole 3, .whole 4, .whole 5]) (nl := []) (cmatchW 7 10 awQ W0 0 (fun _ => 0) 3 2 0 awQ W0_ok (by decide) (by decide) (by intro s hs; cases hs)) ?_ (hle := by (repeat' first | refine And.intro ?_ ?_ | exact xeC | fail) <;> exact xmC)
  rw [aw_ma.1, aw_ma.2]
  rintro v h' ⟨cf1, rfl, rfl⟩ hcaps
  refine rH18zoJ0 ?_
  repeat' (first | (fail_if_success (with_reducible refine xstp ?_)); first | ((with_reducible refine And.intro (fun (hb : _ = true) => ?_) (fun (hb : _ = false) => ?_)) <;> replace hb := xnC hb <;> (try first | exact xfC | exact bff hb (by assumption) | exact bff (by assumption) hb)) | ((fail_if_success (with_reducible first | refine xgon ?_ | intro _)); (conv => whnf); (fail_if_success (fail_if_success (with_reducible first | refine xstp ?_ | refine xgon ?_ | intro _)))))
  refine cH18zoJ1 (σ := [.whole 0, .whole 1, .whole 2, .whole 3, .whole 6, .whole 7]) (nl := []) (cwrite 7 10 awQ (oneW [] 0 awP) 0 cf1 5 ⟨#[97]⟩ (oneW_ok _ _ _) (by decide) (by decide)) ?_ (hle := by (repeat' first | refine And.intro ?_ ?_ | exact xeC | fail) <;> exact xmC)
  rw [aw_wr.1, aw_wr.2.1, aw_wr.2.2]
  rintro v h' ⟨c2, rfl, rfl⟩ hcaps
  refine rH18zoJ0 ?_
  repeat' (first | (fail_if_success (with_reducible refine xstp ?_)); first | ((fail_if_success (with_reducible first | refine xgon ?_ | intro _)); (conv => whnf); (fail_if_success (fail_if_success (with_reducible first | refine xstp ?_ | refine xgon ?_ | intro _)))))
  refine cH18zoJ1 (σ := [.whole 0, .whole 1, .whole 2, .whole 8, .whole 6, .whole 7]) (nl := []) (cpollW 7 10 awQ (oneW [awS] 1 awP) c2 cf1 5 (oneW_ok _ _ _) (by decide) (by decide) (by decide) (oneW_D ⟨by decide, by decide, by decide, by decide⟩) (by decide) (by intro s hs; rw [List.mem_singleton.1 hs]; decide) (by decide)) ?_ (hle := by (repeat' first | refine And.intro ?_ ?_ | exact xeC | fail) <;> exact xmC)
  rw [aw_po, one_poW (by decide)]
  rintro v h' ⟨c3, cf3, co, rfl, rfl⟩ hcaps
  refine rH18zoJ0 ?_
  repeat' (first | (fail_if_success (with_reducible refine xstp ?_)); first | ((with_reducible refine And.intro (fun (hb : _ = true) => ?_) (fun (hb : _ = false) => ?_)) <;> replace hb := xnC hb <;> (try first | exact xfC | exact bff hb (by assumption) | exact bff (by assumption) hb | (exfalso; simp only [List.length_nil] at hb; omega) | (exfalso; revert hb; decide) | (exfalso; simp at hb; done))) | (with_reducible refine Both.mk ?_ ?_) | ((with_reducible refine And.intro ?_ ?_); focus exact xoC) | ((with_reducible refine Or.inl ⟨?_, ?_, ?_⟩); (focus rfl); focus exact xaC) | ((with_reducible refine xwB ?_ ?_); focus exact xaC) | ((with_reducible refine xwC ?_ ?_); focus exact xaC) | ((with_reducible refine xwD ?_ ?_); focus exact xaC) | ((with_reducible refine xwE ?_ ?_); focus exact xaC) | (with_reducible intro hc; (try simp only [capsP, and_true] at hc); (try exact xfC)) | ((fail_if_success (with_reducible first | refine xgon ?_ | intro _)); (conv => whnf); (fail_if_success (fail_if_success (with_reducible first | refine xstp ?_ | refine Both.mk ?_ ?_ | refine xgon ?_ | intro _)))))
  refine FinK.mk ⟨[], _, _, ⟨rfl, rfl⟩, ?_⟩
  (repeat' first | refine And.intro ?_ ?_ | exact xeC | fail)
  all_goals exact decide_eq_true rfl
end Go.Proofs.YtofcadbfjbefkaaGreat


namespace Go.Proofs.YtofcadbfjbefkaaGreat
open Go.X
set_option linter.unusedVariables false
theorem WOk.congr {W W' : Ws} (h : WOk W) (hM : W'.M = W.M) (hck : W'.ck = W.ck) (hD : ∀ x, (W'.D x).isSome = (W.D x).isSome) : WOk W' := by
  refine ⟨fun i hi => ?_, fun x p hx => ?_, fun a b hab hb => ?_, fun a b hab hb => ?_, fun i hi => ?_⟩
  · rw [hM] at hi ⊢
    obtain ⟨h1, p, h2⟩ := h.a i hi
    refine ⟨h1, Option.isSome_iff_exists.1 ?_⟩
    rw [hD, h2]; rfl
  · have : (W.D x).isSome = true := by rw [← hD, hx]; rfl
    obtain ⟨p', hp'⟩ := Option.isSome_iff_exists.1 this
    rw [hM]
    exact h.b x p' hp'
  · rw [hM] at hb ⊢; exact h.ne a b hab hb
  · rw [hM] at hb ⊢; exact h.st a b hab hb
  · rw [hM] at hi ⊢; rw [hck]; exact h.lt i hi
theorem setP_ok {W : Ws} (h : WOk W) {r : Int} {p p' : Pr} (hr : W.D r.toNat = some p) : WOk (setP W r p') := by
  refine h.congr rfl rfl fun x => ?_
  show (if x = r.toNat then some p' else W.D x).isSome = _
  split
  · rename_i e; rw [e, hr]; rfl
  · rfl
theorem poW_ok {W : Ws} (h : WOk W) (per : Int) (q : Qos) (at' : Int) : WOk (poW per q at' W) := by
  unfold poW
  split
  · refine h.congr rfl rfl fun x => ?_
    show (polD _ _ _ _ _ x).isSome = _
    unfold polD
    split
    · cases W.D x <;> rfl
    · rfl
  · exact h
theorem wrW_ok {W : Ws} (h : WOk W) (id : Int) (q : Qos) (at' : Int) (p : ByteArray) : WOk (wrW id q W at' p) := h.congr rfl rfl fun x => rfl
theorem addPW_ok {W : Ws} (h : WOk W) {r : Int} {p : Pr} (hr : 1 ≤ r ∧ r ≤ 1073741824) (hn : W.get r = none) : WOk (addPW W r p) := by
  have hno : ∀ i, i < W.M.length → (W.M.getD i default).2 ≠ r := fun i hi e => by
    obtain ⟨p, h1, _⟩ := getP_yes h hi e
    rw [hn] at h1; cases h1
  have hcase : ∀ i, i < (addPW W r p).M.length → (i < W.M.length ∧ (addPW W r p).M.getD i default = W.M.getD i default) ∨ (i = W.M.length ∧ (addPW W r p).M.getD i default = (W.ck, r)) := fun i hi => by
    rw [addPW_len] at hi
    rcases (by omega : i < W.M.length ∨ i = W.M.length) with h | h
    · exact .inl ⟨h, addPW_lt h⟩
    · subst h; exact .inr ⟨rfl, addPW_eq⟩
  refine ⟨fun i hi => ?_, fun x p' hx => ?_, fun a b hab hb => ?_, fun a b hab hb => ?_, fun i hi => ?_⟩
  · rcases hcase i hi with ⟨h1, e⟩ | ⟨h1, e⟩
    · rw [e]
      obtain ⟨h2, p', h3⟩ := h.a i h1
      refine ⟨h2, p', ?_⟩
      show (if _ = _ then _ else _) = _
      rw [if_neg (fun e => hno i h1 (by omega)), h3]
    · rw [e]
      exact ⟨hr, p, if_pos rfl⟩
  · have hx : (if x = r.toNat then some p else W.D x) = some p' := hx
    split at hx
    · rename_i e
      exact ⟨W.M.length, by rw [addPW_len]; omega, by rw [addPW_eq]; simp only; omega, by omega⟩
    · obtain ⟨i, hi, e1, e2⟩ := h.b x p' hx
      exact ⟨i, by rw [addPW_len]; omega, by rw [addPW_lt hi]; exact e1, e2⟩
  · rcases hcase b hb with ⟨h1, e⟩ | ⟨h1, e⟩
    · rw [e, addPW_lt (by omega)]; exact h.ne a b hab h1
    · rw [e, addPW_lt (by omega)]; exact hno a (by omega)
  · rcases hcase b hb with ⟨h1, e⟩ | ⟨h1, e⟩
    · rw [e, addPW_lt (by omega)]; exact h.st a b hab h1
    · rw [e, addPW_lt (by omega)]
      have := h.lt a (by omega)
      simp only
      omega
  · show _ < W.ck + 1
    rcases hcase i hi with ⟨h1, e⟩ | ⟨h1, e⟩
    · rw [e]; have := h.lt i h1; omega
    · rw [e]; simp only; omega
theorem unW_ok {W : Ws} (h : WOk W) (r : Int) : WOk (unW r W) := by
  unfold unW
  split
  · rename_i hg
    have hr : 1 ≤ r := by
      unfold Ws.get at hg
      split at hg
      · assumption
      · cases hg
    have hpne : W.M.Pairwise fun a b => a.2 ≠ b.2 := by
      rw [List.pairwise_iff_getElem]
      intro i j hi hj hij
      have := h.ne i j hij hj
      rwa [getD_at hi, getD_at hj] at this
    have hpst : W.M.Pairwise fun a b => a.1 ≠ b.1 := by
      rw [List.pairwise_iff_getElem]
      intro i j hi hj hij
      have := h.st i j hij hj
      rwa [getD_at hi, getD_at hj] at this
    have hmem : ∀ i, i < (W.M.filter fun e => decide (e.2 ≠ r)).length → ∃ j, j < W.M.length ∧ (W.M.filter fun e => decide (e.2 ≠ r)).getD i default = W.M.getD j default ∧ (W.M.getD j default).2 ≠ r := fun i hi => by
      have hm : (W.M.filter fun e => decide (e.2 ≠ r)).getD i default ∈ W.M.filter fun e => decide (e.2 ≠ r) := by rw [getD_at hi]; exact List.getElem_mem _
      obtain ⟨h1, h2⟩ := List.mem_filter.1 hm
      obtain ⟨j, hj, e⟩ := List.mem_iff_getElem.1 h1
      refine ⟨j, hj, by rw [getD_at hj, e], ?_⟩
      rw [getD_at hj, e]
      exact of_decide_eq_true h2
    refine ⟨fun i hi => ?_, fun x p hx => ?_, fun a b hab hb => ?_, fun a b hab hb => ?_, fun i hi => ?_⟩
    · obtain ⟨j, hj, e, h1⟩ := hmem i hi
      show (1 ≤ ((W.M.filter _).getD i default).2 ∧ _) ∧ ∃ p, (if ((W.M.filter _).getD i default).2.toNat = r.toNat then none else W.D ((W.M.filter _).getD i default).2.toNat) = some p
      rw [e]
      obtain ⟨h2, p, h3⟩ := h.a j hj
      refine ⟨h2, p, ?_⟩
      rw [if_neg (fun e => h1 (by omega)), h3]
    · have hx : (if x = r.toNat then none else W.D x) = some p := hx
      split at hx
      · cases hx
      · rename_i hne
        obtain ⟨i, hi, e1, e2⟩ := h.b x p hx
        have hm : W.M.getD i default ∈ W.M.filter fun e => decide (e.2 ≠ r) := List.mem_filter.2 ⟨by rw [getD_at hi]; exact List.getElem_mem _, decide_eq_true fun e => hne (by omega)⟩
        obtain ⟨j, hj, e⟩ := List.mem_iff_getElem.1 hm
        refine ⟨j, hj, ?_, e2⟩
        show ((W.M.filter _).getD j default).2 = _
        rw [getD_at hj, e]
        exact e1
    · have hp := hpne.filter fun e => decide (e.2 ≠ r)
      rw [List.pairwise_iff_getElem] at hp
      have hb : b < (W.M.filter fun e => decide (e.2 ≠ r)).length := hb
      have := hp a b (by omega) hb hab
      show ((W.M.filter _).getD a default).2 ≠ ((W.M.filter _).getD b default).2
      rwa [getD_at (show a < (W.M.filter fun e => decide (e.2 ≠ r)).length by omega), getD_at hb]
    · have hp := hpst.filter fun e => decide (e.2 ≠ r)
      rw [List.pairwise_iff_getElem] at hp
      have hb : b < (W.M.filter fun e => decide (e.2 ≠ r)).length := hb
      have := hp a b (by omega) hb hab
      show ((W.M.filter _).getD a default).1 ≠ ((W.M.filter _).getD b default).1
      rwa [getD_at (show a < (W.M.filter fun e => decide (e.2 ≠ r)).length by omega), getD_at hb]
    · obtain ⟨j, hj, e, _⟩ := hmem i hi
      show ((W.M.filter _).getD i default).1 < W.ck
      rw [e]
      exact h.lt j hj
  · exact h
theorem maW_ok {W : Ws} (h : WOk W) (q : Qos) (r nd at' : Int) (q2 : Qos) : WOk (maW q r nd at' q2 W) := by
  unfold maW
  split
  · rename_i e
    unfold maE at e
    repeat' split at e
    all_goals first
      | omega
      | (rename_i h1 h2 h3 h4 h5
         exact addPW_ok h (by omega) (by simpa using h4))
  · exact h
/-! ### As many readers as there may be -/
end Go.Proofs.YtofcadbfjbefkaaGreat


namespace Go.Proofs.YtofcadbfjbefkaaGreat
open Go.X
set_option linter.unusedSimpArgs false
set_option linter.unusedVariables false
/-- What the reference's writer knows: samples, the last number, the readers' numbers (ascending), the readers. -/
structure Rw where
  (l : List Smp) (la : Int) (S : List Nat) (D : Nat → Option Pr)
def Rw.W (R : Rw) : Ws := ⟨R.l, R.la, R.S.map fun x : Nat => (0, (x : Int)), 0, R.D⟩
def nilPr : List C := [.i .i64 0, .i .i64 0, .ff, .i .i64 0, .i .i64 0, .i .i64 0, .nils, .ff, .i .i64 0]
def encRd (F : Nat) (R : Rw) (cf : Nat → Nat) (i : Nat) : List C := match R.D (R.S.getD i default) with
  | none => nilPr
  | some p => encPr F (R.S.getD i default) (R.S.getD i default) p (cf (R.S.getD i default))
abbrev rdR (F : Nat) (R : Rw) (cM : Nat) (cf : Nat → Nat) : Ck := .row true true 80 9 R.S.length cM (encRd F R cf)
abbrev wrr (fh fl : Nat) (id per la : Int) (q : Qos) (n c : Nat) : Ck := .cells true [.i .i64 id, .b q.rel, .b q.dur, .b q.keep, .i .i64 q.depth, .i .i64 q.dead, .i .i64 q.life, .i .i64 q.lease, .i .i64 per, .i .i64 la, .p fh 0 0, .sl fl 0 9 0 n c]
theorem rd_rk (σ : List Sg) (N F : Nat) (R : Rw) (cf : Nat → Nat) (i : Nat) : List.map (C.rk σ N) (encRd F R cf i) = match R.D (R.S.getD i default) with
    | none => nilPr
    | some p => [.i .i64 (R.S.getD i default : Nat), .i .i64 p.nd, .b p.rel, .i .i64 p.st, .i .i64 p.ac, .i .i64 p.se, .sl (key σ N F (R.S.getD i default)).1 (key σ N F (R.S.getD i default)).2 1 0 p.rq.length (cf (R.S.getD i default)), .b p.bg, .i .i64 p.bt] := by
  unfold encRd
  split <;> rfl
theorem rd_key {σ : List Sg} {N F G : Nat} (h : ∀ x, key σ N F x = (G, x)) (R : Rw) (cf : Nat → Nat) (i : Nat) : List.map (C.rk σ N) (encRd F R cf i) = encRd G R cf i := by
  rw [rd_rk]
  unfold encRd
  simp only [h]
  rfl
theorem rd_fun {σ : List Sg} {N F G : Nat} (h : ∀ x, key σ N F x = (G, x)) (R : Rw) (cf : Nat → Nat) : (fun i => List.map (C.rk σ N) (encRd F R cf i)) = encRd G R cf := funext fun i => rd_key h R cf i
theorem rd_bel {n F : Nat} (h : Nat.blt F n = true) (R : Rw) (cf : Nat → Nat) (i : Nat) : (encRd F R cf i).all (C.belB n) = true := by
  unfold encRd
  split
  · rfl
  · simp [encPr, C.belB, h]
theorem xmI {p : Prop} (h : p := by first | exact fun _ => trivial | exact fun x => rqO_le | exact fun x => rqO_bel | exact fun x => rqR_bel | exact fun i hi => (rd_key (fun x => rfl) _ _ _).symm | exact fun i hi => rd_key (fun x => rfl) _ _ _ | exact fun i hi => rd_bel rfl _ _ _ | (intro i hi; dsimp only; rw [rd_key (fun x => rfl)]; exact rd_bel rfl _ _ _) | fail) : p := h
/-- What holds of the readers. -/
structure ROk (R : Rw) : Prop where
  a : ∀ i, i < R.S.length → (1 ≤ R.S.getD i default ∧ R.S.getD i default ≤ 1073741824) ∧ ∃ p, R.D (R.S.getD i default) = some p
  b : ∀ x p, R.D x = some p → x ∈ R.S
  s : R.S.Pairwise (· < ·)
theorem rd_at {F : Nat} {R : Rw} {cf : Nat → Nat} {i : Nat} {p : Pr} (h : R.D (R.S.getD i default) = some p) : encRd F R cf i = encPr F (R.S.getD i default) (R.S.getD i default) p (cf (R.S.getD i default)) := by
  unfold encRd
  rw [h]
theorem rw_len (R : Rw) : R.W.M.length = R.S.length := List.length_map _
/-- Where a reader is. -/
def fndS (R : Rw) (w : Int) : Option Nat := R.S.findIdx? fun x : Nat => decide ((x : Int) = w)
def idxO (o : Option Nat) : Int := match o with | none => -1 | some k => (k : Nat)
theorem fndS_at {R : Rw} {w : Int} {i : Nat} (hi : i < R.S.length) (h : ((R.S.getD i default : Nat) : Int) = w) (hno : ∀ j, j < i → ((R.S.getD j default : Nat) : Int) ≠ w) : fndS R w = some i := by
  unfold fndS
  rw [List.findIdx?_eq_some_iff_getElem]
  refine ⟨hi, ?_, fun j hj => ?_⟩
  · rw [getD_at hi] at h; exact decide_eq_true h
  · have := hno j hj
    rw [getD_at (by omega)] at this
    simpa using this
theorem fndS_no {R : Rw} {w : Int} (hno : ∀ j, j < R.S.length → ((R.S.getD j default : Nat) : Int) ≠ w) : fndS R w = none := by
  unfold fndS
  rw [List.findIdx?_eq_none_iff]
  intro t ht
  obtain ⟨j, hj, rfl⟩ := List.mem_iff_getElem.1 ht
  have := hno j hj
  rw [getD_at hj] at this
  exact decide_eq_false this
theorem fnd_s {R : Rw} (hR : ROk R) (w : Int) : (fndS R w = none ∧ R.W.get w = none) ∨ ∃ k p, fndS R w = some k ∧ k < R.S.length ∧ ((R.S.getD k default : Nat) : Int) = w ∧ R.D (R.S.getD k default) = some p ∧ R.W.get w = some p ∧ 1 ≤ w := by
  by_cases h : ∃ k, k < R.S.length ∧ ((R.S.getD k default : Nat) : Int) = w
  · obtain ⟨k, hk, e⟩ := h
    obtain ⟨⟨h1, _⟩, p, hp⟩ := hR.a k hk
    have hno : ∀ j, j < k → ((R.S.getD j default : Nat) : Int) ≠ w := fun j hj => by
      have := List.pairwise_iff_getElem.1 hR.s j k (by omega) hk hj
      rw [getD_at hk] at e
      rw [getD_at (by omega)]
      omega
    refine .inr ⟨k, p, fndS_at hk e hno, hk, e, hp, ?_, by omega⟩
    unfold Ws.get Rw.W
    rw [if_pos (by omega), ← e, Int.toNat_natCast]
    exact hp
  · have hno : ∀ j, j < R.S.length → ((R.S.getD j default : Nat) : Int) ≠ w := fun j hj e => h ⟨j, hj, e⟩
    refine .inl ⟨fndS_no hno, ?_⟩
    unfold Ws.get Rw.W
    split
    · cases hD : R.D w.toNat with
      | none => exact hD
      | some p =>
        obtain ⟨j, hj, e⟩ := List.mem_iff_getElem.1 (hR.b _ _ hD)
        refine absurd ?_ (hno j hj)
        rw [getD_at hj]
        omega
    · rfl
theorem nd_rw (sq : Int) (R : Rw) : ndB sq R.W = R.S.any fun x => match R.D x with | some p => ndP sq p | none => false := by
  unfold ndB Rw.W
  rw [List.any_map]
  rfl
theorem ndR_yes {sq : Int} {R : Rw} {i : Nat} {p : Pr} (hi : i < R.S.length) (hp : R.D (R.S.getD i default) = some p) (h : ndP sq p = true) : ndB sq R.W = true := by
  rw [nd_rw]
  refine List.any_eq_true.2 ⟨R.S.getD i default, by rw [getD_at hi]; exact List.getElem_mem _, ?_⟩
  rw [hp]
  exact h
theorem ndR_no {sq : Int} {R : Rw} (hR : ROk R) (h : ∀ i p, i < R.S.length → R.D (R.S.getD i default) = some p → ndP sq p = false) : ndB sq R.W = false := by
  rw [nd_rw]
  refine List.any_eq_false.2 fun e he => ?_
  obtain ⟨i, hi, rfl⟩ := List.mem_iff_getElem.1 he
  obtain ⟨_, p, hp⟩ := hR.a i hi
  have := h i p hi hp
  rw [getD_at hi] at hp
  rw [hp]
  simpa using this
set_option maxRecDepth 10000 in
theorem rplace (id per la : Int) (q : Qos) (R : Rw) (cM : Nat) (cf : Nat → Nat) (w : Int) (hR : ROk R) (hl : R.S.length ≤ 1000000) :
    Ctr Tryz.prog 42 [.c (.p 0 0 0), .c (.i .i64 w)] [.one (wrr 1 2 id per la q R.S.length cM), .one .no, .one (rdR 4 R cM cf), .one .no, .one .no]
      fun v h => v = .c (.i .i64 (idxO (fndS R w))) ∧ h = [.one (wrr 1 2 id per la q R.S.length cM), .one .no, .one (rdR 4 R cM cf), .one .no, .one .no] := by
  refine Ctr.mk' tbv mixed Tryz.func42 rfl rfl rfl (fun _ _ => by kernel_rfl) (by kernel_rfl) (by rfl) (by rfl) (by (repeat' first | refine And.intro ?_ ?_ | exact xeC | fail) <;> exact xmI) ?_
  repeat' (first | (fail_if_success (with_reducible refine xstp ?_)); first | (with_reducible intro hc; (try simp only [capsP, and_true] at hc); (try exact xfC)) | ((fail_if_success (with_reducible first | refine xgon ?_ | intro _)); (conv => whnf); (fail_if_success (fail_if_success (with_reducible first | refine xstp ?_ | refine xgon ?_ | intro _)))))
  refine LoopK.mk' {i : Nat // i ≤ R.S.length ∧ ∀ j, j < i → ((R.S.getD j default : Nat) : Int) ≠ w}
    (fun ⟨i, _⟩ => ⟨[(0, .c (.p 0 0 0)), (1, .c (.i .i64 w)), (5, .c (.i .i64 (i : Nat)))], [.one (wrr 1 2 id per la q R.S.length cM), .one .no, .one (rdR 4 R cM cf), .one .no, .one .no]⟩) (fun k => R.S.length - k.1)
    ⟨⟨0, Nat.zero_le _, fun j h => absurd h (Nat.not_lt_zero j)⟩, [0, 1, 2, 3, 4], ?_⟩ ?_
  · (repeat' first | refine And.intro ?_ ?_ | exact xeC | fail)
    all_goals exact xmI
  rintro ⟨i, hi, hno⟩
  have e3 : 0 + ((i : Nat) : Int).toNat = i := by omega
  rcases Nat.lt_or_ge i R.S.length with hlt | hge
  · obtain ⟨h1, p, hp⟩ := hR.a i hlt
    have he : encRd 4 R cf i = _ := rd_at hp
    unfold encPr at he
    repeat' (first | (fail_if_success (with_reducible refine xstp ?_)); first | ((with_reducible refine And.intro (fun (hb : _ = true) => ?_) (fun (hb : _ = false) => ?_)) <;> replace hb := xnC hb <;> (try first | exact xfC | exact bff hb (by assumption) | exact bff (by assumption) hb)) | ((with_reducible refine And.intro ?_ ?_); focus exact xoC) | (with_reducible intro hc; (try simp only [capsP, and_true] at hc); (try exact xfC)) | ((fail_if_success (with_reducible first | refine xgon ?_ | intro _)); (conv => whnf); (fail_if_success (fail_if_success (with_reducible first | refine xstp ?_ | refine xgon ?_ | intro _)))))
    rw [e3, he]
    repeat' (first | (fail_if_success (with_reducible refine xstp ?_)); first | ((with_reducible refine And.intro (fun (hb : _ = true) => ?_) (fun (hb : _ = false) => ?_)) <;> replace hb := xnC hb <;> (try first | exact xfC | exact bff hb (by assumption) | exact bff (by assumption) hb)) | ((with_reducible refine And.intro ?_ ?_); focus exact xoC) | ((fail_if_success (with_reducible first | refine xgon ?_ | intro _)); (conv => whnf); (fail_if_success (fail_if_success (with_reducible first | refine xstp ?_ | refine xgon ?_ | intro _)))))
    · have hb' : ((R.S.getD i default : Nat) : Int) = w := hb
      rw [fndS_at hlt hb' hno]
      refine FinK.mk ⟨[0, 1, 2, 3, 4], _, _, ⟨rfl, rfl⟩, ?_⟩
      (repeat' first | refine And.intro ?_ ?_ | exact xeC | fail)
      all_goals exact xmI
    · refine ⟨⟨i + 1, by omega, fun j hj => ?_⟩, [0, 1, 2, 3, 4], by simp only; omega, ?_⟩
      · rcases (by omega : j < i ∨ j = i) with h | rfl
        · exact hno j h
        · exact hb
      · (repeat' first | refine And.intro ?_ ?_ | exact xeC | fail)
        all_goals exact xmI
  · skip
    repeat' (first | (fail_if_success (with_reducible refine xstp ?_)); first | ((with_reducible refine And.intro (fun (hb : _ = true) => ?_) (fun (hb : _ = false) => ?_)) <;> replace hb := xnC hb <;> (try first | exact xfC | exact bff hb (by assumption) | exact bff (by assumption) hb)) | (with_reducible intro hc; (try simp only [capsP, and_true] at hc); (try exact xfC)) | ((fail_if_success (with_reducible first | refine xgon ?_ | intro _)); (conv => whnf); (fail_if_success (fail_if_success (with_reducible first | refine xstp ?_ | refine xgon ?_ | intro _)))))
    rw [fndS_no fun j hj => hno j (by omega)]
    refine FinK.mk ⟨[0, 1, 2, 3, 4], _, _, ⟨rfl, rfl⟩, ?_⟩
    (repeat' first | refine And.intro ?_ ?_ | exact xeC | fail)
    all_goals exact xmI
set_option maxRecDepth 10000 in
theorem rneeded (id per la : Int) (q : Qos) (R : Rw) (cM : Nat) (cf : Nat → Nat) (sq : Int) (hR : ROk R) (hl : R.S.length ≤ 1000000) :
    Ctr Tryz.prog 34 [.c (.p 0 0 0), .c (.i .i64 sq)] [.one (wrr 1 2 id per la q R.S.length cM), .one .no, .one (rdR 4 R cM cf), .one .no, .one .no]
      fun v h => v = .c (.b (ndB sq R.W)) ∧ h = [.one (wrr 1 2 id per la q R.S.length cM), .one .no, .one (rdR 4 R cM cf), .one .no, .one .no] := by
  refine Ctr.mk' tbv mixed Tryz.func34 rfl rfl rfl (fun _ _ => by kernel_rfl) (by kernel_rfl) (by rfl) (by rfl) (by (repeat' first | refine And.intro ?_ ?_ | exact xeC | fail) <;> exact xmI) ?_
  repeat' (first | (fail_if_success (with_reducible refine xstp ?_)); first | (with_reducible intro hc; (try simp only [capsP, and_true] at hc); (try exact xfC)) | ((fail_if_success (with_reducible first | refine xgon ?_ | intro _)); (conv => whnf); (fail_if_success (fail_if_success (with_reducible first | refine xstp ?_ | refine xgon ?_ | intro _)))))
  refine LoopK.mk' {i : Nat // i ≤ R.S.length ∧ ∀ j p, j < i → R.D (R.S.getD j default) = some p → ndP sq p = false}
    (fun ⟨i, _⟩ => ⟨[(0, .c (.p 0 0 0)), (1, .c (.i .i64 sq)), (5, .c (.i .i64 (i : Nat)))], [.one (wrr 1 2 id per la q R.S.length cM), .one .no, .one (rdR 4 R cM cf), .one .no, .one .no]⟩) (fun k => R.S.length - k.1)
    ⟨⟨0, Nat.zero_le _, fun j p h => absurd h (Nat.not_lt_zero j)⟩, [0, 1, 2, 3, 4], ?_⟩ ?_
  · (repeat' first | refine And.intro ?_ ?_ | exact xeC | fail)
    all_goals exact xmI
  rintro ⟨i, hi, hno⟩
  have e3 : 0 + ((i : Nat) : Int).toNat = i := by omega
  rcases Nat.lt_or_ge i R.S.length with hlt | hge
  · obtain ⟨h1, p, hp⟩ := hR.a i hlt
    have he : encRd 4 R cf i = _ := rd_at hp
    unfold encPr at he
    repeat' (first | (fail_if_success (with_reducible refine xstp ?_)); first | ((with_reducible refine And.intro (fun (hb : _ = true) => ?_) (fun (hb : _ = false) => ?_)) <;> replace hb := xnC hb <;> (try first | exact xfC | exact bff hb (by assumption) | exact bff (by assumption) hb)) | ((with_reducible refine And.intro ?_ ?_); focus exact xoC) | (with_reducible intro hc; (try simp only [capsP, and_true] at hc); (try exact xfC)) | ((fail_if_success (with_reducible first | refine xgon ?_ | intro _)); (conv => whnf); (fail_if_success (fail_if_success (with_reducible first | refine xstp ?_ | refine xgon ?_ | intro _)))))
    rw [e3, he]
    repeat' (first | (fail_if_success (with_reducible refine xstp ?_)); first | ((with_reducible refine And.intro (fun (hb : _ = true) => ?_) (fun (hb : _ = false) => ?_)) <;> replace hb := xnC hb <;> (try first | exact xfC | exact bff hb (by assumption) | exact bff (by assumption) hb)) | ((with_reducible refine And.intro ?_ ?_); focus exact xoC) | ((fail_if_success (with_reducible first | refine xgon ?_ | intro _)); (conv => whnf); (fail_if_success (fail_if_success (with_reducible first | refine xstp ?_ | refine xgon ?_ | intro _)))))
    all_goals try (
      rw [e3, he]
      repeat' (first | (fail_if_success (with_reducible refine xstp ?_)); first | ((with_reducible refine And.intro (fun (hb : _ = true) => ?_) (fun (hb : _ = false) => ?_)) <;> replace hb := xnC hb <;> (try first | exact xfC | exact bff hb (by assumption) | exact bff (by assumption) hb)) | ((with_reducible refine And.intro ?_ ?_); focus exact xoC) | ((fail_if_success (with_reducible first | refine xgon ?_ | intro _)); (conv => whnf); (fail_if_success (fail_if_success (with_reducible first | refine xstp ?_ | refine xgon ?_ | intro _)))))
      skip)
    all_goals try (
      rw [e3, he]
      repeat' (first | (fail_if_success (with_reducible refine xstp ?_)); first | ((with_reducible refine And.intro (fun (hb : _ = true) => ?_) (fun (hb : _ = false) => ?_)) <;> replace hb := xnC hb <;> (try first | exact xfC | exact bff hb (by assumption) | exact bff (by assumption) hb)) | ((with_reducible refine And.intro ?_ ?_); focus exact xoC) | ((fail_if_success (with_reducible first | refine xgon ?_ | intro _)); (conv => whnf); (fail_if_success (fail_if_success (with_reducible first | refine xstp ?_ | refine xgon ?_ | intro _)))))
      skip)
    all_goals try (
      rw [e3, he]
      repeat' (first | (fail_if_success (with_reducible refine xstp ?_)); first | ((with_reducible refine And.intro (fun (hb : _ = true) => ?_) (fun (hb : _ = false) => ?_)) <;> replace hb := xnC hb <;> (try first | exact xfC | exact bff hb (by assumption) | exact bff (by assumption) hb)) | (with_reducible refine Both.mk ?_ ?_) | ((with_reducible refine And.intro ?_ ?_); focus exact xoC) | ((with_reducible refine Or.inl ⟨?_, ?_, ?_⟩); (focus rfl); focus exact xaC) | ((with_reducible refine xwB ?_ ?_); focus exact xaC) | ((with_reducible refine xwC ?_ ?_); focus exact xaC) | ((with_reducible refine xwD ?_ ?_); focus exact xaC) | ((with_reducible refine xwE ?_ ?_); focus exact xaC) | (with_reducible intro hc; (try simp only [capsP, and_true] at hc); (try exact xfC)) | ((fail_if_success (with_reducible first | refine xgon ?_ | intro _)); (conv => whnf); (fail_if_success (fail_if_success (with_reducible first | refine xstp ?_ | refine Both.mk ?_ ?_ | refine xgon ?_ | intro _)))))
      skip)
    all_goals first
      | (have hn : ndP sq p = true := by first | (simp [ndP, *]; done) | (simp [ndP, *]; omega)
         rw [ndR_yes hlt hp hn]
         refine FinK.mk ⟨[0, 1, 2, 3, 4], _, _, ⟨rfl, rfl⟩, ?_⟩
         (repeat' first | refine And.intro ?_ ?_ | exact xeC | fail)
         all_goals exact xmI
         done)
      | (have hn : ndP sq p = false := by first | (simp [ndP, *]; done) | (simp [ndP, *]; omega)
         refine ⟨⟨i + 1, by omega, fun j p' hj hp' => ?_⟩, [0, 1, 2, 3, 4], by simp only; omega, ?_⟩
         · rcases (by omega : j < i ∨ j = i) with h | rfl
           · exact hno j p' h hp'
           · rw [hp] at hp'
             exact Option.some.inj hp' ▸ hn
         · (repeat' first | refine And.intro ?_ ?_ | exact xeC | fail)
           all_goals exact xmI
         done)
      | skip
    all_goals trace_state
  · skip
    repeat' (first | (fail_if_success (with_reducible refine xstp ?_)); first | ((with_reducible refine And.intro (fun (hb : _ = true) => ?_) (fun (hb : _ = false) => ?_)) <;> replace hb := xnC hb <;> (try first | exact xfC | exact bff hb (by assumption) | exact bff (by assumption) hb)) | (with_reducible intro hc; (try simp only [capsP, and_true] at hc); (try exact xfC)) | ((fail_if_success (with_reducible first | refine xgon ?_ | intro _)); (conv => whnf); (fail_if_success (fail_if_success (with_reducible first | refine xstp ?_ | refine xgon ?_ | intro _)))))
    rw [ndR_no hR fun j p hj hp => hno j p (by omega) hp]
    refine FinK.mk ⟨[0, 1, 2, 3, 4], _, _, ⟨rfl, rfl⟩, ?_⟩
    (repeat' first | refine And.intro ?_ ?_ | exact xeC | fail)
    all_goals exact xmI
end Go.Proofs.YtofcadbfjbefkaaGreat


namespace Go.Proofs.YtofcadbfjbefkaaGreat
open Go.X
set_option linter.unusedSimpArgs false
set_option linter.unusedVariables false
theorem last_all (l : List Smp) : lastS l l.length = l := by
  unfold lastS
  split
  · have : l.length = 0 := by omega
    exact (List.length_eq_zero_iff.1 this).symm
  · rw [show l.length - ((l.length : Nat) : Int).toNat = 0 by omega, List.drop_zero]
theorem rH18ziB0 {σ : List Sg} {H h' : List Fam} {v : T} {K : T → List Fam → Prop} {H' : List Fam} {v' : T} {N : Nat} (hk : K v' H') (hN : H.length = N := by (try simp only [↓List.length_cons, ↓List.length_nil, Nat.reduceAdd]) <;> rfl) (h : givesF σ N H σ h' = some H' := by (try simp (maxSteps := 1000000) only [givesF, setF, updF, Fam.zeroth, Fam.rk, Ck.rk, C.rk, E.rk, T.rk, key, List.map_cons, List.map_nil, List.cons_append, List.nil_append, List.length_cons, List.length_nil, Option.map_some, Option.bind_some, Nat.reduceAdd, Nat.zero_add, Nat.add_zero, Nat.add_sub_cancel_left, Int.toNat_natCast, reps, List.all_cons, List.all_nil, C.flat, List.append_eq, Bool.not_true, Bool.and_true, Bool.or_false, Bool.or_self, Bool.not_false, List.append_nil, Bool.and_self, ↓rqO_rk]) <;> rfl) (hv : v.rk σ N = v' := by (try simp only [givesF, setF, updF, Fam.zeroth, Fam.rk, Ck.rk, C.rk, E.rk, T.rk, key, List.map_cons, List.map_nil, List.cons_append, List.nil_append, List.length_cons, List.length_nil, Option.map_some, Option.bind_some, Nat.reduceAdd, Nat.zero_add, Nat.add_zero, Nat.add_sub_cancel_left, Int.toNat_natCast, reps, List.all_cons, List.all_nil, C.flat, List.append_eq, Bool.not_true, Bool.and_true, Bool.or_false, Bool.or_self, Bool.not_false, List.append_nil, Bool.and_self, ↓rqO_rk]) <;> rfl) : RetG σ H h' v K := ret_mk3 hN h hv hk
theorem cH18ziB3 {P : Program} {F : Nat} {args : List T} {H : List Fam} {K : T → List Fam → Prop} {σ : List Sg} {nl : List Fam} {args0 : List T} {h0 : List Fam} {Q : T → List Fam → Prop} {H2 H1 : List Fam} {N n : Nat} (hc : Ctr P F args0 h0 Q) (hk : ∀ v h', Q v h' → capsP h' → RetG σ H2 h' v K) (hap : apart σ = true := by rfl) (hnl : nl.all nilB = true := by rfl) (h1 : H ++ nl = H1 := by first | exact List.append_nil _ | ((try simp only [List.cons_append, List.nil_append]) <;> rfl)) (hN : H1.length = N := by (try simp only [↓List.length_cons, ↓List.length_nil, Nat.reduceAdd]) <;> rfl) (hn : H.length = n := by (try simp only [↓List.length_cons, ↓List.length_nil, Nat.reduceAdd]) <;> rfl) (hH : givesF σ N H1 σ h0 = some H2 := by (try simp (maxSteps := 1000000) only [givesF, setF, updF, Fam.zeroth, Fam.rk, Ck.rk, C.rk, E.rk, T.rk, key, List.map_cons, List.map_nil, List.cons_append, List.nil_append, List.length_cons, List.length_nil, Option.map_some, Option.bind_some, Nat.reduceAdd, Nat.zero_add, Nat.add_zero, Nat.add_sub_cancel_left, Int.toNat_natCast, reps, List.all_cons, List.all_nil, C.flat, List.append_eq, Bool.not_true, Bool.and_true, Bool.or_false, Bool.or_self, Bool.not_false, List.append_nil, Bool.and_self, ↓rqO_rk]) <;> rfl) (hle : leS n H1 σ N σ h0 (belsK N (h0.map (Fam.rk σ N)) (argsK n args (args0.map (T.rk σ N)) True)) := by repeat' first | refine And.intro ?_ ?_ | exact xeC | fail) : CallK P F args H K := CallK.mk3 hc hap hnl h1 hN hn hH hle hk
theorem rlist (q : Qos) (l : List Smp) (c : Nat) (hl : l.length ≤ 1000000) : Ctr Tryz.prog 33 [.c (.p 0 0 0)] [.one (hist 1 q l.length c), .one (smps true l c)]
      fun v h => ∃ c', v = .c (.sl 2 0 4 0 l.length c') ∧ h = [.one (hist 1 q l.length c), .one (smps true l c), .one (smps true l c')] := by
  refine Ctr.mk' tbv mixed Tryz.func33 rfl rfl rfl (fun _ _ => by kernel_rfl) (by kernel_rfl) (by rfl) (by rfl) (by (repeat' first | refine And.intro ?_ ?_ | exact xeC | fail)) ?_
  repeat' (first | (fail_if_success (with_reducible refine xstp ?_)); first | (with_reducible intro hc; (try simp only [capsP, and_true] at hc); (try exact xfC)) | ((fail_if_success (with_reducible first | refine xgon ?_ | intro _)); (conv => whnf); (fail_if_success (fail_if_success (with_reducible first | refine xstp ?_ | refine xgon ?_ | intro _)))))
  refine cH18ziB3 (σ := [.whole 0, .whole 1]) (nl := []) (rlast q l c l.length hl ⟨by omega, by omega⟩) ?_
  rw [last_all]
  rintro v h' ⟨c2, rfl, rfl⟩ hcaps
  refine rH18ziB0 ?_
  repeat' (first | (fail_if_success (with_reducible refine xstp ?_)); first | ((fail_if_success (with_reducible first | refine xgon ?_ | intro _)); (conv => whnf); (fail_if_success (fail_if_success (with_reducible first | refine xstp ?_ | refine xgon ?_ | intro _)))))
  refine FinK.mk ⟨[0, 1, 2], _, _, ⟨c2, rfl, rfl⟩, ?_⟩
  (repeat' first | refine And.intro ?_ ?_ | exact xeC | fail)
set_option maxRecDepth 10000 in
theorem rasked (X : Nat) (p : Pr) (c : Nat) (n : Int) (hl : p.rq.length ≤ 1000000) :
    Ctr Tryz.prog 51 [.a (encPr 0 0 X p c), .c (.i .i64 n)] [.one (ints true p.rq c)]
      fun v h => v = .c (.b (decide (n ∈ p.rq))) ∧ h = [.one (ints true p.rq c)] := by
  refine Ctr.mk' tbv mixed Tryz.func51 rfl rfl rfl (fun _ _ => by kernel_rfl) (by kernel_rfl) (by rfl) (by rfl) (by (repeat' first | refine And.intro ?_ ?_ | exact xeC | fail)) ?_
  repeat' (first | (fail_if_success (with_reducible refine xstp ?_)); first | (with_reducible intro hc; (try simp only [capsP, and_true] at hc); (try exact xfC)) | ((fail_if_success (with_reducible first | refine xgon ?_ | intro _)); (conv => whnf); (fail_if_success (fail_if_success (with_reducible first | refine xstp ?_ | refine xgon ?_ | intro _)))))
  refine LoopK.mk' {i : Nat // i ≤ p.rq.length ∧ ∀ j, j < i → p.rq.getD j default ≠ n}
    (fun ⟨i, _⟩ => ⟨[(1, .c (.i .i64 n)), (2, .c (.p 1 0 0)), (5, .c (.i .i64 (i : Nat)))], [.one (ints true p.rq c), .one (.cells true (encPr 0 0 X p c))]⟩) (fun k => p.rq.length - k.1)
    ⟨⟨0, Nat.zero_le _, fun j h => absurd h (Nat.not_lt_zero j)⟩, [0, 1], ?_⟩ ?_
  · (repeat' first | refine And.intro ?_ ?_ | exact xeC | fail)
  rintro ⟨i, hi, hno⟩
  have e3 : 0 + ((i : Nat) : Int).toNat = i := by omega
  rcases Nat.lt_or_ge i p.rq.length with hlt | hge
  · skip
    repeat' (first | (fail_if_success (with_reducible refine xstp ?_)); first | ((with_reducible refine And.intro (fun (hb : _ = true) => ?_) (fun (hb : _ = false) => ?_)) <;> replace hb := xnC hb <;> (try first | exact xfC | exact bff hb (by assumption) | exact bff (by assumption) hb)) | ((with_reducible refine And.intro ?_ ?_); focus exact xoC) | (with_reducible intro hc; (try simp only [capsP, and_true] at hc); (try exact xfC)) | ((fail_if_success (with_reducible first | refine xgon ?_ | intro _)); (conv => whnf); (fail_if_success (fail_if_success (with_reducible first | refine xstp ?_ | refine xgon ?_ | intro _)))))
    · have hb' : p.rq.getD i default = n := hb
      rw [show decide (n ∈ p.rq) = true from decide_eq_true (by rw [← hb', getD_at hlt]; exact List.getElem_mem _)]
      refine FinK.mk ⟨[0], _, _, ⟨rfl, rfl⟩, ?_⟩; (repeat' first | refine And.intro ?_ ?_ | exact xeC | fail)
    · have hb' : p.rq.getD i default ≠ n := hb
      refine ⟨⟨i + 1, by omega, fun j hj => ?_⟩, [0, 1], by simp only; omega, ?_⟩
      · rcases (by omega : j < i ∨ j = i) with h | rfl
        · exact hno j h
        · exact hb'
      · (repeat' first | refine And.intro ?_ ?_ | exact xeC | fail)
  · skip
    repeat' (first | (fail_if_success (with_reducible refine xstp ?_)); first | ((with_reducible refine And.intro (fun (hb : _ = true) => ?_) (fun (hb : _ = false) => ?_)) <;> replace hb := xnC hb <;> (try first | exact xfC | exact bff hb (by assumption) | exact bff (by assumption) hb)) | (with_reducible intro hc; (try simp only [capsP, and_true] at hc); (try exact xfC)) | ((fail_if_success (with_reducible first | refine xgon ?_ | intro _)); (conv => whnf); (fail_if_success (fail_if_success (with_reducible first | refine xstp ?_ | refine xgon ?_ | intro _)))))
    rw [show decide (n ∈ p.rq) = false from decide_eq_false fun hm => by
      obtain ⟨j, hj, e⟩ := List.mem_iff_getElem.1 hm
      exact hno j (by omega) (by rw [getD_at hj]; exact e)]
    refine FinK.mk ⟨[0], _, _, ⟨rfl, rfl⟩, ?_⟩; (repeat' first | refine And.intro ?_ ?_ | exact xeC | fail)
/-- What is sent for a number. -/
def datR (id : Int) (l : List Smp) (X : Nat) (p : Pr) (at' n : Int) (g : Bool) : List Pk := if (getS l id n).2 = true then [datK id X p n (getS l id n).1] else if g = true then [gapK id X p 1 n n at'] else []
theorem rH18ziB1 {σ : List Sg} {H h' : List Fam} {v : T} {K : T → List Fam → Prop} {H' : List Fam} {v' : T} {N : Nat} (hk : K v' H') (hN : H.length = N := by (try simp only [↓List.length_cons, ↓List.length_nil, Nat.reduceAdd]) <;> rfl) (h : givesF σ N H σ h' = some H' := by (try simp (maxSteps := 1000000) only [givesF, setF, updF, Fam.zeroth, Fam.rk, Ck.rk, C.rk, E.rk, T.rk, key, List.map_cons, List.map_nil, List.cons_append, List.nil_append, List.length_cons, List.length_nil, Option.map_some, Option.bind_some, Nat.reduceAdd, Nat.zero_add, Nat.add_zero, Nat.add_sub_cancel_left, Int.toNat_natCast, reps, List.all_cons, List.all_nil, C.flat, List.append_eq, Bool.not_true, Bool.and_true, Bool.or_false, Bool.or_self, Bool.not_false, List.append_nil, Bool.and_self, ↓rqO_rk, encS, encPr]) <;> rfl) (hv : v.rk σ N = v' := by (try simp only [givesF, setF, updF, Fam.zeroth, Fam.rk, Ck.rk, C.rk, E.rk, T.rk, key, List.map_cons, List.map_nil, List.cons_append, List.nil_append, List.length_cons, List.length_nil, Option.map_some, Option.bind_some, Nat.reduceAdd, Nat.zero_add, Nat.add_zero, Nat.add_sub_cancel_left, Int.toNat_natCast, reps, List.all_cons, List.all_nil, C.flat, List.append_eq, Bool.not_true, Bool.and_true, Bool.or_false, Bool.or_self, Bool.not_false, List.append_nil, Bool.and_self, ↓rqO_rk, encS, encPr]) <;> rfl) : RetG σ H h' v K := ret_mk3 hN h hv hk
set_option maxRecDepth 10000 in
set_option maxHeartbeats 4000000 in
theorem rdata (id per la : Int) (q : Qos) (l : List Smp) (c nS cM X : Nat) (p : Pr) (cq : Nat) (o : List Pk) (co : Nat) (n at' : Int) (g : Bool) (hl : l.length ≤ 1000000) (ho : o.length ≤ 100000000) (xm : Nat := 0) :
    Ctr Tryz.prog 52 [.c (.p 0 0 0), .c (.sl 4 0 11 0 o.length co), .a (encPr 5 xm X p cq), .c (.i .i64 n), .c (.i .i64 at'), .c (.b g)] [.one (wrr 1 2 id per la q nS cM), .one (hist 3 q l.length c), .one .no, .one (smps true l c), .one (pkR true o co), .one .no]
      fun v h => ∃ co', v = .c (.sl 6 0 11 0 (o ++ datR id l X p at' n g).length co') ∧ h = [.one (wrr 1 2 id per la q nS cM), .one (hist 3 q l.length c), .one .no, .one (smps true l c), .one .no, .one .no, .one (pkR true (o ++ datR id l X p at' n g) co')] := by
  refine Ctr.mk' tbv mixed Tryz.func52 rfl rfl rfl (fun _ _ => by kernel_rfl) (by kernel_rfl) (by rfl) (by rfl) (by (repeat' first | refine And.intro ?_ ?_ | exact xeC | fail)) ?_
  repeat' (first | (fail_if_success (with_reducible refine xstp ?_)); first | (with_reducible refine Both.mk ?_ ?_) | ((with_reducible refine And.intro ?_ ?_); focus exact xoC) | (with_reducible intro hc; (try simp only [capsP, and_true] at hc); (try exact xfC)) | ((fail_if_success (with_reducible first | refine xgon ?_ | intro _)); (conv => whnf); (fail_if_success (fail_if_success (with_reducible first | refine xstp ?_ | refine Both.mk ?_ ?_ | refine xgon ?_ | intro _)))))
  all_goals (
    refine cH18ziB3 (σ := [.whole 1, .whole 3]) (nl := []) (rget q l c id n hl) ?_
    rintro v h' ⟨rfl, rfl⟩ hcaps
    refine rH18ziB1 ?_
    repeat' (first | (fail_if_success (with_reducible refine xstp ?_)); first | ((with_reducible refine And.intro (fun (hb : _ = true) => ?_) (fun (hb : _ = false) => ?_)) <;> replace hb := xnC hb <;> (try first | exact xfC | exact bff hb (by assumption) | exact bff (by assumption) hb)) | ((with_reducible refine And.intro ?_ ?_); focus exact xoC) | ((with_reducible refine Or.inl ⟨?_, ?_, ?_⟩); (focus rfl); focus exact xaC) | (with_reducible intro hc; (try simp only [capsP, and_true] at hc); (try exact xfC)) | ((fail_if_success (with_reducible first | refine xgon ?_ | intro _)); (conv => whnf); (fail_if_success (fail_if_success (with_reducible first | refine xstp ?_ | refine xgon ?_ | intro _)))))
    skip)
  · skip
    have e1 : datR id l X p at' n g = [datK id X p n (getS l id n).1] := if_pos (by assumption)
    rw [e1]
    rename_i c2
    refine FinK.mk ⟨[0, 1, 2, 3, 4, 5, 9], _, _, ⟨c2, rfl, rfl⟩, ?_⟩
    (repeat' first | refine And.intro ?_ ?_ | exact xeC | fail)
    all_goals first
      | (rw [List.length_append]; rfl)
      | (rw [List.length_append]; exact Nat.le_refl _)
      | (intro i hi; exact app_rowG (encP .nils) o (datK id X p n (getS l id n).1) _ rfl i hi)
  · skip
    have e1 : datR id l X p at' n g = [gapK id X p 1 n n at'] := by unfold datR; rw [if_neg (by simp [*]), if_pos (by assumption)]
    rw [e1]
    rename_i c2
    refine FinK.mk ⟨[0, 1, 2, 3, 4, 5, 9], _, _, ⟨c2, rfl, rfl⟩, ?_⟩
    (repeat' first | refine And.intro ?_ ?_ | exact xeC | fail)
    all_goals first
      | (rw [List.length_append]; rfl)
      | (rw [List.length_append]; exact Nat.le_refl _)
      | (intro i hi; exact app_rowG (encP .nils) o (gapK id X p 1 n n at') _ rfl i hi)
  · skip
    have e1 : datR id l X p at' n g = [] := by unfold datR; rw [if_neg (by simp [*]), if_neg (by simp [*])]
    rw [e1, List.append_nil]
    refine FinK.mk ⟨[0, 1, 2, 3, 4, 5, 4], _, _, ⟨co, rfl, rfl⟩, ?_⟩
    (repeat' first | refine And.intro ?_ ?_ | exact xeC | fail)
  · skip
    have e1 : datR id l X p at' n g = [datK id X p n (getS l id n).1] := if_pos (by assumption)
    rw [e1]
    rename_i c2
    refine FinK.mk ⟨[0, 1, 2, 3, 4, 5, 9], _, _, ⟨c2, rfl, rfl⟩, ?_⟩
    (repeat' first | refine And.intro ?_ ?_ | exact xeC | fail)
    all_goals first
      | (rw [List.length_append]; rfl)
      | (rw [List.length_append]; exact Nat.le_refl _)
      | (intro i hi; exact app_rowG (encP .nils) o (datK id X p n (getS l id n).1) _ rfl i hi)
  · skip
    have e1 : datR id l X p at' n g = [gapK id X p 1 n n at'] := by unfold datR; rw [if_neg (by simp [*]), if_pos (by assumption)]
    rw [e1]
    rename_i c2
    refine FinK.mk ⟨[0, 1, 2, 3, 4, 5, 9], _, _, ⟨c2, rfl, rfl⟩, ?_⟩
    (repeat' first | refine And.intro ?_ ?_ | exact xeC | fail)
    all_goals first
      | (rw [List.length_append]; rfl)
      | (rw [List.length_append]; exact Nat.le_refl _)
      | (intro i hi; exact app_rowG (encP .nils) o (gapK id X p 1 n n at') _ rfl i hi)
  · skip
    have e1 : datR id l X p at' n g = [] := by unfold datR; rw [if_neg (by simp [*]), if_neg (by simp [*])]
    rw [e1, List.append_nil]
    refine FinK.mk ⟨[0, 1, 2, 3, 4, 5, 4], _, _, ⟨co, rfl, rfl⟩, ?_⟩
    (repeat' first | refine And.intro ?_ ?_ | exact xeC | fail)
/-! ### New, Acked, Held, Next -/
def R0 : Rw := ⟨[], 0, [], fun _ => none⟩
def wrV (id per la : Int) (q : Qos) (hp lp : C) : List C := [.i .i64 id, .b q.rel, .b q.dur, .b q.keep, .i .i64 q.depth, .i .i64 q.dead, .i .i64 q.life, .i .i64 q.lease, .i .i64 per, .i .i64 la, hp, lp]
def wrZ : List C := [.i .i64 0, .ff, .ff, .ff, .i .i64 0, .i .i64 0, .i .i64 0, .i .i64 0, .i .i64 0, .i .i64 0, .nilp, .nils]
theorem rH18ziB2 {σ : List Sg} {H h' : List Fam} {v : T} {K : T → List Fam → Prop} {H' : List Fam} {v' : T} {N : Nat} (hk : K v' H') (hN : H.length = N := by (try simp only [↓List.length_cons, ↓List.length_nil, Nat.reduceAdd]) <;> rfl) (h : givesF σ N H σ h' = some H' := by (try simp (maxSteps := 1000000) only [givesF, setF, updF, Fam.zeroth, Fam.rk, Ck.rk, C.rk, E.rk, T.rk, key, List.map_cons, List.map_nil, List.cons_append, List.nil_append, List.length_cons, List.length_nil, Option.map_some, Option.bind_some, Nat.reduceAdd, Nat.zero_add, Nat.add_zero, Nat.add_sub_cancel_left, Int.toNat_natCast, reps, List.all_cons, List.all_nil, C.flat, List.append_eq, Bool.not_true, Bool.and_true, Bool.or_false, Bool.or_self, Bool.not_false, List.append_nil, Bool.and_self, ↓rqO_rk, encQ]) <;> rfl) (hv : v.rk σ N = v' := by (try simp only [givesF, setF, updF, Fam.zeroth, Fam.rk, Ck.rk, C.rk, E.rk, T.rk, key, List.map_cons, List.map_nil, List.cons_append, List.nil_append, List.length_cons, List.length_nil, Option.map_some, Option.bind_some, Nat.reduceAdd, Nat.zero_add, Nat.add_zero, Nat.add_sub_cancel_left, Int.toNat_natCast, reps, List.all_cons, List.all_nil, C.flat, List.append_eq, Bool.not_true, Bool.and_true, Bool.or_false, Bool.or_self, Bool.not_false, List.append_nil, Bool.and_self, ↓rqO_rk, encQ]) <;> rfl) : RetG σ H h' v K := ret_mk3 hN h hv hk
set_option maxRecDepth 10000 in
theorem rnewW (id per : Int) (q : Qos) : Ctr Tryz.prog 7 [.c (.i .i64 id), .a (encQ q), .c (.i .i64 per)] []
      fun v h => ((idOk id per ∧ okQ q) ∧ v = .t [.a (wrV id per 0 q (.p 0 0 0) .nils), .c (.i .i64 0)] ∧ h = [.one (hist 1 q 0 0), .one (smps true [] 0)]) ∨ (¬ (idOk id per ∧ okQ q) ∧ v = .t [.a wrZ, .c (.i .i64 4)] ∧ h = []) := by
  refine Ctr.mk' tbv mixed Tryz.func7 rfl rfl rfl (fun _ _ => by kernel_rfl) (by kernel_rfl) (by rfl) (by rfl) (by (repeat' first | refine And.intro ?_ ?_ | exact xeC | fail)) ?_
  repeat' (first | (fail_if_success (with_reducible refine xstp ?_)); first | ((with_reducible refine And.intro (fun (hb : _ = true) => ?_) (fun (hb : _ = false) => ?_)) <;> replace hb := xnC hb <;> (try first | exact xfC | exact bff hb (by assumption) | exact bff (by assumption) hb)) | (with_reducible intro hc; (try simp only [capsP, and_true] at hc); (try exact xfC)) | ((fail_if_success (with_reducible first | refine xgon ?_ | intro _)); (conv => whnf); (fail_if_success (fail_if_success (with_reducible first | refine xstp ?_ | refine xgon ?_ | intro _)))))
  all_goals try (
    refine FinK.mk ⟨[], _, _, .inr ⟨fun h => by have := h.1; unfold idOk at this; omega, rfl, rfl⟩, ?_⟩
    (repeat' first | refine And.intro ?_ ?_ | exact xeC | fail)
    done)
  have hi : idOk id per := by unfold idOk; omega
  refine cH18ziB3 (σ := []) (nl := []) (rnew q) ?_
  rintro v h' (⟨hq, rfl, rfl⟩ | ⟨hq, rfl, rfl⟩) hcaps
  · refine rH18ziB2 ?_
    repeat' (first | (fail_if_success (with_reducible refine xstp ?_)); first | ((with_reducible refine And.intro (fun (hb : _ = true) => ?_) (fun (hb : _ = false) => ?_)) <;> replace hb := xnC hb <;> (try first | exact xfC | exact bff hb (by assumption) | exact bff (by assumption) hb)) | ((fail_if_success (with_reducible first | refine xgon ?_ | intro _)); (conv => whnf); (fail_if_success (fail_if_success (with_reducible first | refine xstp ?_ | refine xgon ?_ | intro _)))))
    refine FinK.mk ⟨[2, 3], _, _, .inl ⟨⟨hi, hq⟩, rfl, rfl⟩, ?_⟩
    (repeat' first | refine And.intro ?_ ?_ | exact xeC | fail)
    all_goals trace_state
  · refine rH18ziB2 ?_
    repeat' (first | (fail_if_success (with_reducible refine xstp ?_)); first | ((with_reducible refine And.intro (fun (hb : _ = true) => ?_) (fun (hb : _ = false) => ?_)) <;> replace hb := xnC hb <;> (try first | exact xfC | exact bff hb (by assumption) | exact bff (by assumption) hb)) | ((fail_if_success (with_reducible first | refine xgon ?_ | intro _)); (conv => whnf); (fail_if_success (fail_if_success (with_reducible first | refine xstp ?_ | refine xgon ?_ | intro _)))))
    refine FinK.mk ⟨[], _, _, .inr ⟨fun h => hq h.2, rfl, rfl⟩, ?_⟩
    (repeat' first | refine And.intro ?_ ?_ | exact xeC | fail)
set_option maxRecDepth 10000 in
theorem racked (id per la : Int) (q : Qos) (R : Rw) (cM : Nat) (cf : Nat → Nat) (r : Int) (hR : ROk R) (hl : R.S.length ≤ 1000000) :
    Ctr Tryz.prog 23 [.c (.p 0 0 0), .c (.i .i64 r)] [.one (wrr 1 2 id per la q R.S.length cM), .one .no, .one (rdR 4 R cM cf), .one .no, .one .no]
      fun v h => v = .c (.i .i64 (R.W.acked r)) ∧ h = [.one (wrr 1 2 id per la q R.S.length cM), .one .no, .one (rdR 4 R cM cf), .one .no, .one .no] := by
  refine Ctr.mk' tbv mixed Tryz.func23 rfl rfl rfl (fun _ _ => by kernel_rfl) (by kernel_rfl) (by rfl) (by rfl) (by (repeat' first | refine And.intro ?_ ?_ | exact xeC | fail) <;> exact xmI) ?_
  repeat' (first | (fail_if_success (with_reducible refine xstp ?_)); first | (with_reducible intro hc; (try simp only [capsP, and_true] at hc); (try exact xfC)) | ((fail_if_success (with_reducible first | refine xgon ?_ | intro _)); (conv => whnf); (fail_if_success (fail_if_success (with_reducible first | refine xstp ?_ | refine xgon ?_ | intro _)))))
  refine cH18ziB3 (σ := [.whole 0, .name 1, .whole 2, .name 3, .name 4]) (nl := []) (rplace id per la q R cM cf r hR hl) ?_ (hle := by (repeat' first | refine And.intro ?_ ?_ | exact xeC | fail) <;> exact xmI)
  rcases fnd_s hR r with ⟨h1, hn⟩ | ⟨k, p, h1, hk, hw, hD, hm, hw1⟩
  · rw [h1, show idxO none = (-1 : Int) from rfl]
    rintro v h' ⟨rfl, rfl⟩ hcaps
    refine rH18ziB0 ?_
    rw [rd_fun (G := 4) (fun x => rfl)]
    repeat' (first | (fail_if_success (with_reducible refine xstp ?_)); first | ((with_reducible refine And.intro (fun (hb : _ = true) => ?_) (fun (hb : _ = false) => ?_)) <;> replace hb := xnC hb <;> (try first | exact xfC | exact bff hb (by assumption) | exact bff (by assumption) hb)) | ((fail_if_success (with_reducible first | refine xgon ?_ | intro _)); (conv => whnf); (fail_if_success (fail_if_success (with_reducible first | refine xstp ?_ | refine xgon ?_ | intro _)))))
    have e2 : R.W.acked r = 0 := by unfold Ws.acked; rw [hn]
    rw [e2]
    refine FinK.mk ⟨[0, 1, 2, 3, 4], _, _, ⟨rfl, rfl⟩, ?_⟩
    (repeat' first | refine And.intro ?_ ?_ | exact xeC | fail)
    all_goals exact xmI
  · rw [h1, show idxO (some k) = (k : Nat) from rfl]
    rintro v h' ⟨rfl, rfl⟩ hcaps
    refine rH18ziB0 ?_
    rw [rd_fun (G := 4) (fun x => rfl)]
    have he : encRd 4 R cf k = _ := rd_at hD
    have e3 : 0 + ((k : Nat) : Int).toNat = k := by omega
    unfold encPr at he
    repeat' (first | (fail_if_success (with_reducible refine xstp ?_)); first | ((with_reducible refine And.intro (fun (hb : _ = true) => ?_) (fun (hb : _ = false) => ?_)) <;> replace hb := xnC hb <;> (try first | exact xfC | exact bff hb (by assumption) | exact bff (by assumption) hb)) | ((with_reducible refine And.intro ?_ ?_); focus exact xoC) | ((fail_if_success (with_reducible first | refine xgon ?_ | intro _)); (conv => whnf); (fail_if_success (fail_if_success (with_reducible first | refine xstp ?_ | refine xgon ?_ | intro _)))))
    rw [e3, he]
    repeat' (first | (fail_if_success (with_reducible refine xstp ?_)); first | ((fail_if_success (with_reducible first | refine xgon ?_ | intro _)); (conv => whnf); (fail_if_success (fail_if_success (with_reducible first | refine xstp ?_ | refine xgon ?_ | intro _)))))
    have e2 : R.W.acked r = p.ac := by unfold Ws.acked; rw [hm]
    rw [e2]
    refine FinK.mk ⟨[0, 1, 2, 3, 4], _, _, ⟨rfl, rfl⟩, ?_⟩
    (repeat' first | refine And.intro ?_ ?_ | exact xeC | fail)
    all_goals exact xmI
set_option maxRecDepth 10000 in
theorem rheld (id per la : Int) (q : Qos) (nS cM : Nat) (l : List Smp) (c : Nat) (hl : l.length ≤ 1000000) :
    Ctr Tryz.prog 26 [.c (.p 0 0 0)] [.one (wrr 1 2 id per la q nS cM), .one (hist 3 q l.length c), .one .no, .one (smps true l c)]
      fun v h => ∃ c', v = .c (.sl 4 0 4 0 l.length c') ∧ h = [.one (wrr 1 2 id per la q nS cM), .one (hist 3 q l.length c), .one .no, .one (smps true l c), .one (smps true l c')] := by
  refine Ctr.mk' tbv mixed Tryz.func26 rfl rfl rfl (fun _ _ => by kernel_rfl) (by kernel_rfl) (by rfl) (by rfl) (by (repeat' first | refine And.intro ?_ ?_ | exact xeC | fail)) ?_
  repeat' (first | (fail_if_success (with_reducible refine xstp ?_)); first | (with_reducible intro hc; (try simp only [capsP, and_true] at hc); (try exact xfC)) | ((fail_if_success (with_reducible first | refine xgon ?_ | intro _)); (conv => whnf); (fail_if_success (fail_if_success (with_reducible first | refine xstp ?_ | refine xgon ?_ | intro _)))))
  refine cH18ziB3 (σ := [.whole 1, .whole 3]) (nl := []) (rlist q l c hl) ?_
  rintro v h' ⟨c', rfl, rfl⟩ hcaps
  refine rH18ziB0 ?_
  repeat' (first | (fail_if_success (with_reducible refine xstp ?_)); first | ((fail_if_success (with_reducible first | refine xgon ?_ | intro _)); (conv => whnf); (fail_if_success (fail_if_success (with_reducible first | refine xstp ?_ | refine xgon ?_ | intro _)))))
  refine FinK.mk ⟨[0, 1, 2, 3, 4], _, _, ⟨c', rfl, rfl⟩, ?_⟩
  (repeat' first | refine And.intro ?_ ?_ | exact xeC | fail)
/-- The least time of the heartbeats of the first n readers. -/
def IsNy (R : Rw) (n : Nat) (b : Int) (is : Bool) : Prop := (is = false ∧ b = 0 ∧ ∀ i, i < n → cand R.W (R.S.getD i default) = none) ∨
  (is = true ∧ (∃ i, i < n ∧ cand R.W (R.S.getD i default) = some b) ∧ ∀ i t, i < n → cand R.W (R.S.getD i default) = some t → b ≤ t)
theorem ny_skip {R : Rw} {n : Nat} {b : Int} {is : Bool} (h : IsNy R n b is) (hi : cand R.W (R.S.getD n default) = none) : IsNy R (n + 1) b is := by
  rcases h with ⟨h1, h2, h3⟩ | ⟨h1, ⟨j, hj, h2⟩, h3⟩
  · refine .inl ⟨h1, h2, fun j hj => ?_⟩
    rcases (by omega : j < n ∨ j = n) with hj | rfl
    · exact h3 j hj
    · exact hi
  · refine .inr ⟨h1, ⟨j, by omega, h2⟩, fun k t hk ht => ?_⟩
    rcases (by omega : k < n ∨ k = n) with hk | rfl
    · exact h3 k t hk ht
    · rw [hi] at ht; cases ht
theorem ny_worse {R : Rw} {n : Nat} {b t : Int} {is : Bool} (h : IsNy R n b is) (hi : cand R.W (R.S.getD n default) = some t) (h1 : is = true) (h2 : b ≤ t) : IsNy R (n + 1) b is := by
  rcases h with ⟨h3, _⟩ | ⟨_, ⟨j, hj, h3⟩, h4⟩
  · rw [h1] at h3; cases h3
  · refine .inr ⟨h1, ⟨j, by omega, h3⟩, fun k t' hk ht => ?_⟩
    rcases (by omega : k < n ∨ k = n) with hk | rfl
    · exact h4 k t' hk ht
    · rw [hi] at ht; rw [← Option.some.inj ht]; exact h2
theorem ny_better {R : Rw} {n : Nat} {b t : Int} {is : Bool} (h : IsNy R n b is) (hi : cand R.W (R.S.getD n default) = some t) (h2 : is = false ∨ t < b) : IsNy R (n + 1) t true := by
  refine .inr ⟨rfl, ⟨n, by omega, hi⟩, fun k t' hk ht => ?_⟩
  rcases (by omega : k < n ∨ k = n) with hk | rfl
  · rcases h with ⟨_, _, h5⟩ | ⟨h4, _, h5⟩
    · rw [h5 k hk] at ht; cases ht
    · have := h5 k t' hk ht
      rcases h2 with h2 | h2
      · rw [h2] at h4; cases h4
      · omega
  · rw [hi] at ht; rw [← Option.some.inj ht]; exact Int.le_refl _
set_option maxRecDepth 10000 in
set_option maxHeartbeats 4000000 in
theorem rnext (id per : Int) (q : Qos) (R : Rw) (cM : Nat) (cf : Nat → Nat) (hR : ROk R) (hl : R.S.length ≤ 1000000) :
    Ctr Tryz.prog 21 [.c (.p 0 0 0)] [.one (wrr 1 2 id per R.la q R.S.length cM), .one .no, .one (rdR 4 R cM cf), .one .no, .one .no]
      fun v h => ∃ b is, IsNy R R.S.length b is ∧ v = .t [.c (.i .i64 b), .c (.b is)] ∧ h = [.one (wrr 1 2 id per R.la q R.S.length cM), .one .no, .one (rdR 4 R cM cf), .one .no, .one .no] := by
  refine Ctr.mk' tbv mixed Tryz.func21 rfl rfl rfl (fun _ _ => by kernel_rfl) (by kernel_rfl) (by rfl) (by rfl) (by (repeat' first | refine And.intro ?_ ?_ | exact xeC | fail) <;> exact xmI) ?_
  repeat' (first | (fail_if_success (with_reducible refine xstp ?_)); first | (with_reducible intro hc; (try simp only [capsP, and_true] at hc); (try exact xfC)) | ((fail_if_success (with_reducible first | refine xgon ?_ | intro _)); (conv => whnf); (fail_if_success (fail_if_success (with_reducible first | refine xstp ?_ | refine xgon ?_ | intro _)))))
  refine LoopK.mk' {k : Nat × Int × Bool // k.1 ≤ R.S.length ∧ IsNy R k.1 k.2.1 k.2.2}
    (fun ⟨(i, b, is), _⟩ => ⟨[(0, .c (.p 0 0 0)), (4, .c (.i .i64 b)), (5, .c (.b is)), (6, .c (.i .i64 (i : Nat)))], [.one (wrr 1 2 id per R.la q R.S.length cM), .one .no, .one (rdR 4 R cM cf), .one .no, .one .no]⟩) (fun k => R.S.length - k.1.1)
    ⟨⟨(0, 0, false), Nat.zero_le _, .inl ⟨rfl, rfl, fun j h => absurd h (Nat.not_lt_zero j)⟩⟩, [0, 1, 2, 3, 4], ?_⟩ ?_
  · (repeat' first | refine And.intro ?_ ?_ | exact xeC | fail)
    all_goals exact xmI
  rintro ⟨⟨i, b, is⟩, hi, hnx⟩
  simp only at hi hnx
  have e3 : 0 + ((i : Nat) : Int).toNat = i := by omega
  rcases Nat.lt_or_ge i R.S.length with hlt | hge
  · obtain ⟨h1, p, hp⟩ := hR.a i hlt
    have he : encRd 4 R cf i = _ := rd_at hp
    unfold encPr at he
    have hcd : cand R.W (R.S.getD i default) = if p.rel = true ∧ p.ac < R.la then some p.bt else none := by
      show (match R.D (R.S.getD i default) with | some p => _ | none => _) = _
      rw [hp]
      rfl
    repeat' (first | (fail_if_success (with_reducible refine xstp ?_)); first | ((with_reducible refine And.intro (fun (hb : _ = true) => ?_) (fun (hb : _ = false) => ?_)) <;> replace hb := xnC hb <;> (try first | exact xfC | exact bff hb (by assumption) | exact bff (by assumption) hb)) | ((with_reducible refine And.intro ?_ ?_); focus exact xoC) | (with_reducible intro hc; (try simp only [capsP, and_true] at hc); (try exact xfC)) | ((fail_if_success (with_reducible first | refine xgon ?_ | intro _)); (conv => whnf); (fail_if_success (fail_if_success (with_reducible first | refine xstp ?_ | refine xgon ?_ | intro _)))))
    rw [e3, he]
    repeat' (first | (fail_if_success (with_reducible refine xstp ?_)); first | ((with_reducible refine And.intro (fun (hb : _ = true) => ?_) (fun (hb : _ = false) => ?_)) <;> replace hb := xnC hb <;> (try first | exact xfC | exact bff hb (by assumption) | exact bff (by assumption) hb)) | ((with_reducible refine And.intro ?_ ?_); focus exact xoC) | ((fail_if_success (with_reducible first | refine xgon ?_ | intro _)); (conv => whnf); (fail_if_success (fail_if_success (with_reducible first | refine xstp ?_ | refine xgon ?_ | intro _)))))
    all_goals try (
      rw [e3, he]
      repeat' (first | (fail_if_success (with_reducible refine xstp ?_)); first | ((with_reducible refine And.intro (fun (hb : _ = true) => ?_) (fun (hb : _ = false) => ?_)) <;> replace hb := xnC hb <;> (try first | exact xfC | exact bff hb (by assumption) | exact bff (by assumption) hb)) | ((with_reducible refine And.intro ?_ ?_); focus exact xoC) | ((fail_if_success (with_reducible first | refine xgon ?_ | intro _)); (conv => whnf); (fail_if_success (fail_if_success (with_reducible first | refine xstp ?_ | refine xgon ?_ | intro _)))))
      skip)
    all_goals try (
      rw [e3, he]
      repeat' (first | (fail_if_success (with_reducible refine xstp ?_)); first | ((with_reducible refine And.intro (fun (hb : _ = true) => ?_) (fun (hb : _ = false) => ?_)) <;> replace hb := xnC hb <;> (try first | exact xfC | exact bff hb (by assumption) | exact bff (by assumption) hb)) | ((with_reducible refine And.intro ?_ ?_); focus exact xoC) | ((fail_if_success (with_reducible first | refine xgon ?_ | intro _)); (conv => whnf); (fail_if_success (fail_if_success (with_reducible first | refine xstp ?_ | refine xgon ?_ | intro _)))))
      skip)
    all_goals try (
      rw [e3, he]
      repeat' (first | (fail_if_success (with_reducible refine xstp ?_)); first | ((with_reducible refine And.intro ?_ ?_); focus exact xoC) | ((fail_if_success (with_reducible first | refine xgon ?_ | intro _)); (conv => whnf); (fail_if_success (fail_if_success (with_reducible first | refine xstp ?_ | refine xgon ?_ | intro _)))))
      skip)
    all_goals first
      | (have h5 : p.rel = false := by assumption
         have h2 := ny_skip hnx (hcd.trans (if_neg (fun h => by rw [h5] at h; cases h.1)))
         refine ⟨⟨(i + 1, b, is), by simp only; omega, h2⟩, [0, 1, 2, 3, 4], by simp only; omega, ?_⟩
         (repeat' first | refine And.intro ?_ ?_ | exact xeC | fail)
         all_goals exact xmI
         done)
      | (have h6 : R.la ≤ p.ac := by assumption
         have h2 := ny_skip hnx (hcd.trans (if_neg (fun h => by have := h.2; omega)))
         refine ⟨⟨(i + 1, b, is), by simp only; omega, h2⟩, [0, 1, 2, 3, 4], by simp only; omega, ?_⟩
         (repeat' first | refine And.intro ?_ ?_ | exact xeC | fail)
         all_goals exact xmI
         done)
      | (have hn := hcd.trans (if_pos ⟨by assumption, by assumption⟩)
         have h7 : b ≤ p.bt := by assumption
         have h2 := ny_worse hnx hn (by assumption) h7
         refine ⟨⟨(i + 1, b, is), by simp only; omega, h2⟩, [0, 1, 2, 3, 4], by simp only; omega, ?_⟩
         (repeat' first | refine And.intro ?_ ?_ | exact xeC | fail)
         all_goals exact xmI
         done)
      | (have hn := hcd.trans (if_pos ⟨by assumption, by assumption⟩)
         have h2 := ny_better hnx hn (by first | exact .inl (by assumption) | exact .inr (by omega))
         refine ⟨⟨(i + 1, p.bt, true), by simp only; omega, h2⟩, [0, 1, 2, 3, 4], by simp only; omega, ?_⟩
         (repeat' first | refine And.intro ?_ ?_ | exact xeC | fail)
         all_goals exact xmI
         done)
      | skip
    all_goals trace_state
  · skip
    repeat' (first | (fail_if_success (with_reducible refine xstp ?_)); first | ((with_reducible refine And.intro (fun (hb : _ = true) => ?_) (fun (hb : _ = false) => ?_)) <;> replace hb := xnC hb <;> (try first | exact xfC | exact bff hb (by assumption) | exact bff (by assumption) hb)) | (with_reducible intro hc; (try simp only [capsP, and_true] at hc); (try exact xfC)) | ((fail_if_success (with_reducible first | refine xgon ?_ | intro _)); (conv => whnf); (fail_if_success (fail_if_success (with_reducible first | refine xstp ?_ | refine xgon ?_ | intro _)))))
    obtain rfl : i = R.S.length := by omega
    refine FinK.mk ⟨[0, 1, 2, 3, 4], _, _, ⟨b, is, hnx, rfl, rfl⟩, ?_⟩
    (repeat' first | refine And.intro ?_ ?_ | exact xeC | fail)
    all_goals exact xmI
end Go.Proofs.YtofcadbfjbefkaaGreat


namespace Go.Proofs.YtofcadbfjbefkaaGreat
open Go.X
set_option linter.unusedSimpArgs false
set_option linter.unusedVariables false
def prnSR (id : Int) (R : Rw) (m : List Smp) (s : Smp) : List Smp := if ndB s.q R.W then m else eraS m id s.q
def prnR (id : Int) (q : Qos) (R : Rw) : List Smp := if q.keep = true ∧ q.dur = false then R.l.foldl (prnSR id R) R.l else R.l
def wrEr (id : Int) (q : Qos) (R : Rw) (at' : Int) (p : ByteArray) : Int := addE q (prnR id q R) ⟨id, R.la + 1, at', p⟩
def wrNr (id : Int) (q : Qos) (R : Rw) (at' : Int) (p : ByteArray) : Int := if wrEr id q R at' p = 0 then R.la + 1 else 0
def wrRr (id : Int) (q : Qos) (R : Rw) (at' : Int) (p : ByteArray) : Rw := ⟨newS q (prnR id q R) ⟨id, R.la + 1, at', p⟩, if wrEr id q R at' p = 0 then R.la + 1 else R.la, R.S, R.D⟩
theorem era_len (m : List Smp) (w q : Int) : (eraS m w q).length ≤ m.length := by
  unfold eraS
  split
  · rw [List.length_eraseIdx]; split <;> omega
  · exact Nat.le_refl _
theorem prnR_len (id : Int) (R : Rw) : ∀ (t m : List Smp), (t.foldl (prnSR id R) m).length ≤ m.length
  | [], m => Nat.le_refl _
  | s :: t, m => by
    refine Nat.le_trans (prnR_len id R t _) ?_
    unfold prnSR
    split
    · exact Nat.le_refl _
    · exact era_len _ _ _
theorem prnR_succ (id : Int) (R : Rw) {k : Nat} (hk : k < R.l.length) : (R.l.take (k + 1)).foldl (prnSR id R) R.l = prnSR id R ((R.l.take k).foldl (prnSR id R) R.l) (R.l.getD k default) := by
  rw [← List.take_append_getElem hk, List.foldl_append, getD_at hk]
  rfl
/-- The reference's writer in memory, whole. -/
abbrev rB (id per : Int) (q : Qos) (R : Rw) (cM c : Nat) (cf : Nat → Nat) : List Fam :=
  [.one (wrr 1 2 id per R.la q R.S.length cM), .one (hist 3 q R.l.length c), .one (rdR 4 R cM cf), .one (smps true R.l c), rqs R.D cf]
abbrev rA (id per : Int) (q : Qos) (R : Rw) (cM c : Nat) (cf : Nat → Nat) : List Fam :=
  [.one (wrr 1 2 id per R.la q R.S.length cM), .one (hist 5 q R.l.length c), .one (rdR 4 R cM cf), .one .no, rqs R.D cf, .one (smps true R.l c)]
theorem rH18ziC0 {σ : List Sg} {H h' : List Fam} {v : T} {K : T → List Fam → Prop} {H' : List Fam} {v' : T} {N : Nat} (hk : K v' H') (hN : H.length = N := by (try simp only [↓List.length_cons, ↓List.length_nil, Nat.reduceAdd]) <;> rfl) (h : givesF σ N H σ h' = some H' := by (try simp (maxSteps := 1000000) only [givesF, setF, updF, Fam.zeroth, Fam.rk, Ck.rk, C.rk, E.rk, T.rk, key, List.map_cons, List.map_nil, List.cons_append, List.nil_append, List.length_cons, List.length_nil, Option.map_some, Option.bind_some, Nat.reduceAdd, Nat.zero_add, Nat.add_zero, Nat.add_sub_cancel_left, Int.toNat_natCast, reps, List.all_cons, List.all_nil, C.flat, List.append_eq, Bool.not_true, Bool.and_true, Bool.or_false, Bool.or_self, Bool.not_false, List.append_nil, Bool.and_self, ↓rqO_rk, encS]) <;> rfl) (hv : v.rk σ N = v' := by (try simp only [givesF, setF, updF, Fam.zeroth, Fam.rk, Ck.rk, C.rk, E.rk, T.rk, key, List.map_cons, List.map_nil, List.cons_append, List.nil_append, List.length_cons, List.length_nil, Option.map_some, Option.bind_some, Nat.reduceAdd, Nat.zero_add, Nat.add_zero, Nat.add_sub_cancel_left, Int.toNat_natCast, reps, List.all_cons, List.all_nil, C.flat, List.append_eq, Bool.not_true, Bool.and_true, Bool.or_false, Bool.or_self, Bool.not_false, List.append_nil, Bool.and_self, ↓rqO_rk, encS]) <;> rfl) : RetG σ H h' v K := ret_mk3 hN h hv hk
theorem rH18ziC1 {σ : List Sg} {H h' : List Fam} {v : T} {K : T → List Fam → Prop} {H' : List Fam} {v' : T} {N : Nat} (hk : K v' H') (hN : H.length = N := by (try simp only [↓List.length_cons, ↓List.length_nil, Nat.reduceAdd]) <;> rfl) (h : givesF σ N H σ h' = some H' := by (try simp (maxSteps := 1000000) only [givesF, setF, updF, Fam.zeroth, Fam.rk, Ck.rk, C.rk, E.rk, T.rk, key, List.map_cons, List.map_nil, List.cons_append, List.nil_append, List.length_cons, List.length_nil, Option.map_some, Option.bind_some, Nat.reduceAdd, Nat.zero_add, Nat.add_zero, Nat.add_sub_cancel_left, Int.toNat_natCast, reps, List.all_cons, List.all_nil, C.flat, List.append_eq, Bool.not_true, Bool.and_true, Bool.or_false, Bool.or_self, Bool.not_false, List.append_nil, Bool.and_self, ↓rqO_rk]) <;> rfl) (hv : v.rk σ N = v' := by (try simp only [givesF, setF, updF, Fam.zeroth, Fam.rk, Ck.rk, C.rk, E.rk, T.rk, key, List.map_cons, List.map_nil, List.cons_append, List.nil_append, List.length_cons, List.length_nil, Option.map_some, Option.bind_some, Nat.reduceAdd, Nat.zero_add, Nat.add_zero, Nat.add_sub_cancel_left, Int.toNat_natCast, reps, List.all_cons, List.all_nil, C.flat, List.append_eq, Bool.not_true, Bool.and_true, Bool.or_false, Bool.or_self, Bool.not_false, List.append_nil, Bool.and_self, ↓rqO_rk]) <;> rfl) : RetG σ H h' v K := ret_mk3 hN h hv hk
theorem cH18ziC2 {P : Program} {F : Nat} {args : List T} {H : List Fam} {K : T → List Fam → Prop} {σ : List Sg} {nl : List Fam} {args0 : List T} {h0 : List Fam} {Q : T → List Fam → Prop} {H2 H1 : List Fam} {N n : Nat} (hc : Ctr P F args0 h0 Q) (hk : ∀ v h', Q v h' → capsP h' → RetG σ H2 h' v K) (hap : apart σ = true := by rfl) (hnl : nl.all nilB = true := by rfl) (h1 : H ++ nl = H1 := by first | exact List.append_nil _ | ((try simp only [List.cons_append, List.nil_append]) <;> rfl)) (hN : H1.length = N := by (try simp only [↓List.length_cons, ↓List.length_nil, Nat.reduceAdd]) <;> rfl) (hn : H.length = n := by (try simp only [↓List.length_cons, ↓List.length_nil, Nat.reduceAdd]) <;> rfl) (hH : givesF σ N H1 σ h0 = some H2 := by (try simp (maxSteps := 1000000) only [givesF, setF, updF, Fam.zeroth, Fam.rk, Ck.rk, C.rk, E.rk, T.rk, key, List.map_cons, List.map_nil, List.cons_append, List.nil_append, List.length_cons, List.length_nil, Option.map_some, Option.bind_some, Nat.reduceAdd, Nat.zero_add, Nat.add_zero, Nat.add_sub_cancel_left, Int.toNat_natCast, reps, List.all_cons, List.all_nil, C.flat, List.append_eq, Bool.not_true, Bool.and_true, Bool.or_false, Bool.or_self, Bool.not_false, List.append_nil, Bool.and_self, ↓rqO_rk]) <;> rfl) (hle : leS n H1 σ N σ h0 (belsK N (h0.map (Fam.rk σ N)) (argsK n args (args0.map (T.rk σ N)) True)) := by repeat' first | refine And.intro ?_ ?_ | exact xeC | fail) : CallK P F args H K := CallK.mk3 hc hap hnl h1 hN hn hH hle hk
set_option maxRecDepth 10000 in
set_option maxHeartbeats 8000000 in
theorem rwrite (id per : Int) (q : Qos) (R : Rw) (cM c : Nat) (cf : Nat → Nat) (at' : Int) (p : ByteArray) (hR : ROk R) (hS : R.S.length ≤ 1000000) (hl : R.l.length ≤ 1000000) (hla : 0 ≤ R.la ∧ R.la ≤ 1000000) (hq : q.keep = true ∨ 1 ≤ q.depth) :
    Ctr Tryz.prog 9 [.c (.p 0 0 0), .c (.i .i64 at'), .c (.s p)] (rB id per q R cM c cf)
      fun v h => ∃ c', v = .t [.c (.i .i64 (wrNr id q R at' p)), .c (.i .i64 (wrEr id q R at' p))] ∧ h = rA id per q (wrRr id q R at' p) cM c' cf := by
  refine Ctr.mk' tbv mixed Tryz.func9 rfl rfl rfl (fun _ _ => by kernel_rfl) (by kernel_rfl) (by rfl) (by rfl) (by (repeat' first | refine And.intro ?_ ?_ | exact xeC | fail) <;> exact xmI) ?_
  repeat' (first | (fail_if_success (with_reducible refine xstp ?_)); first | ((with_reducible refine And.intro (fun (hb : _ = true) => ?_) (fun (hb : _ = false) => ?_)) <;> replace hb := xnC hb <;> (try first | exact xfC | exact bff hb (by assumption) | exact bff (by assumption) hb)) | ((with_reducible refine And.intro ?_ ?_); focus exact xoC) | (with_reducible intro hc; (try simp only [capsP, and_true] at hc); (try exact xfC)) | ((fail_if_success (with_reducible first | refine xgon ?_ | intro _)); (conv => whnf); (fail_if_success (fail_if_success (with_reducible first | refine xstp ?_ | refine xgon ?_ | intro _)))))
  rotate_left 1
  · have hd : q.dur = true := by assumption
    have hm : prnR id q R = R.l := by unfold prnR; exact if_neg (fun h => by rw [hd] at h; cases h.2)
    refine cH18ziC2 (σ := [.whole 1, .whole 3]) (nl := []) (radd q (R.l) c ⟨id, R.la + 1, at', p⟩ (by omega) hq) ?_
    rintro v h' ⟨co, c2, rfl, rfl⟩ hcaps
    refine rH18ziC0 ?_
    have e3 : wrEr id q R at' p = addE q (R.l) ⟨id, R.la + 1, at', p⟩ := by rw [← hm]; rfl
    have e2 : (wrRr id q R at' p).l = newS q (R.l) ⟨id, R.la + 1, at', p⟩ := by rw [← hm]; rfl
    repeat' (first | (fail_if_success (with_reducible refine xstp ?_)); first | ((with_reducible refine And.intro (fun (hb : _ = true) => ?_) (fun (hb : _ = false) => ?_)) <;> replace hb := xnC hb <;> (try first | exact xfC | exact bff hb (by assumption) | exact bff (by assumption) hb)) | ((with_reducible refine And.intro ?_ ?_); focus exact xoC) | ((fail_if_success (with_reducible first | refine xgon ?_ | intro _)); (conv => whnf); (fail_if_success (fail_if_success (with_reducible first | refine xstp ?_ | refine xgon ?_ | intro _)))))
    · have he : wrEr id q R at' p ≠ 0 := by rw [e3]; assumption
      have e0 : wrNr id q R at' p = 0 := if_neg he
      have e1 : (wrRr id q R at' p).la = R.la := if_neg he
      refine FinK.mk ⟨[0, 1, 2, 3, 4, 5], _, _, ⟨c2, rfl, rfl⟩, ?_⟩
      unfold rA
      rw [e0, e1, e2, e3]
      (repeat' first | refine And.intro ?_ ?_ | exact xeC | fail)
      all_goals exact xmI
    · have he : wrEr id q R at' p = 0 := by rw [e3]; assumption
      have e0 : wrNr id q R at' p = R.la + 1 := if_pos he
      have e1 : (wrRr id q R at' p).la = R.la + 1 := if_pos he
      refine FinK.mk ⟨[0, 1, 2, 3, 4, 5], _, _, ⟨c2, rfl, rfl⟩, ?_⟩
      unfold rA
      rw [e0, e1, e2, he]
      (repeat' first | refine And.intro ?_ ?_ | exact xeC | fail)
      all_goals exact xmI
  · have hd : q.keep = false := by assumption
    have hm : prnR id q R = R.l := by unfold prnR; exact if_neg (fun h => by rw [hd] at h; cases h.1)
    refine cH18ziC2 (σ := [.whole 1, .whole 3]) (nl := []) (radd q (R.l) c ⟨id, R.la + 1, at', p⟩ (by omega) hq) ?_
    rintro v h' ⟨co, c2, rfl, rfl⟩ hcaps
    refine rH18ziC0 ?_
    have e3 : wrEr id q R at' p = addE q (R.l) ⟨id, R.la + 1, at', p⟩ := by rw [← hm]; rfl
    have e2 : (wrRr id q R at' p).l = newS q (R.l) ⟨id, R.la + 1, at', p⟩ := by rw [← hm]; rfl
    repeat' (first | (fail_if_success (with_reducible refine xstp ?_)); first | ((with_reducible refine And.intro (fun (hb : _ = true) => ?_) (fun (hb : _ = false) => ?_)) <;> replace hb := xnC hb <;> (try first | exact xfC | exact bff hb (by assumption) | exact bff (by assumption) hb)) | ((with_reducible refine And.intro ?_ ?_); focus exact xoC) | ((fail_if_success (with_reducible first | refine xgon ?_ | intro _)); (conv => whnf); (fail_if_success (fail_if_success (with_reducible first | refine xstp ?_ | refine xgon ?_ | intro _)))))
    · have he : wrEr id q R at' p ≠ 0 := by rw [e3]; assumption
      have e0 : wrNr id q R at' p = 0 := if_neg he
      have e1 : (wrRr id q R at' p).la = R.la := if_neg he
      refine FinK.mk ⟨[0, 1, 2, 3, 4, 5], _, _, ⟨c2, rfl, rfl⟩, ?_⟩
      unfold rA
      rw [e0, e1, e2, e3]
      (repeat' first | refine And.intro ?_ ?_ | exact xeC | fail)
      all_goals exact xmI
    · have he : wrEr id q R at' p = 0 := by rw [e3]; assumption
      have e0 : wrNr id q R at' p = R.la + 1 := if_pos he
      have e1 : (wrRr id q R at' p).la = R.la + 1 := if_pos he
      refine FinK.mk ⟨[0, 1, 2, 3, 4, 5], _, _, ⟨c2, rfl, rfl⟩, ?_⟩
      unfold rA
      rw [e0, e1, e2, he]
      (repeat' first | refine And.intro ?_ ?_ | exact xeC | fail)
      all_goals exact xmI
  have hk1 : q.keep = true := by assumption
  have hk2 : q.dur = false := by assumption
  refine cH18ziC2 (σ := [.whole 1, .whole 3]) (nl := []) (rlist q R.l c hl) ?_
  rintro v h' ⟨c', rfl, rfl⟩ hcaps
  refine rH18ziC1 ?_
  repeat' (first | (fail_if_success (with_reducible refine xstp ?_)); first | ((fail_if_success (with_reducible first | refine xgon ?_ | intro _)); (conv => whnf); (fail_if_success (fail_if_success (with_reducible first | refine xstp ?_ | refine xgon ?_ | intro _)))))
  refine LoopK.mk' ({k : Nat // k ≤ R.l.length} × Nat)
    (fun ⟨⟨k, _⟩, cc⟩ => ⟨[(0, .c (.p 0 0 0)), (1, .c (.i .i64 at')), (2, .c (.s p)), (8, .c (.sl 5 0 4 0 R.l.length c')), (9, .c (.i .i64 k))],
      [.one (wrr 1 2 id per R.la q R.S.length cM), .one (hist 6 q ((R.l.take k).foldl (prnSR id R) R.l).length cc), .one (rdR 4 R cM cf), .one .no, rqs R.D cf, .one (smps true R.l c'), .one (smps true ((R.l.take k).foldl (prnSR id R) R.l) cc)]⟩)
    (fun k => R.l.length - k.1.1)
    ⟨⟨⟨0, Nat.zero_le _⟩, c⟩, [0, 1, 2, 3, 4, 5, 3], ?_⟩ ?_
  · (repeat' first | refine And.intro ?_ ?_ | exact xeC | fail)
    all_goals exact xmI
  rintro ⟨⟨k, hk⟩, cc⟩
  have hml := prnR_len id R (R.l.take k) R.l
  repeat' (first | (fail_if_success (with_reducible refine xstp ?_)); first | ((with_reducible refine And.intro (fun (hb : _ = true) => ?_) (fun (hb : _ = false) => ?_)) <;> replace hb := xnC hb <;> (try first | exact xfC | exact bff hb (by assumption) | exact bff (by assumption) hb)) | ((with_reducible refine And.intro ?_ ?_); focus exact xoC) | (with_reducible intro hc; (try simp only [capsP, and_true] at hc); (try exact xfC)) | ((fail_if_success (with_reducible first | refine xgon ?_ | intro _)); (conv => whnf); (fail_if_success (fail_if_success (with_reducible first | refine xstp ?_ | refine xgon ?_ | intro _)))))
  · have hsk := prnR_succ id R (show k < R.l.length by omega)
    simp only [Int.toNat_natCast, Nat.zero_add]
    refine cH18ziC2 (σ := [.whole 0, .name 1, .whole 2, .name 3, .name 4]) (nl := []) (rneeded id per R.la q R cM cf (R.l.getD k default).q hR hS) ?_ (hle := by (repeat' first | refine And.intro ?_ ?_ | exact xeC | fail) <;> exact xmI)
    rintro v h' ⟨rfl, rfl⟩ hcaps
    refine rH18ziC1 ?_
    rw [rd_fun (G := 4) (fun x => rfl)]
    repeat' (first | (fail_if_success (with_reducible refine xstp ?_)); first | ((with_reducible refine And.intro (fun (hb : _ = true) => ?_) (fun (hb : _ = false) => ?_)) <;> replace hb := xnC hb <;> (try first | exact xfC | exact bff hb (by assumption) | exact bff (by assumption) hb)) | ((with_reducible refine And.intro ?_ ?_); focus exact xoC) | ((fail_if_success (with_reducible first | refine xgon ?_ | intro _)); (conv => whnf); (fail_if_success (fail_if_success (with_reducible first | refine xstp ?_ | refine xgon ?_ | intro _)))))
    · have hn : ndB (R.l.getD k default).q R.W = false := by assumption
      unfold prnSR at hsk
      rw [hn] at hsk
      simp only [Int.toNat_natCast, Nat.zero_add]
      refine cH18ziC2 (σ := [.whole 1, .whole 6]) (nl := []) (rremove q ((R.l.take k).foldl (prnSR id R) R.l) cc id (R.l.getD k default).q (by omega)) ?_
      rintro v h' ⟨c2, rfl, rfl⟩ hcaps
      refine rH18ziC1 ?_
      repeat' (first | (fail_if_success (with_reducible refine xstp ?_)); first | ((with_reducible refine And.intro ?_ ?_); focus exact xoC) | ((fail_if_success (with_reducible first | refine xgon ?_ | intro _)); (conv => whnf); (fail_if_success (fail_if_success (with_reducible first | refine xstp ?_ | refine xgon ?_ | intro _)))))
      refine ⟨⟨⟨k + 1, by omega⟩, c2⟩, [0, 1, 2, 3, 4, 5, 7], by simp only; omega, ?_⟩
      unfold prnSR
      simp only [hsk]
      (repeat' first | refine And.intro ?_ ?_ | exact xeC | fail)
      all_goals first | exact xmI | skip
      all_goals trace_state
    · have hn : ndB (R.l.getD k default).q R.W = true := by assumption
      unfold prnSR at hsk
      rw [hn] at hsk
      refine ⟨⟨⟨k + 1, by omega⟩, cc⟩, [0, 1, 2, 3, 4, 5, 6], by simp only; omega, ?_⟩
      unfold prnSR
      simp only [hsk]
      (repeat' first | refine And.intro ?_ ?_ | exact xeC | fail)
      all_goals first | exact xmI | skip
      all_goals trace_state
  · have ek : R.l.take k = R.l := List.take_of_length_le (by omega)
    have hm : prnR id q R = (R.l.take k).foldl (prnSR id R) R.l := by rw [ek]; unfold prnR; exact if_pos ⟨hk1, hk2⟩
    refine cH18ziC2 (σ := [.whole 1, .whole 6]) (nl := []) (radd q ((R.l.take k).foldl (prnSR id R) R.l) cc ⟨id, R.la + 1, at', p⟩ (by omega) hq) ?_
    rintro v h' ⟨co, c2, rfl, rfl⟩ hcaps
    refine rH18ziC0 ?_
    have e3 : wrEr id q R at' p = addE q ((R.l.take k).foldl (prnSR id R) R.l) ⟨id, R.la + 1, at', p⟩ := by rw [← hm]; rfl
    have e2 : (wrRr id q R at' p).l = newS q ((R.l.take k).foldl (prnSR id R) R.l) ⟨id, R.la + 1, at', p⟩ := by rw [← hm]; rfl
    repeat' (first | (fail_if_success (with_reducible refine xstp ?_)); first | ((with_reducible refine And.intro (fun (hb : _ = true) => ?_) (fun (hb : _ = false) => ?_)) <;> replace hb := xnC hb <;> (try first | exact xfC | exact bff hb (by assumption) | exact bff (by assumption) hb)) | ((with_reducible refine And.intro ?_ ?_); focus exact xoC) | ((fail_if_success (with_reducible first | refine xgon ?_ | intro _)); (conv => whnf); (fail_if_success (fail_if_success (with_reducible first | refine xstp ?_ | refine xgon ?_ | intro _)))))
    · have he : wrEr id q R at' p ≠ 0 := by rw [e3]; assumption
      have e0 : wrNr id q R at' p = 0 := if_neg he
      have e1 : (wrRr id q R at' p).la = R.la := if_neg he
      refine FinK.mk ⟨[0, 1, 2, 3, 4, 7], _, _, ⟨c2, rfl, rfl⟩, ?_⟩
      unfold rA
      rw [e0, e1, e2, e3]
      (repeat' first | refine And.intro ?_ ?_ | exact xeC | fail)
      all_goals exact xmI
    · have he : wrEr id q R at' p = 0 := by rw [e3]; assumption
      have e0 : wrNr id q R at' p = R.la + 1 := if_pos he
      have e1 : (wrRr id q R at' p).la = R.la + 1 := if_pos he
      refine FinK.mk ⟨[0, 1, 2, 3, 4, 7], _, _, ⟨c2, rfl, rfl⟩, ?_⟩
      unfold rA
      rw [e0, e1, e2, he]
      (repeat' first | refine And.intro ?_ ?_ | exact xeC | fail)
      all_goals exact xmI
end Go.Proofs.YtofcadbfjbefkaaGreat


namespace Go.Proofs.YtofcadbfjbefkaaGreat
open Go.X
set_option linter.unusedSimpArgs false
set_option linter.unusedVariables false
theorem rwithin (o r : Int) : Ctr Tryz.prog 81 [.c (.i .i64 o), .c (.i .i64 r)] [] fun v h => v = .c (.b (decide (wthn o r))) ∧ h = [] := by
  refine Ctr.mk' tbv mixed Tryz.func81 rfl rfl rfl (fun _ _ => by kernel_rfl) (by kernel_rfl) (by rfl) (by rfl) (by (repeat' first | refine And.intro ?_ ?_ | exact xeC | fail)) ?_
  repeat' (first | (fail_if_success (with_reducible refine xstp ?_)); first | ((with_reducible refine And.intro (fun (hb : _ = true) => ?_) (fun (hb : _ = false) => ?_)) <;> replace hb := xnC hb <;> (try first | exact xfC | exact bff hb (by assumption) | exact bff (by assumption) hb)) | (with_reducible intro hc; (try simp only [capsP, and_true] at hc); (try exact xfC)) | ((fail_if_success (with_reducible first | refine xgon ?_ | intro _)); (conv => whnf); (fail_if_success (fail_if_success (with_reducible first | refine xstp ?_ | refine xgon ?_ | intro _)))))
  all_goals (
    refine FinK.mk ⟨[], _, _, ⟨rfl, rfl⟩, ?_⟩; (repeat' first | refine And.intro ?_ ?_ | exact xeC | fail)
    all_goals first | exact decide_eq_decide.2 (by unfold wthn; omega) | exact (decide_eq_true (by unfold wthn; omega)).symm | exact (decide_eq_false (by unfold wthn; omega)).symm | exact decide_eq_true (by unfold wthn; omega) | exact decide_eq_false (by unfold wthn; omega) | (apply Bool.eq_iff_iff.2; simp [wthn]; omega))

theorem rH18ziD0 {σ : List Sg} {H h' : List Fam} {v : T} {K : T → List Fam → Prop} {H' : List Fam} {v' : T} {N : Nat} (hk : K v' H') (hN : H.length = N := by (try simp only [↓List.length_cons, ↓List.length_nil, Nat.reduceAdd]) <;> rfl) (h : givesF σ N H σ h' = some H' := by (try simp (maxSteps := 1000000) only [givesF, setF, updF, Fam.zeroth, Fam.rk, Ck.rk, C.rk, E.rk, T.rk, key, List.map_cons, List.map_nil, List.cons_append, List.nil_append, List.length_cons, List.length_nil, Option.map_some, Option.bind_some, Nat.reduceAdd, Nat.zero_add, Nat.add_zero, Nat.add_sub_cancel_left, Int.toNat_natCast, reps, List.all_cons, List.all_nil, C.flat, List.append_eq, Bool.not_true, Bool.and_true, Bool.or_false, Bool.or_self, Bool.not_false, List.append_nil, Bool.and_self, ↓rqO_rk]) <;> rfl) (hv : v.rk σ N = v' := by (try simp only [givesF, setF, updF, Fam.zeroth, Fam.rk, Ck.rk, C.rk, E.rk, T.rk, key, List.map_cons, List.map_nil, List.cons_append, List.nil_append, List.length_cons, List.length_nil, Option.map_some, Option.bind_some, Nat.reduceAdd, Nat.zero_add, Nat.add_zero, Nat.add_sub_cancel_left, Int.toNat_natCast, reps, List.all_cons, List.all_nil, C.flat, List.append_eq, Bool.not_true, Bool.and_true, Bool.or_false, Bool.or_self, Bool.not_false, List.append_nil, Bool.and_self, ↓rqO_rk]) <;> rfl) : RetG σ H h' v K := ret_mk3 hN h hv hk
theorem cH18ziD2 {P : Program} {F : Nat} {args : List T} {H : List Fam} {K : T → List Fam → Prop} {σ : List Sg} {nl : List Fam} {args0 : List T} {h0 : List Fam} {Q : T → List Fam → Prop} {H2 H1 : List Fam} {N n : Nat} (hc : Ctr P F args0 h0 Q) (hk : ∀ v h', Q v h' → capsP h' → RetG σ H2 h' v K) (hap : apart σ = true := by rfl) (hnl : nl.all nilB = true := by rfl) (h1 : H ++ nl = H1 := by first | exact List.append_nil _ | ((try simp only [List.cons_append, List.nil_append]) <;> rfl)) (hN : H1.length = N := by (try simp only [↓List.length_cons, ↓List.length_nil, Nat.reduceAdd]) <;> rfl) (hn : H.length = n := by (try simp only [↓List.length_cons, ↓List.length_nil, Nat.reduceAdd]) <;> rfl) (hH : givesF σ N H1 σ h0 = some H2 := by (try simp (maxSteps := 1000000) only [givesF, setF, updF, Fam.zeroth, Fam.rk, Ck.rk, C.rk, E.rk, T.rk, key, List.map_cons, List.map_nil, List.cons_append, List.nil_append, List.length_cons, List.length_nil, Option.map_some, Option.bind_some, Nat.reduceAdd, Nat.zero_add, Nat.add_zero, Nat.add_sub_cancel_left, Int.toNat_natCast, reps, List.all_cons, List.all_nil, C.flat, List.append_eq, Bool.not_true, Bool.and_true, Bool.or_false, Bool.or_self, Bool.not_false, List.append_nil, Bool.and_self, ↓rqO_rk]) <;> rfl) (hle : leS n H1 σ N σ h0 (belsK N (h0.map (Fam.rk σ N)) (argsK n args (args0.map (T.rk σ N)) True)) := by repeat' first | refine And.intro ?_ ?_ | exact xeC | fail) : CallK P F args H K := CallK.mk3 hc hap hnl h1 hN hn hH hle hk
set_option maxRecDepth 10000 in
set_option maxHeartbeats 4000000 in
theorem rviol (o r : Qos) : Ctr Tryz.prog 64 [.a (encQ o), .a (encQ r)] [] fun v h => v = .c (.i .i64 (viol o r)) ∧ h = [] := by
  refine Ctr.mk' tbv mixed Tryz.func64 rfl rfl rfl (fun _ _ => by kernel_rfl) (by kernel_rfl) (by rfl) (by rfl) (by (repeat' first | refine And.intro ?_ ?_ | exact xeC | fail)) ?_
  repeat' (first | (fail_if_success (with_reducible refine xstp ?_)); first | ((with_reducible refine And.intro (fun (hb : _ = true) => ?_) (fun (hb : _ = false) => ?_)) <;> replace hb := xnC hb <;> (try first | exact xfC | exact bff hb (by assumption) | exact bff (by assumption) hb)) | (with_reducible intro hc; (try simp only [capsP, and_true] at hc); (try exact xfC)) | ((fail_if_success (with_reducible first | refine xgon ?_ | intro _)); (conv => whnf); (fail_if_success (fail_if_success (with_reducible first | refine xstp ?_ | refine xgon ?_ | intro _)))))
  · refine FinK.mk ⟨[], _, _, ⟨rfl, rfl⟩, ?_⟩; (repeat' first | refine And.intro ?_ ?_ | exact xeC | fail)
    all_goals (unfold viol; simp_all)
  · refine FinK.mk ⟨[], _, _, ⟨rfl, rfl⟩, ?_⟩; (repeat' first | refine And.intro ?_ ?_ | exact xeC | fail)
    all_goals (unfold viol; simp_all)
  · refine cH18ziD2 (σ := []) (nl := []) (rwithin o.dead r.dead) ?_
    rintro v h' ⟨rfl, rfl⟩ hcaps
    refine rH18ziD0 ?_
    repeat' (first | (fail_if_success (with_reducible refine xstp ?_)); first | ((with_reducible refine And.intro (fun (hb : _ = true) => ?_) (fun (hb : _ = false) => ?_)) <;> replace hb := xnC hb <;> (try first | exact xfC | exact bff hb (by assumption) | exact bff (by assumption) hb)) | ((fail_if_success (with_reducible first | refine xgon ?_ | intro _)); (conv => whnf); (fail_if_success (fail_if_success (with_reducible first | refine xstp ?_ | refine xgon ?_ | intro _)))))
    · refine FinK.mk ⟨[], _, _, ⟨rfl, rfl⟩, ?_⟩; (repeat' first | refine And.intro ?_ ?_ | exact xeC | fail)
      all_goals (unfold viol; simp_all)
    · refine cH18ziD2 (σ := []) (nl := []) (rwithin o.lease r.lease) ?_
      rintro v h' ⟨rfl, rfl⟩ hcaps
      refine rH18ziD0 ?_
      repeat' (first | (fail_if_success (with_reducible refine xstp ?_)); first | ((with_reducible refine And.intro (fun (hb : _ = true) => ?_) (fun (hb : _ = false) => ?_)) <;> replace hb := xnC hb <;> (try first | exact xfC | exact bff hb (by assumption) | exact bff (by assumption) hb)) | ((fail_if_success (with_reducible first | refine xgon ?_ | intro _)); (conv => whnf); (fail_if_success (fail_if_success (with_reducible first | refine xstp ?_ | refine xgon ?_ | intro _)))))
      all_goals (
        refine FinK.mk ⟨[], _, _, ⟨rfl, rfl⟩, ?_⟩; (repeat' first | refine And.intro ?_ ?_ | exact xeC | fail)
        all_goals (unfold viol; simp_all))
  · refine cH18ziD2 (σ := []) (nl := []) (rwithin o.dead r.dead) ?_
    rintro v h' ⟨rfl, rfl⟩ hcaps
    refine rH18ziD0 ?_
    repeat' (first | (fail_if_success (with_reducible refine xstp ?_)); first | ((with_reducible refine And.intro (fun (hb : _ = true) => ?_) (fun (hb : _ = false) => ?_)) <;> replace hb := xnC hb <;> (try first | exact xfC | exact bff hb (by assumption) | exact bff (by assumption) hb)) | ((fail_if_success (with_reducible first | refine xgon ?_ | intro _)); (conv => whnf); (fail_if_success (fail_if_success (with_reducible first | refine xstp ?_ | refine xgon ?_ | intro _)))))
    · refine FinK.mk ⟨[], _, _, ⟨rfl, rfl⟩, ?_⟩; (repeat' first | refine And.intro ?_ ?_ | exact xeC | fail)
      all_goals (unfold viol; simp_all)
    · refine cH18ziD2 (σ := []) (nl := []) (rwithin o.lease r.lease) ?_
      rintro v h' ⟨rfl, rfl⟩ hcaps
      refine rH18ziD0 ?_
      repeat' (first | (fail_if_success (with_reducible refine xstp ?_)); first | ((with_reducible refine And.intro (fun (hb : _ = true) => ?_) (fun (hb : _ = false) => ?_)) <;> replace hb := xnC hb <;> (try first | exact xfC | exact bff hb (by assumption) | exact bff (by assumption) hb)) | ((fail_if_success (with_reducible first | refine xgon ?_ | intro _)); (conv => whnf); (fail_if_success (fail_if_success (with_reducible first | refine xstp ?_ | refine xgon ?_ | intro _)))))
      all_goals (
        refine FinK.mk ⟨[], _, _, ⟨rfl, rfl⟩, ?_⟩; (repeat' first | refine And.intro ?_ ?_ | exact xeC | fail)
        all_goals (unfold viol; simp_all))
  · refine FinK.mk ⟨[], _, _, ⟨rfl, rfl⟩, ?_⟩; (repeat' first | refine And.intro ?_ ?_ | exact xeC | fail)
    all_goals (unfold viol; simp_all)
  · refine cH18ziD2 (σ := []) (nl := []) (rwithin o.dead r.dead) ?_
    rintro v h' ⟨rfl, rfl⟩ hcaps
    refine rH18ziD0 ?_
    repeat' (first | (fail_if_success (with_reducible refine xstp ?_)); first | ((with_reducible refine And.intro (fun (hb : _ = true) => ?_) (fun (hb : _ = false) => ?_)) <;> replace hb := xnC hb <;> (try first | exact xfC | exact bff hb (by assumption) | exact bff (by assumption) hb)) | ((fail_if_success (with_reducible first | refine xgon ?_ | intro _)); (conv => whnf); (fail_if_success (fail_if_success (with_reducible first | refine xstp ?_ | refine xgon ?_ | intro _)))))
    · refine FinK.mk ⟨[], _, _, ⟨rfl, rfl⟩, ?_⟩; (repeat' first | refine And.intro ?_ ?_ | exact xeC | fail)
      all_goals (unfold viol; simp_all)
    · refine cH18ziD2 (σ := []) (nl := []) (rwithin o.lease r.lease) ?_
      rintro v h' ⟨rfl, rfl⟩ hcaps
      refine rH18ziD0 ?_
      repeat' (first | (fail_if_success (with_reducible refine xstp ?_)); first | ((with_reducible refine And.intro (fun (hb : _ = true) => ?_) (fun (hb : _ = false) => ?_)) <;> replace hb := xnC hb <;> (try first | exact xfC | exact bff hb (by assumption) | exact bff (by assumption) hb)) | ((fail_if_success (with_reducible first | refine xgon ?_ | intro _)); (conv => whnf); (fail_if_success (fail_if_success (with_reducible first | refine xstp ?_ | refine xgon ?_ | intro _)))))
      all_goals (
        refine FinK.mk ⟨[], _, _, ⟨rfl, rfl⟩, ?_⟩; (repeat' first | refine And.intro ?_ ?_ | exact xeC | fail)
        all_goals (unfold viol; simp_all))
  · refine cH18ziD2 (σ := []) (nl := []) (rwithin o.dead r.dead) ?_
    rintro v h' ⟨rfl, rfl⟩ hcaps
    refine rH18ziD0 ?_
    repeat' (first | (fail_if_success (with_reducible refine xstp ?_)); first | ((with_reducible refine And.intro (fun (hb : _ = true) => ?_) (fun (hb : _ = false) => ?_)) <;> replace hb := xnC hb <;> (try first | exact xfC | exact bff hb (by assumption) | exact bff (by assumption) hb)) | ((fail_if_success (with_reducible first | refine xgon ?_ | intro _)); (conv => whnf); (fail_if_success (fail_if_success (with_reducible first | refine xstp ?_ | refine xgon ?_ | intro _)))))
    · refine FinK.mk ⟨[], _, _, ⟨rfl, rfl⟩, ?_⟩; (repeat' first | refine And.intro ?_ ?_ | exact xeC | fail)
      all_goals (unfold viol; simp_all)
    · refine cH18ziD2 (σ := []) (nl := []) (rwithin o.lease r.lease) ?_
      rintro v h' ⟨rfl, rfl⟩ hcaps
      refine rH18ziD0 ?_
      repeat' (first | (fail_if_success (with_reducible refine xstp ?_)); first | ((with_reducible refine And.intro (fun (hb : _ = true) => ?_) (fun (hb : _ = false) => ?_)) <;> replace hb := xnC hb <;> (try first | exact xfC | exact bff hb (by assumption) | exact bff (by assumption) hb)) | ((fail_if_success (with_reducible first | refine xgon ?_ | intro _)); (conv => whnf); (fail_if_success (fail_if_success (with_reducible first | refine xstp ?_ | refine xgon ?_ | intro _)))))
      all_goals (
        refine FinK.mk ⟨[], _, _, ⟨rfl, rfl⟩, ?_⟩; (repeat' first | refine And.intro ?_ ?_ | exact xeC | fail)
        all_goals (unfold viol; simp_all))

theorem rH18ziD1 {σ : List Sg} {H h' : List Fam} {v : T} {K : T → List Fam → Prop} {H' : List Fam} {v' : T} {N : Nat} (hk : K v' H') (hN : H.length = N := by (try simp only [↓List.length_cons, ↓List.length_nil, Nat.reduceAdd]) <;> rfl) (h : givesF σ N H σ h' = some H' := by (try simp (maxSteps := 1000000) only [givesF, setF, updF, Fam.zeroth, Fam.rk, Ck.rk, C.rk, E.rk, T.rk, key, List.map_cons, List.map_nil, List.cons_append, List.nil_append, List.length_cons, List.length_nil, Option.map_some, Option.bind_some, Nat.reduceAdd, Nat.zero_add, Nat.add_zero, Nat.add_sub_cancel_left, Int.toNat_natCast, reps, List.all_cons, List.all_nil, C.flat, List.append_eq, Bool.not_true, Bool.and_true, Bool.or_false, Bool.or_self, Bool.not_false, List.append_nil, Bool.and_self, ↓rqO_rk, encQ]) <;> rfl) (hv : v.rk σ N = v' := by (try simp only [givesF, setF, updF, Fam.zeroth, Fam.rk, Ck.rk, C.rk, E.rk, T.rk, key, List.map_cons, List.map_nil, List.cons_append, List.nil_append, List.length_cons, List.length_nil, Option.map_some, Option.bind_some, Nat.reduceAdd, Nat.zero_add, Nat.add_zero, Nat.add_sub_cancel_left, Int.toNat_natCast, reps, List.all_cons, List.all_nil, C.flat, List.append_eq, Bool.not_true, Bool.and_true, Bool.or_false, Bool.or_self, Bool.not_false, List.append_nil, Bool.and_self, ↓rqO_rk, encQ]) <;> rfl) : RetG σ H h' v K := ret_mk3 hN h hv hk
set_option maxRecDepth 10000 in
theorem rcompat (o r : Qos) : Ctr Tryz.prog 41 [.a (encQ o), .a (encQ r)] [] fun v h => v = .c (.b (decide (viol o r = 0))) ∧ h = [] := by
  refine Ctr.mk' tbv mixed Tryz.func41 rfl rfl rfl (fun _ _ => by kernel_rfl) (by kernel_rfl) (by rfl) (by rfl) (by (repeat' first | refine And.intro ?_ ?_ | exact xeC | fail)) ?_
  repeat' (first | (fail_if_success (with_reducible refine xstp ?_)); first | (with_reducible intro hc; (try simp only [capsP, and_true] at hc); (try exact xfC)) | ((fail_if_success (with_reducible first | refine xgon ?_ | intro _)); (conv => whnf); (fail_if_success (fail_if_success (with_reducible first | refine xstp ?_ | refine xgon ?_ | intro _)))))
  refine cH18ziD2 (σ := []) (nl := []) (rviol o r) ?_
  rintro v h' ⟨rfl, rfl⟩ hcaps
  refine rH18ziD1 ?_
  repeat' (first | (fail_if_success (with_reducible refine xstp ?_)); first | ((fail_if_success (with_reducible first | refine xgon ?_ | intro _)); (conv => whnf); (fail_if_success (fail_if_success (with_reducible first | refine xstp ?_ | refine xgon ?_ | intro _)))))
  refine FinK.mk ⟨[], _, _, ⟨rfl, rfl⟩, ?_⟩; (repeat' first | refine And.intro ?_ ?_ | exact xeC | fail)

/-! ### Unmatch -/
def cntU (k i : Nat) : Nat := if i ≤ k then i else i - 1
theorem cntU_le (k i : Nat) : cntU k i ≤ i := by unfold cntU; split <;> omega
def skipU (k i : Nat) : Nat := if i < k then i else i + 1
theorem skipU_cnt {k i : Nat} (h : i ≠ k) : skipU k (cntU k i) = i := by
  unfold skipU cntU
  repeat' split
  all_goals omega
def unEr (w : Int) (R : Rw) : Int := if (R.W.get w).isSome then 0 else 6
def unRr (w : Int) (R : Rw) : Rw := if (R.W.get w).isSome then ⟨R.l, R.la, R.S.filter fun x : Nat => decide ((x : Int) ≠ w), fun y => if y = w.toNat then none else R.D y⟩ else R
theorem nd_S {R : Rw} (hR : ROk R) {i k : Nat} (hi : i < R.S.length) (hk : k < R.S.length) (e : i ≠ k) : R.S.getD i default ≠ R.S.getD k default := by
  rw [getD_at hi, getD_at hk]
  rcases Nat.lt_or_gt_of_ne e with h | h
  · have := List.pairwise_iff_getElem.1 hR.s i k hi hk h; omega
  · have := List.pairwise_iff_getElem.1 hR.s k i hk hi h; omega
theorem filt_erase : ∀ {S : List Nat} {k : Nat} {w : Nat}, S.Nodup → k < S.length → S.getD k default = w → S.filter (fun x => decide (x ≠ w)) = S.eraseIdx k
  | a :: S, 0, w, hp, _, hw => by
    have hw : a = w := hw
    subst hw
    rw [List.nodup_cons] at hp
    rw [List.eraseIdx_cons_zero, List.filter_cons_of_neg (by simp)]
    exact List.filter_eq_self.2 fun e he => decide_eq_true fun h => hp.1 (h ▸ he)
  | a :: S, k + 1, w, hp, hk, hw => by
    rw [List.nodup_cons] at hp
    have hk' : k < S.length := by simpa using hk
    have hw' : S.getD k default = w := by simpa using hw
    have hne : ¬ a = w := fun h => hp.1 (by rw [h, ← hw', getD_at hk']; exact List.getElem_mem hk')
    rw [List.eraseIdx_cons_succ, List.filter_cons_of_pos (by simpa using hne), filt_erase hp.2 hk' hw']
theorem nd_of {R : Rw} (hR : ROk R) : R.S.Nodup := hR.s.imp fun h => Nat.ne_of_lt h
theorem un_S {R : Rw} (hR : ROk R) {k : Nat} (hk : k < R.S.length) {w : Int} (hw : ((R.S.getD k default : Nat) : Int) = w) (hg : (R.W.get w).isSome = true) : (unRr w R).S = R.S.eraseIdx k := by
  unfold unRr
  rw [if_pos hg]
  show R.S.filter _ = _
  rw [← filt_erase (nd_of hR) hk rfl]
  refine List.filter_congr fun x _ => ?_
  rw [← hw]
  exact decide_eq_decide.2 (by omega)
theorem skipU_getD {S : List Nat} {k i : Nat} : (S.eraseIdx k).getD i default = S.getD (skipU k i) default := by
  unfold skipU
  rw [List.getD_eq_getElem?_getD, List.getD_eq_getElem?_getD, List.getElem?_eraseIdx]
  split <;> rfl
theorem un_len {R : Rw} (hR : ROk R) {k : Nat} (hk : k < R.S.length) {w : Int} (hw : ((R.S.getD k default : Nat) : Int) = w) (hg : (R.W.get w).isSome = true) : (unRr w R).S.length = R.S.length - 1 := by
  rw [un_S hR hk hw hg, List.length_eraseIdx_of_lt hk]
theorem un_row {F : Nat} {R : Rw} {cf : Nat → Nat} (hR : ROk R) {k : Nat} (hk : k < R.S.length) {w : Int} (hw : ((R.S.getD k default : Nat) : Int) = w) (hg : (R.W.get w).isSome = true) {i : Nat} (hi : i < (unRr w R).S.length) :
    encRd F R cf (skipU k i) = encRd F (unRr w R) cf i := by
  have hS := un_S hR hk hw hg
  rw [un_len hR hk hw hg] at hi
  have hne : R.S.getD (skipU k i) default ≠ R.S.getD k default := nd_S hR (by unfold skipU; split <;> omega) hk (by unfold skipU; split <;> omega)
  have hD : (unRr w R).D (R.S.getD (skipU k i) default) = R.D (R.S.getD (skipU k i) default) := by unfold unRr; rw [if_pos hg]; exact if_neg (by omega)
  unfold encRd
  rw [hS, skipU_getD, hD]
theorem rq_un {R : Rw} {w : Int} {cf : Nat → Nat} {N N' : Nat} {σ : List Sg} (y : Nat) : (rqO (R.D y) (cf y)).leK N ((rqO ((unRr w R).D y) (cf y)).rk σ N') True := by
  unfold unRr
  split
  · show (rqO (R.D y) (cf y)).leK N ((rqO (if y = w.toNat then none else R.D y) (cf y)).rk σ N') True
    split
    · cases R.D y <;> trivial
    · exact rqO_le
  · exact rqO_le
abbrev rU (id per : Int) (q : Qos) (R : Rw) (cM : Nat) (cf : Nat → Nat) : List Fam :=
  [.one (wrr 1 5 id per R.la q R.S.length cM), .one .no, .one .no, .one .no, .one .no, .one (rdR 6 R cM cf), rqs R.D cf]
set_option maxRecDepth 10000 in
set_option maxHeartbeats 4000000 in
theorem runW (id per : Int) (q : Qos) (R : Rw) (cM : Nat) (cf : Nat → Nat) (w : Int) (hR : ROk R) (hl : R.S.length ≤ 1000000) :
    Ctr Tryz.prog 13 [.c (.p 0 0 0), .c (.i .i64 w)] [.one (wrr 1 2 id per R.la q R.S.length cM), .one .no, .one (rdR 4 R cM cf), .one .no, rqs R.D cf]
      fun v h => ∃ c', v = .c (.i .i64 (unEr w R)) ∧ h = rU id per q (unRr w R) c' cf := by
  refine Ctr.mk' tbv mixed Tryz.func13 rfl rfl rfl (fun _ _ => by kernel_rfl) (by kernel_rfl) (by rfl) (by rfl) (by (repeat' first | refine And.intro ?_ ?_ | exact xeC | fail) <;> exact xmI) ?_
  repeat' (first | (fail_if_success (with_reducible refine xstp ?_)); first | (with_reducible intro hc; (try simp only [capsP, and_true] at hc); (try exact xfC)) | ((fail_if_success (with_reducible first | refine xgon ?_ | intro _)); (conv => whnf); (fail_if_success (fail_if_success (with_reducible first | refine xstp ?_ | refine xgon ?_ | intro _)))))
  refine cH18ziD2 (σ := [.whole 0, .name 1, .whole 2, .name 3, .name 4]) (nl := []) (rplace id per R.la q R cM cf w hR hl) ?_ (hle := by (repeat' first | refine And.intro ?_ ?_ | exact xeC | fail) <;> exact xmI)
  rcases fnd_s hR w with ⟨h1, hn⟩ | ⟨k, m, h1, hk, hw, hD, hm, hw1⟩
  · rw [h1, show idxO none = (-1 : Int) from rfl]
    rintro v h' ⟨rfl, rfl⟩ hcaps
    refine rH18ziD0 ?_
    rw [rd_fun (G := 4) (fun x => rfl)]
    repeat' (first | (fail_if_success (with_reducible refine xstp ?_)); first | ((with_reducible refine And.intro (fun (hb : _ = true) => ?_) (fun (hb : _ = false) => ?_)) <;> replace hb := xnC hb <;> (try first | exact xfC | exact bff hb (by assumption) | exact bff (by assumption) hb)) | ((fail_if_success (with_reducible first | refine xgon ?_ | intro _)); (conv => whnf); (fail_if_success (fail_if_success (with_reducible first | refine xstp ?_ | refine xgon ?_ | intro _)))))
    have e2 : unEr w R = 6 := by unfold unEr; rw [hn]; rfl
    have e3 : unRr w R = R := by unfold unRr; rw [hn]; rfl
    rw [e2, e3]
    refine FinK.mk ⟨[0, 1, 2, 3, 4, 2, 4], _, _, ⟨cM, rfl, rfl⟩, ?_⟩
    (repeat' first | refine And.intro ?_ ?_ | exact xeC | fail)
    all_goals exact xmI
  have hg : (R.W.get w).isSome = true := by rw [hm]; rfl
  rw [h1, show idxO (some k) = (k : Nat) from rfl]
  rintro v h' ⟨rfl, rfl⟩ hcaps
  refine rH18ziD0 ?_
  rw [rd_fun (G := 4) (fun x => rfl)]
  repeat' (first | (fail_if_success (with_reducible refine xstp ?_)); first | ((with_reducible refine And.intro (fun (hb : _ = true) => ?_) (fun (hb : _ = false) => ?_)) <;> replace hb := xnC hb <;> (try first | exact xfC | exact bff hb (by assumption) | exact bff (by assumption) hb)) | ((fail_if_success (with_reducible first | refine xgon ?_ | intro _)); (conv => whnf); (fail_if_success (fail_if_success (with_reducible first | refine xstp ?_ | refine xgon ?_ | intro _)))))
  refine LoopK.mk' ({i : Nat // i ≤ R.S.length} × Nat)
    (fun ⟨⟨i, _⟩, cc⟩ => ⟨[(0, .c (.p 0 0 0)), (5, .c (.i .i64 (k : Nat))), (6, .c (.sl 5 0 9 0 (cntU k i) cc)), (7, .c (.i .i64 (i : Nat)))], [.one (wrr 1 2 id per R.la q R.S.length cM), .one .no, .one (rdR 4 R cM cf), .one .no, rqs R.D cf, .one (.row true true 80 9 (cntU k i) cc fun i => encRd 4 R cf (skipU k i))]⟩)
    (fun j => R.S.length - j.1.1)
    ⟨⟨⟨0, Nat.zero_le _⟩, 0⟩, [0, 1, 2, 3, 4, 99], ?_⟩ ?_
  · (repeat' first | refine And.intro ?_ ?_ | exact xeC | fail)
    all_goals exact xmI
  rintro ⟨⟨i, hi⟩, cc⟩
  have e3 : 0 + ((i : Nat) : Int).toNat = i := by omega
  have hN := cntU_le k i
  repeat' (first | (fail_if_success (with_reducible refine xstp ?_)); first | ((with_reducible refine And.intro (fun (hb : _ = true) => ?_) (fun (hb : _ = false) => ?_)) <;> replace hb := xnC hb <;> (try first | exact xfC | exact bff hb (by assumption) | exact bff (by assumption) hb)) | ((with_reducible refine And.intro ?_ ?_); focus exact xoC) | (with_reducible intro hc; (try simp only [capsP, and_true] at hc); (try exact xfC)) | ((fail_if_success (with_reducible first | refine xgon ?_ | intro _)); (conv => whnf); (fail_if_success (fail_if_success (with_reducible first | refine xstp ?_ | refine xgon ?_ | intro _)))))
  · obtain ⟨h2, m2, hm2⟩ := hR.a i (by omega)
    have he : encRd 4 R cf i = _ := rd_at hm2
    unfold encPr at he
    rw [e3, he]
    repeat' (first | (fail_if_success (with_reducible refine xstp ?_)); first | ((with_reducible refine And.intro ?_ ?_); focus exact xoC) | ((with_reducible refine Or.inl ⟨?_, ?_, ?_⟩); (focus rfl); focus exact xaC) | (with_reducible intro hc; (try simp only [capsP, and_true] at hc); (try exact xfC)) | ((fail_if_success (with_reducible first | refine xgon ?_ | intro _)); (conv => whnf); (fail_if_success (fail_if_success (with_reducible first | refine xstp ?_ | refine xgon ?_ | intro _)))))
    rename_i c3
    have hne : i ≠ k := by omega
    have e5 : cntU k (i + 1) = cntU k i + 1 := by unfold cntU; repeat' split
                                                  all_goals omega
    refine ⟨⟨⟨i + 1, by omega⟩, c3⟩, [0, 1, 2, 3, 4, 7], by simp only; omega, ?_⟩
    simp only [e5]
    (repeat' first | refine And.intro ?_ ?_ | exact xeC | fail)
    all_goals first | exact xmI | rfl | skip
    intro a ha
    dsimp only
    rw [rd_key (G := 4) (fun x => rfl)]
    unfold appF
    by_cases hlt : a < cntU k i
    · rw [if_pos hlt]
    · rw [if_neg hlt]
      obtain rfl : a = cntU k i := by omega
      rw [skipU_cnt hne, he, Nat.sub_self]
      rfl
  · have hne : i = k := by omega
    have e5 : cntU k (i + 1) = cntU k i := by unfold cntU; repeat' split
                                              all_goals omega
    refine ⟨⟨⟨i + 1, by omega⟩, cc⟩, [0, 1, 2, 3, 4, 5], by simp only; omega, ?_⟩
    simp only [e5]
    (repeat' first | refine And.intro ?_ ?_ | exact xeC | fail)
    all_goals first | exact xmI | (intro i hi; exact (rd_key (fun x => rfl) _ _ _).symm) | skip
    all_goals trace_state
  · have hii : i = R.S.length := by omega
    have e2 : unEr w R = 0 := by unfold unEr; rw [if_pos hg]
    have e4 := un_len hR hk hw hg
    have e5 : cntU k i = (unRr w R).S.length := by rw [e4]; unfold cntU; split <;> omega
    have e6 : (unRr w R).la = R.la := by unfold unRr; split <;> rfl
    rw [e2]
    refine FinK.mk ⟨[0, 1, 2, 3, 4, 5, 4], _, _, ⟨cc, rfl, rfl⟩, ?_⟩
    unfold rU
    rw [e6]
    (repeat' first | refine And.intro ?_ ?_ | exact xeC | fail)
    all_goals first | exact xmI | exact e5 | exact Nat.le_of_eq e5.symm | (intro i hi; dsimp only; rw [rd_key (fun x => rfl)]; exact un_row hR hk hw hg hi) | exact fun y => rq_un y | skip
    all_goals trace_state
end Go.Proofs.YtofcadbfjbefkaaGreat


namespace Go.Proofs.YtofcadbfjbefkaaGreat
open Go.X
set_option linter.unusedSimpArgs false
set_option linter.unusedVariables false
def newC (x : Nat) (p : Pr) : List C := [.i .i64 x, .i .i64 p.nd, .b p.rel, .i .i64 p.st, .i .i64 p.ac, .i .i64 p.se, .nils, .b p.bg, .i .i64 p.bt]
/-- Where a new reader goes. -/
def posS (R : Rw) (r : Int) : Nat := R.S.findIdx fun x : Nat => decide (r < (x : Int))
theorem pos_lt {R : Rw} {r : Int} {j : Nat} (hj : j < posS R r) (h2 : j < R.S.length) : ((R.S.getD j default : Nat) : Int) ≤ r := by
  have := List.not_of_lt_findIdx hj
  rw [getD_at h2]
  simp at this
  omega
theorem pos_at {R : Rw} {r : Int} (h : posS R r < R.S.length) : r < ((R.S.getD (posS R r) default : Nat) : Int) := by
  have := List.findIdx_getElem (w := h)
  rw [getD_at h]
  exact of_decide_eq_true this
theorem pos_le (R : Rw) (r : Int) : posS R r ≤ R.S.length := List.findIdx_le_length
def insR (R : Rw) (r : Int) (p : Pr) : Rw := ⟨R.l, R.la, R.S.insertIdx (posS R r) r.toNat, fun y => if y = r.toNat then some p else R.D y⟩
def maRr (q : Qos) (r nd at' : Int) (q2 : Qos) (R : Rw) : Rw := if maE q r nd at' q2 R.W = 0 then insR R r (newP q q2 R.W nd at') else R
def outE (F : Nat) (R : Rw) (cf : Nat → Nat) (K : Nat) (nc : List C) (j : Nat) : List C := if j < K then encRd F R cf j else if j = K then nc else encRd F R cf (j - 1)
def nO (K i : Nat) : Nat := if K < i then i + 1 else i
theorem out_key {σ : List Sg} {N F G : Nat} (h : ∀ x, key σ N F x = (G, x)) (R : Rw) (cf : Nat → Nat) (K x : Nat) (p : Pr) (j : Nat) : List.map (C.rk σ N) (outE F R cf K (newC x p) j) = outE G R cf K (newC x p) j := by
  unfold outE
  split
  · exact rd_key h _ _ _
  · split
    · rfl
    · exact rd_key h _ _ _
theorem out_bel {n F : Nat} (h : Nat.blt F n = true) (R : Rw) (cf : Nat → Nat) (K x : Nat) (p : Pr) (j : Nat) : (outE F R cf K (newC x p) j).all (C.belB n) = true := by
  unfold outE
  split
  · exact rd_bel h _ _ _
  · split
    · rfl
    · exact rd_bel h _ _ _
theorem app_one {n : Nat} {f cs : Nat → List C} (h : cs 0 = f n) {j : Nat} (hj : j < n + 1) : appF n f 0 cs j = f j := by
  unfold appF
  by_cases hlt : j < n
  · rw [if_pos hlt]
  · obtain rfl : j = n := by omega
    rw [if_neg hlt, Nat.sub_self]
    exact h
theorem app_two {n : Nat} {f cs cs' : Nat → List C} (h : cs 0 = f n) (h' : cs' 0 = f (n + 1)) {j : Nat} (hj : j < n + 2) : appF (n + 1) (appF n f 0 cs) 0 cs' j = f j := by
  by_cases hlt : j < n + 1
  · have e : appF (n + 1) (appF n f 0 cs) 0 cs' j = appF n f 0 cs j := if_pos hlt
    rw [e]; exact app_one h hlt
  · obtain rfl : j = n + 1 := by omega
    have e : appF (n + 1) (appF n f 0 cs) 0 cs' (n + 1) = cs' (0 + (n + 1 - (n + 1))) := if_neg hlt
    rw [e, Nat.sub_self]; exact h'
theorem out_lt {F : Nat} {R : Rw} {cf : Nat → Nat} {K i : Nat} {nc : List C} (h : i < K) : outE F R cf K nc i = encRd F R cf i := if_pos h
theorem out_gt {F : Nat} {R : Rw} {cf : Nat → Nat} {K i : Nat} {nc : List C} (h : K ≤ i) : outE F R cf K nc (i + 1) = encRd F R cf i := by
  unfold outE
  rw [if_neg (by omega), if_neg (by omega), Nat.add_sub_cancel]
theorem out_eq {F : Nat} {R : Rw} {cf : Nat → Nat} {K : Nat} {nc : List C} : outE F R cf K nc K = nc := by
  unfold outE
  rw [if_neg (by omega), if_pos rfl]
theorem ins_len {R : Rw} {r : Int} {p : Pr} : (insR R r p).S.length = R.S.length + 1 := List.length_insertIdx_of_le_length (pos_le R r) _
theorem ins_at {R : Rw} {r : Int} {p : Pr} (j : Nat) (hj : j < R.S.length + 1) : (insR R r p).S.getD j default = if j < posS R r then R.S.getD j default else if j = posS R r then r.toNat else R.S.getD (j - 1) default := by
  show (R.S.insertIdx (posS R r) r.toNat).getD j default = _
  have hp := pos_le R r
  rw [List.getD_eq_getElem?_getD, List.getElem?_insertIdx]
  split
  · rw [List.getD_eq_getElem?_getD]
  · split
    · rw [if_pos (by omega)]; rfl
    · rw [List.getD_eq_getElem?_getD]
/-- The row behind the insertion. -/
theorem ins_row {R : Rw} {cf : Nat → Nat} {r : Int} {p : Pr} {σ : List Sg} {N N' F G : Nat} (hR : ROk R) (hw : 1 ≤ r) (hno : ∀ i, i < R.S.length → ((R.S.getD i default : Nat) : Int) ≠ r) (hrq : p.rq = [])
    (hk : ∀ x, key σ N G x = (if x = r.toNat then 99 else F, if x = r.toNat then 0 else x)) (hN : N' ≤ 99) (j : Nat) (hj : j < R.S.length + 1) :
    outE F R cf (posS R r) (newC r.toNat p) j = List.map (C.rk σ N) (encRd G (insR R r p) (updC cf r 0) j) ∨ eqL N' (outE F R cf (posS R r) (newC r.toNat p) j) (List.map (C.rk σ N) (encRd G (insR R r p) (updC cf r 0) j)) True := by
  have hp := pos_le R r
  have hold : ∀ i, i < R.S.length → (insR R r p).S.getD j default = R.S.getD i default → encRd F R cf i = List.map (C.rk σ N) (encRd G (insR R r p) (updC cf r 0) j) := fun i hi e => by
    have hne : R.S.getD i default ≠ r.toNat := fun h => hno i hi (by omega)
    obtain ⟨_, m, hm⟩ := hR.a i hi
    have hD : (insR R r p).D (R.S.getD i default) = R.D (R.S.getD i default) := if_neg hne
    have hc : updC cf r 0 (R.S.getD i default) = cf (R.S.getD i default) := if_neg hne
    rw [rd_rk, rd_at hm, e, hD, hm]
    simp only [hk, if_neg hne, hc]
    rfl
  rw [show outE F R cf (posS R r) (newC r.toNat p) j = if j < posS R r then encRd F R cf j else if j = posS R r then newC r.toNat p else encRd F R cf (j - 1) from rfl]
  have ha := ins_at (p := p) (R := R) (r := r) j hj
  by_cases h1 : j < posS R r
  · rw [if_pos h1] at ha ⊢
    exact .inl (hold j (by omega) ha)
  · rw [if_neg h1] at ha ⊢
    by_cases h2 : j = posS R r
    · rw [if_pos h2] at ha ⊢
      right
      have hD : (insR R r p).D r.toNat = some p := if_pos rfl
      have hc : updC cf r 0 r.toNat = 0 := if_pos rfl
      have hle : Nat.ble N' 99 = true := Nat.ble_eq_true_of_le hN
      rw [rd_rk, ha, hD, hk]
      simp only [hc, if_true, hrq]
      simp [newC, eqL, C.eqK, sameK, ifB, kNat, hle]
    · rw [if_neg h2] at ha ⊢
      exact .inl (hold (j - 1) (by omega) ha)
theorem rq_ins {R : Rw} {r : Int} {p : Pr} {cf : Nat → Nat} {N N' : Nat} {σ : List Sg} (y : Nat) (h : y ≠ r.toNat) : (rqO (R.D y) (cf y)).leK N ((rqO ((insR R r p).D y) (updC cf r 0 y)).rk σ N') True := by
  have e1 : (insR R r p).D y = R.D y := if_neg h
  have e2 : updC cf r 0 y = cf y := if_neg h
  rw [e1, e2]
  exact rqO_le
abbrev rM (id per : Int) (q : Qos) (R : Rw) (cM c : Nat) (cf : Nat → Nat) : List Fam :=
  [.one (wrr 1 5 id per R.la q R.S.length cM), .one (hist 3 q R.l.length c), .one .no, .one (smps true R.l c), .one .no, .one (rdR 6 R cM cf), rqs R.D cf]
theorem rtime18 (n : Int) : Ctr Tryz.prog 39 [.c (.i .i64 n)] [] fun v h => v = .c (.b (decide (0 ≤ n ∧ n ≤ 1099511627776))) ∧ h = [] := by
  refine Ctr.mk' tbv mixed Tryz.func39 rfl rfl rfl (fun _ _ => by kernel_rfl) (by kernel_rfl) (by rfl) (by rfl) (by (repeat' first | refine And.intro ?_ ?_ | exact xeC | fail)) ?_
  repeat' (first | (fail_if_success (with_reducible refine xstp ?_)); first | ((with_reducible refine And.intro (fun (hb : _ = true) => ?_) (fun (hb : _ = false) => ?_)) <;> replace hb := xnC hb <;> (try first | exact xfC | exact bff hb (by assumption) | exact bff (by assumption) hb)) | (with_reducible intro hc; (try simp only [capsP, and_true] at hc); (try exact xfC)) | ((fail_if_success (with_reducible first | refine xgon ?_ | intro _)); (conv => whnf); (fail_if_success (fail_if_success (with_reducible first | refine xstp ?_ | refine xgon ?_ | intro _)))))
  all_goals (
    refine FinK.mk ⟨[], _, _, ⟨rfl, rfl⟩, ?_⟩; (repeat' first | refine And.intro ?_ ?_ | exact xeC | fail)
    all_goals first | (exact decide_eq_false (by omega)) | (exact decide_eq_true (by omega)) | (exact (decide_eq_false (by omega)).symm) | (exact decide_eq_decide.2 (by omega)) | (exact (decide_eq_true (by omega)).symm) | skip)
  all_goals trace_state
theorem sta_x {q q2 : Qos} {R : Rw} {k : Nat} (h1 : 0 < k → q.dur = true ∧ q2.dur = true) (h2 : R.l.length ≤ k ∨ ¬ (q.dur = true ∧ q2.dur = true)) : (R.l.take k).foldl (fun a s => min a s.q) (R.la + 1) = staF q q2 R.W := by
  unfold staF
  by_cases h : q.dur = true ∧ q2.dur = true
  · rw [if_pos h]
    rcases h2 with h2 | h2
    · rw [List.take_of_length_le h2]; rfl
    · exact absurd h h2
  · rw [if_neg h]
    have : k = 0 := by
      rcases Nat.eq_zero_or_pos k with hk | hk
      · exact hk
      · exact absurd (h1 hk) h
    rw [this, List.take_zero]; rfl
theorem rH18ziE0 {σ : List Sg} {H h' : List Fam} {v : T} {K : T → List Fam → Prop} {H' : List Fam} {v' : T} {N : Nat} (hk : K v' H') (hN : H.length = N := by (try simp only [↓List.length_cons, ↓List.length_nil, Nat.reduceAdd]) <;> rfl) (h : givesF σ N H σ h' = some H' := by (try simp (maxSteps := 1000000) only [givesF, setF, updF, Fam.zeroth, Fam.rk, Ck.rk, C.rk, E.rk, T.rk, key, List.map_cons, List.map_nil, List.cons_append, List.nil_append, List.length_cons, List.length_nil, Option.map_some, Option.bind_some, Nat.reduceAdd, Nat.zero_add, Nat.add_zero, Nat.add_sub_cancel_left, Int.toNat_natCast, reps, List.all_cons, List.all_nil, C.flat, List.append_eq, Bool.not_true, Bool.and_true, Bool.or_false, Bool.or_self, Bool.not_false, List.append_nil, Bool.and_self, ↓rqO_rk, encQ]) <;> rfl) (hv : v.rk σ N = v' := by (try simp only [givesF, setF, updF, Fam.zeroth, Fam.rk, Ck.rk, C.rk, E.rk, T.rk, key, List.map_cons, List.map_nil, List.cons_append, List.nil_append, List.length_cons, List.length_nil, Option.map_some, Option.bind_some, Nat.reduceAdd, Nat.zero_add, Nat.add_zero, Nat.add_sub_cancel_left, Int.toNat_natCast, reps, List.all_cons, List.all_nil, C.flat, List.append_eq, Bool.not_true, Bool.and_true, Bool.or_false, Bool.or_self, Bool.not_false, List.append_nil, Bool.and_self, ↓rqO_rk, encQ]) <;> rfl) : RetG σ H h' v K := ret_mk3 hN h hv hk
theorem cH18ziE1 {P : Program} {F : Nat} {args : List T} {H : List Fam} {K : T → List Fam → Prop} {σ : List Sg} {nl : List Fam} {args0 : List T} {h0 : List Fam} {Q : T → List Fam → Prop} {H2 H1 : List Fam} {N n : Nat} (hc : Ctr P F args0 h0 Q) (hk : ∀ v h', Q v h' → capsP h' → RetG σ H2 h' v K) (hap : apart σ = true := by rfl) (hnl : nl.all nilB = true := by rfl) (h1 : H ++ nl = H1 := by first | exact List.append_nil _ | ((try simp only [List.cons_append, List.nil_append]) <;> rfl)) (hN : H1.length = N := by (try simp only [↓List.length_cons, ↓List.length_nil, Nat.reduceAdd]) <;> rfl) (hn : H.length = n := by (try simp only [↓List.length_cons, ↓List.length_nil, Nat.reduceAdd]) <;> rfl) (hH : givesF σ N H1 σ h0 = some H2 := by (try simp (maxSteps := 1000000) only [givesF, setF, updF, Fam.zeroth, Fam.rk, Ck.rk, C.rk, E.rk, T.rk, key, List.map_cons, List.map_nil, List.cons_append, List.nil_append, List.length_cons, List.length_nil, Option.map_some, Option.bind_some, Nat.reduceAdd, Nat.zero_add, Nat.add_zero, Nat.add_sub_cancel_left, Int.toNat_natCast, reps, List.all_cons, List.all_nil, C.flat, List.append_eq, Bool.not_true, Bool.and_true, Bool.or_false, Bool.or_self, Bool.not_false, List.append_nil, Bool.and_self, ↓rqO_rk]) <;> rfl) (hle : leS n H1 σ N σ h0 (belsK N (h0.map (Fam.rk σ N)) (argsK n args (args0.map (T.rk σ N)) True)) := by repeat' first | refine And.intro ?_ ?_ | exact xeC | fail) : CallK P F args H K := CallK.mk3 hc hap hnl h1 hN hn hH hle hk
set_option maxRecDepth 10000 in
set_option maxHeartbeats 16000000 in
theorem rmatchW (id per : Int) (q : Qos) (R : Rw) (cM c : Nat) (cf : Nat → Nat) (r nd at' : Int) (q2 : Qos) (hR : ROk R) (hS : R.S.length ≤ 1000000) (hl : R.l.length ≤ 1000000) (hla : 0 ≤ R.la ∧ R.la ≤ 1000000) (hpos : ∀ s ∈ R.l, 1 ≤ s.q) :
    Ctr Tryz.prog 11 [.c (.p 0 0 0), .c (.i .i64 r), .c (.i .i64 nd), .c (.i .i64 at'), .a (encQ q2)] (rB id per q R cM c cf)
      fun v h => ∃ cM' cf', v = .c (.i .i64 (maE q r nd at' q2 R.W)) ∧ h = rM id per q (maRr q r nd at' q2 R) cM' c cf' := by
  refine Ctr.mk' tbv mixed Tryz.func11 rfl rfl rfl (fun _ _ => by kernel_rfl) (by kernel_rfl) (by rfl) (by rfl) (by (repeat' first | refine And.intro ?_ ?_ | exact xeC | fail) <;> exact xmI) ?_
  repeat' (first | (fail_if_success (with_reducible refine xstp ?_)); first | ((with_reducible refine And.intro (fun (hb : _ = true) => ?_) (fun (hb : _ = false) => ?_)) <;> replace hb := xnC hb <;> (try first | exact xfC | exact bff hb (by assumption) | exact bff (by assumption) hb)) | (with_reducible intro hc; (try simp only [capsP, and_true] at hc); (try exact xfC)) | ((fail_if_success (with_reducible first | refine xgon ?_ | intro _)); (conv => whnf); (fail_if_success (fail_if_success (with_reducible first | refine xstp ?_ | refine xgon ?_ | intro _)))))
  all_goals try (
    have e1 : maE q r nd at' q2 R.W = 4 := by
      unfold maE
      rw [if_pos (by omega)]
    have e2 : maRr q r nd at' q2 R = R := by unfold maRr; rw [e1]; rfl
    rw [e1, e2]
    refine FinK.mk ⟨[0, 1, 2, 3, 4, 2, 4], _, _, ⟨cM, cf, rfl, rfl⟩, ?_⟩
    (repeat' first | refine And.intro ?_ ?_ | exact xeC | fail)
    all_goals exact xmI
    done)
  refine cH18ziE1 (σ := []) (nl := []) (rtime18 at') ?_
  rintro v h' ⟨rfl, rfl⟩ hcaps
  refine rH18ziE0 ?_
  repeat' (first | (fail_if_success (with_reducible refine xstp ?_)); first | ((with_reducible refine And.intro (fun (hb : _ = true) => ?_) (fun (hb : _ = false) => ?_)) <;> replace hb := xnC hb <;> (try first | exact xfC | exact bff hb (by assumption) | exact bff (by assumption) hb)) | ((fail_if_success (with_reducible first | refine xgon ?_ | intro _)); (conv => whnf); (fail_if_success (fail_if_success (with_reducible first | refine xstp ?_ | refine xgon ?_ | intro _)))))
  · have e1 : maE q r nd at' q2 R.W = 4 := by
      unfold maE
      rw [if_pos (by omega)]
    have e2 : maRr q r nd at' q2 R = R := by unfold maRr; rw [e1]; rfl
    rw [e1, e2]
    refine FinK.mk ⟨[0, 1, 2, 3, 4, 2, 4], _, _, ⟨cM, cf, rfl, rfl⟩, ?_⟩
    (repeat' first | refine And.intro ?_ ?_ | exact xeC | fail)
    all_goals exact xmI
  have hA : ¬ (r < 1 ∨ 1073741824 < r ∨ nd < 0 ∨ 8 ≤ nd ∨ at' < 0 ∨ 1099511627776 < at') := by omega
  have hw : 1 ≤ r := by omega
  refine cH18ziE1 (σ := []) (nl := []) (rcheck q2) ?_
  rintro v h' ⟨rfl, rfl⟩ hcaps
  refine rH18ziE0 ?_
  repeat' (first | (fail_if_success (with_reducible refine xstp ?_)); first | ((with_reducible refine And.intro (fun (hb : _ = true) => ?_) (fun (hb : _ = false) => ?_)) <;> replace hb := xnC hb <;> (try first | exact xfC | exact bff hb (by assumption) | exact bff (by assumption) hb)) | ((fail_if_success (with_reducible first | refine xgon ?_ | intro _)); (conv => whnf); (fail_if_success (fail_if_success (with_reducible first | refine xstp ?_ | refine xgon ?_ | intro _)))))
  · have hq : ¬ okQ q2 := fun h => hb (if_pos h)
    have e0 : checkI q2 = 4 := if_neg hq
    rw [e0]
    have e1 : maE q r nd at' q2 R.W = 4 := by
      unfold maE
      rw [if_neg hA, if_pos hq]
    have e2 : maRr q r nd at' q2 R = R := by unfold maRr; rw [e1]; rfl
    rw [e1, e2]
    refine FinK.mk ⟨[0, 1, 2, 3, 4, 2, 4], _, _, ⟨cM, cf, rfl, rfl⟩, ?_⟩
    (repeat' first | refine And.intro ?_ ?_ | exact xeC | fail)
    all_goals exact xmI
  have hq : okQ q2 := by
    by_cases h : okQ q2
    · exact h
    · exfalso
      rw [show checkI q2 = 4 from if_neg h] at hb
      omega
  refine cH18ziE1 (σ := []) (nl := []) (rcompat q q2) ?_
  rintro v h' ⟨rfl, rfl⟩ hcaps
  refine rH18ziE0 ?_
  repeat' (first | (fail_if_success (with_reducible refine xstp ?_)); first | ((with_reducible refine And.intro (fun (hb : _ = true) => ?_) (fun (hb : _ = false) => ?_)) <;> replace hb := xnC hb <;> (try first | exact xfC | exact bff hb (by assumption) | exact bff (by assumption) hb)) | ((fail_if_success (with_reducible first | refine xgon ?_ | intro _)); (conv => whnf); (fail_if_success (fail_if_success (with_reducible first | refine xstp ?_ | refine xgon ?_ | intro _)))))
  · have hv : ¬ viol q q2 = 0 := by assumption
    have e1 : maE q r nd at' q2 R.W = 14 := by
      unfold maE
      rw [if_neg hA, if_neg (by simpa using hq), if_pos hv]
    have e2 : maRr q r nd at' q2 R = R := by unfold maRr; rw [e1]; rfl
    rw [e1, e2]
    refine FinK.mk ⟨[0, 1, 2, 3, 4, 2, 4], _, _, ⟨cM, cf, rfl, rfl⟩, ?_⟩
    (repeat' first | refine And.intro ?_ ?_ | exact xeC | fail)
    all_goals exact xmI
  have hv : viol q q2 = 0 := by assumption
  refine cH18ziE1 (σ := [.whole 0, .name 1, .whole 2, .name 3, .name 4]) (nl := []) (rplace id per R.la q R cM cf r hR hS) ?_ (hle := by (repeat' first | refine And.intro ?_ ?_ | exact xeC | fail) <;> exact xmI)
  rcases fnd_s hR r with ⟨h1, hn⟩ | ⟨k, m, h1, hk, hw', hD, hm, hw1⟩
  rotate_left 1
  · rw [h1, show idxO (some k) = (k : Nat) from rfl]
    rintro v h' ⟨rfl, rfl⟩ hcaps
    refine rH18ziE0 ?_
    rw [rd_fun (G := 4) (fun x => rfl)]
    repeat' (first | (fail_if_success (with_reducible refine xstp ?_)); first | ((with_reducible refine And.intro (fun (hb : _ = true) => ?_) (fun (hb : _ = false) => ?_)) <;> replace hb := xnC hb <;> (try first | exact xfC | exact bff hb (by assumption) | exact bff (by assumption) hb)) | ((fail_if_success (with_reducible first | refine xgon ?_ | intro _)); (conv => whnf); (fail_if_success (fail_if_success (with_reducible first | refine xstp ?_ | refine xgon ?_ | intro _)))))
    have e1 : maE q r nd at' q2 R.W = 7 := by
      unfold maE
      rw [if_neg hA, if_neg (by simpa using hq), if_neg (by simpa using hv), hm]
      rfl
    have e2 : maRr q r nd at' q2 R = R := by unfold maRr; rw [e1]; rfl
    rw [e1, e2]
    refine FinK.mk ⟨[0, 1, 2, 3, 4, 2, 4], _, _, ⟨cM, cf, rfl, rfl⟩, ?_⟩
    (repeat' first | refine And.intro ?_ ?_ | exact xeC | fail)
    all_goals exact xmI
  rw [h1, show idxO none = (-1 : Int) from rfl]
  rintro v h' ⟨rfl, rfl⟩ hcaps
  refine rH18ziE0 ?_
  rw [rd_fun (G := 4) (fun x => rfl)]
  repeat' (first | (fail_if_success (with_reducible refine xstp ?_)); first | ((with_reducible refine And.intro (fun (hb : _ = true) => ?_) (fun (hb : _ = false) => ?_)) <;> replace hb := xnC hb <;> (try first | exact xfC | exact bff hb (by assumption) | exact bff (by assumption) hb)) | ((with_reducible refine And.intro ?_ ?_); focus exact xoC) | ((fail_if_success (with_reducible first | refine xgon ?_ | intro _)); (conv => whnf); (fail_if_success (fail_if_success (with_reducible first | refine xstp ?_ | refine xgon ?_ | intro _)))))
  · have e1 : maE q r nd at' q2 R.W = 15 := by
      unfold maE
      rw [if_neg hA, if_neg (by simpa using hq), if_neg (by simpa using hv), hn]
      show (if 32 ≤ R.W.M.length then (15 : Int) else 0) = 15
      exact if_pos (by rw [rw_len]; omega)
    have e2 : maRr q r nd at' q2 R = R := by unfold maRr; rw [e1]; rfl
    rw [e1, e2]
    refine FinK.mk ⟨[0, 1, 2, 3, 4, 2, 4], _, _, ⟨cM, cf, rfl, rfl⟩, ?_⟩
    (repeat' first | refine And.intro ?_ ?_ | exact xeC | fail)
    all_goals exact xmI
  have e1 : maE q r nd at' q2 R.W = 0 := by
    unfold maE
    rw [if_neg hA, if_neg (by simpa using hq), if_neg (by simpa using hv), hn]
    show (if 32 ≤ R.W.M.length then (15 : Int) else 0) = 0
    exact if_neg (by rw [rw_len]; omega)
  have e2 : maRr q r nd at' q2 R = insR R r (newP q q2 R.W nd at') := if_pos e1
  have hno : ∀ i, i < R.S.length → ((R.S.getD i default : Nat) : Int) ≠ r := fun i hi e => by
    rcases fnd_s hR r with ⟨g1, _⟩ | ⟨k, m, g1, _⟩
    · unfold fndS at g1
      rw [List.findIdx?_eq_none_iff] at g1
      have := g1 (R.S.getD i default) (by rw [getD_at hi]; exact List.getElem_mem _)
      simp at this
      exact this e
    · rw [h1] at g1; cases g1
  rw [e1, e2]
  clear e1 e2
  have hsl := sta_le (la := R.la) hpos hla
  refine cH18ziE1 (σ := [.whole 1, .whole 3]) (nl := []) (rlist q R.l c hl) ?_
  rintro v h' ⟨c', rfl, rfl⟩ hcaps
  refine rH18ziE0 ?_
  repeat' (first | (fail_if_success (with_reducible refine xstp ?_)); first | ((fail_if_success (with_reducible first | refine xgon ?_ | intro _)); (conv => whnf); (fail_if_success (fail_if_success (with_reducible first | refine xstp ?_ | refine xgon ?_ | intro _)))))
  refine LoopK.mk' {k : Nat // k ≤ R.l.length ∧ (0 < k → q.dur = true ∧ q2.dur = true)}
    (fun ⟨k, _⟩ => ⟨[(0, .c (.p 0 0 0)), (1, .c (.i .i64 r)), (2, .c (.i .i64 nd)), (3, .c (.i .i64 at')), (9, .c (.p 5 0 0)), (12, .c (.i .i64 ((R.l.take k).foldl (fun a s => min a s.q) (R.la + 1)))), (13, .c (.sl 6 0 4 0 R.l.length c')), (14, .c (.i .i64 k))],
      [.one (wrr 1 2 id per R.la q R.S.length cM), .one (hist 3 q R.l.length c), .one (rdR 4 R cM cf), .one (smps true R.l c), rqs R.D cf, .one (.cells true (encQ q2)), .one (smps true R.l c')]⟩)
    (fun k => R.l.length - k.1)
    ⟨⟨0, Nat.zero_le _, fun h => absurd h (Nat.lt_irrefl 0)⟩, [0, 1, 2, 3, 4, 5, 6], ?_⟩ ?_
  · (repeat' first | refine And.intro ?_ ?_ | exact xeC | fail)
    all_goals exact xmI
  rintro ⟨k, hk, hk2⟩
  have hsk := hsl k
  repeat' (first | (fail_if_success (with_reducible refine xstp ?_)); first | ((with_reducible refine And.intro (fun (hb : _ = true) => ?_) (fun (hb : _ = false) => ?_)) <;> replace hb := xnC hb <;> (try first | exact xfC | exact bff hb (by assumption) | exact bff (by assumption) hb)) | ((with_reducible refine And.intro ?_ ?_); focus exact xoC) | (with_reducible intro hc; (try simp only [capsP, and_true] at hc); (try exact xfC)) | ((fail_if_success (with_reducible first | refine xgon ?_ | intro _)); (conv => whnf); (fail_if_success (fail_if_success (with_reducible first | refine xstp ?_ | refine xgon ?_ | intro _)))))
  · have e1 : (R.l.take (k + 1)).foldl (fun a s => min a s.q) (R.la + 1) = (R.l.getD k default).q := by
      rw [← List.take_append_getElem (show k < R.l.length by omega), List.foldl_append, getD_at (show k < R.l.length by omega)]
      rw [getD_at (show k < R.l.length by omega)] at hb
      show min _ _ = _
      omega
    refine ⟨⟨k + 1, by omega, fun _ => ⟨by assumption, by assumption⟩⟩, [0, 1, 2, 3, 4, 5, 6], by simp only; omega, ?_⟩
    simp only [e1]
    (repeat' first | refine And.intro ?_ ?_ | exact xeC | fail)
    all_goals first | exact xmI | (simp only [Int.toNat_natCast, Nat.zero_add]; done) | skip
    all_goals trace_state
  · have e1 : (R.l.take (k + 1)).foldl (fun a s => min a s.q) (R.la + 1) = (R.l.take k).foldl (fun a s => min a s.q) (R.la + 1) := by
      rw [← List.take_append_getElem (show k < R.l.length by omega), List.foldl_append]
      rw [getD_at (show k < R.l.length by omega)] at hb
      show min _ _ = _
      omega
    refine ⟨⟨k + 1, by omega, fun _ => ⟨by assumption, by assumption⟩⟩, [0, 1, 2, 3, 4, 5, 6], by simp only; omega, ?_⟩
    simp only [e1]
    (repeat' first | refine And.intro ?_ ?_ | exact xeC | fail)
    all_goals first | exact xmI | skip
    all_goals trace_state
  all_goals (
    have hsx := sta_x (q := q) (q2 := q2) (R := R) (k := k) hk2 (by first | exact .inl (by omega) | exact .inr (fun h => by simp_all))
    rw [hsx] at hsk ⊢
    obtain ⟨P, hP, hPn, hPr, hPs, hPa, hPe, hPq, hPb, hPt⟩ : ∃ P : Pr, newP q q2 R.W nd at' = P ∧ P.nd = nd ∧ P.rel = (q.rel && q2.rel) ∧ P.st = staF q q2 R.W ∧ P.ac = staF q q2 R.W - 1 ∧ P.se = staF q q2 R.W - 1 ∧ P.rq = [] ∧ P.bg = decide (1 < staF q q2 R.W) ∧ P.bt = at' := ⟨_, rfl, rfl, rfl, rfl, rfl, rfl, rfl, rfl, rfl⟩
    rw [hP]
    have hK1 : ∀ j, j < posS R r → j < R.S.length → ((R.S.getD j default : Nat) : Int) < r := fun j hj h2 => by
      have := pos_lt hj h2
      have := hno j h2
      omega
    have hK2 := pos_at (R := R) (r := r)
    have hK3 := pos_le R r
    have hins := ins_len (R := R) (r := r) (p := P)
    have hiD : (insR R r P).D r.toNat = some P := if_pos rfl
    obtain ⟨K, hKe⟩ : ∃ K, posS R r = K := ⟨_, rfl⟩
    rw [hKe] at hK1 hK2 hK3
    refine LoopK.mk' ({i : Nat // i ≤ R.S.length} × Nat)
      (fun ⟨⟨i, _⟩, cc⟩ => ⟨[(0, .c (.p 0 0 0)), (1, .c (.i .i64 r)), (15, .c (.p 5 0 0)), (16, .c (.sl 6 0 9 0 (nO K i) cc)), (17, .c (.b (decide (K < i)))), (18, .c (.i .i64 i))],
        [.one (wrr 1 2 id per R.la q R.S.length cM), .one (hist 3 q R.l.length c), .one (rdR 4 R cM cf), .one (smps true R.l c), rqs R.D cf, .one (.cells true (newC r.toNat P)), .one (.row true true 80 9 (nO K i) cc (outE 4 R cf K (newC r.toNat P)))]⟩)
      (fun j => R.S.length - j.1.1)
      ⟨⟨⟨0, Nat.zero_le _⟩, 0⟩, [0, 1, 2, 3, 4, 7, 99], ?_⟩ ?_
    · (repeat' first | refine And.intro ?_ ?_ | exact xeC | fail)
      all_goals first | exact xmI | omega | (simp [*]; done) | (intro i hi; exact absurd hi (Nat.not_lt_zero i)) | skip
      all_goals trace_state
    rintro ⟨⟨i, hi⟩, cc⟩
    have e3 : 0 + ((i : Nat) : Int).toNat = i := by omega
    have hNi : nO K i ≤ i + 1 := by unfold nO; split <;> omega
    rcases Nat.lt_or_ge i R.S.length with hlt | hge
    · obtain ⟨h2, m2, hm2⟩ := hR.a i hlt
      have he : encRd 4 R cf i = _ := rd_at hm2
      unfold encPr at he
      repeat' (first | (fail_if_success (with_reducible refine xstp ?_)); first | ((with_reducible refine And.intro (fun (hb : _ = true) => ?_) (fun (hb : _ = false) => ?_)) <;> replace hb := xnC hb <;> (try first | exact xfC | exact bff hb (by assumption) | exact bff (by assumption) hb)) | ((with_reducible refine And.intro ?_ ?_); focus exact xoC) | (with_reducible intro hc; (try simp only [capsP, and_true] at hc); (try exact xfC)) | ((fail_if_success (with_reducible first | refine xgon ?_ | intro _)); (conv => whnf); (fail_if_success (fail_if_success (with_reducible first | refine xstp ?_ | refine xgon ?_ | intro _)))))
      · have hKi : i ≤ K := by omega
        rw [e3, he]
        repeat' (first | (fail_if_success (with_reducible refine xstp ?_)); first | ((with_reducible refine And.intro (fun (hb : _ = true) => ?_) (fun (hb : _ = false) => ?_)) <;> replace hb := xnC hb <;> (try first | exact xfC | exact bff hb (by assumption) | exact bff (by assumption) hb)) | ((with_reducible refine And.intro ?_ ?_); focus exact xoC) | ((with_reducible refine Or.inl ⟨?_, ?_, ?_⟩); (focus rfl); focus exact xaC) | (with_reducible intro hc; (try simp only [capsP, and_true] at hc); (try exact xfC)) | ((fail_if_success (with_reducible first | refine xgon ?_ | intro _)); (conv => whnf); (fail_if_success (fail_if_success (with_reducible first | refine xstp ?_ | refine xgon ?_ | intro _)))))
        · have hb' : r < ((R.S.getD i default : Nat) : Int) := hb
          obtain rfl : i = K := by
            rcases (by omega : i < K ∨ i = K) with h | h
            · have := hK1 i h hlt; omega
            · exact h
          have hn1 : nO i i = i := if_neg (Nat.lt_irrefl i)
          have hN2 : nO i (i + 1) = nO i i + 1 + 1 := by rw [hn1]; exact if_pos (Nat.lt_succ_self i)
          rw [e3, he]
          repeat' (first | (fail_if_success (with_reducible refine xstp ?_)); first | ((with_reducible refine And.intro ?_ ?_); focus exact xoC) | ((with_reducible refine Or.inl ⟨?_, ?_, ?_⟩); (focus rfl); focus exact xaC) | (with_reducible intro hc; (try simp only [capsP, and_true] at hc); (try exact xfC)) | ((fail_if_success (with_reducible first | refine xgon ?_ | intro _)); (conv => whnf); (fail_if_success (fail_if_success (with_reducible first | refine xstp ?_ | refine xgon ?_ | intro _)))))
          rename_i c3
          refine ⟨⟨⟨i + 1, by omega⟩, c3⟩, [0, 1, 2, 3, 4, 5, 10], by simp only; omega, ?_⟩
          simp only [hN2]
          (repeat' first | refine And.intro ?_ ?_ | exact xeC | fail)
          all_goals first
            | exact xmI
            | rfl
            | exact (decide_eq_true (by omega)).symm
            | exact (decide_eq_false (by omega)).symm
            | exact decide_eq_true (by omega)
            | exact decide_eq_false (by omega)
            | exact decide_eq_decide.2 (by omega)
            | (intro j hj; dsimp only; rw [out_key (G := 4) (fun x => rfl)]; exact app_two (by rw [hn1, out_eq]; rfl) (by rw [hn1, out_gt (Nat.le_refl _), he]; rfl) hj)
            | exact fun j hj => out_bel rfl _ _ _ _ _ _
            | (intro j hj; dsimp only; rw [out_key (G := 4) (fun x => rfl)]; exact out_bel rfl _ _ _ _ _ _)
            | omega
            | skip
          all_goals trace_state
        · have hb' : ((R.S.getD i default : Nat) : Int) ≤ r := by
            first | exact hb | omega
          have hKi2 : i < K := by
            rcases (by omega : i < K ∨ K = i) with h | h
            · exact h
            · have := hK2 (by omega)
              rw [h] at this
              omega
          have hn1 : nO K i = i := if_neg (by omega)
          have hN2 : nO K (i + 1) = nO K i + 1 := by rw [hn1]; exact if_neg (by omega)
          rw [e3, he]
          repeat' (first | (fail_if_success (with_reducible refine xstp ?_)); first | ((with_reducible refine And.intro ?_ ?_); focus exact xoC) | ((with_reducible refine Or.inl ⟨?_, ?_, ?_⟩); (focus rfl); focus exact xaC) | (with_reducible intro hc; (try simp only [capsP, and_true] at hc); (try exact xfC)) | ((fail_if_success (with_reducible first | refine xgon ?_ | intro _)); (conv => whnf); (fail_if_success (fail_if_success (with_reducible first | refine xstp ?_ | refine xgon ?_ | intro _)))))
          rename_i c3
          refine ⟨⟨⟨i + 1, by omega⟩, c3⟩, [0, 1, 2, 3, 4, 5, 8], by simp only; omega, ?_⟩
          simp only [hN2]
          (repeat' first | refine And.intro ?_ ?_ | exact xeC | fail)
          all_goals first
            | exact xmI
            | rfl
            | exact (decide_eq_true (by omega)).symm
            | exact (decide_eq_false (by omega)).symm
            | exact decide_eq_true (by omega)
            | exact decide_eq_false (by omega)
            | exact decide_eq_decide.2 (by omega)
            | (intro j hj; dsimp only; rw [out_key (G := 4) (fun x => rfl)]; exact app_one (by rw [hn1, out_lt hKi2, he]; rfl) hj)
            | exact fun j hj => out_bel rfl _ _ _ _ _ _
            | (intro j hj; dsimp only; rw [out_key (G := 4) (fun x => rfl)]; exact out_bel rfl _ _ _ _ _ _)
            | omega
            | skip
          all_goals trace_state
      · have hKi : K < i := by omega
        have hn1 : nO K i = i + 1 := if_pos hKi
        have hN2 : nO K (i + 1) = nO K i + 1 := by rw [hn1]; exact if_pos (by omega)
        rw [e3, he]
        repeat' (first | (fail_if_success (with_reducible refine xstp ?_)); first | ((with_reducible refine And.intro ?_ ?_); focus exact xoC) | ((with_reducible refine Or.inl ⟨?_, ?_, ?_⟩); (focus rfl); focus exact xaC) | (with_reducible intro hc; (try simp only [capsP, and_true] at hc); (try exact xfC)) | ((fail_if_success (with_reducible first | refine xgon ?_ | intro _)); (conv => whnf); (fail_if_success (fail_if_success (with_reducible first | refine xstp ?_ | refine xgon ?_ | intro _)))))
        rename_i c3
        refine ⟨⟨⟨i + 1, by omega⟩, c3⟩, [0, 1, 2, 3, 4, 5, 8], by simp only; omega, ?_⟩
        simp only [hN2]
        (repeat' first | refine And.intro ?_ ?_ | exact xeC | fail)
        all_goals first
          | exact xmI
          | rfl
          | exact (decide_eq_true (by omega)).symm
          | exact (decide_eq_false (by omega)).symm
          | exact decide_eq_true (by omega)
          | exact decide_eq_false (by omega)
          | exact decide_eq_decide.2 (by omega)
          | (intro j hj; dsimp only; rw [out_key (G := 4) (fun x => rfl)]; exact app_one (by rw [hn1, out_gt (by omega), he]; rfl) hj)
          | exact fun j hj => out_bel rfl _ _ _ _ _ _
          | (intro j hj; dsimp only; rw [out_key (G := 4) (fun x => rfl)]; exact out_bel rfl _ _ _ _ _ _)
          | omega
          | skip
        all_goals trace_state
    · skip
      repeat' (first | (fail_if_success (with_reducible refine xstp ?_)); first | ((with_reducible refine And.intro (fun (hb : _ = true) => ?_) (fun (hb : _ = false) => ?_)) <;> replace hb := xnC hb <;> (try first | exact xfC | exact bff hb (by assumption) | exact bff (by assumption) hb)) | ((with_reducible refine And.intro ?_ ?_); focus exact xoC) | ((with_reducible refine Or.inl ⟨?_, ?_, ?_⟩); (focus rfl); focus exact xaC) | (with_reducible intro hc; (try simp only [capsP, and_true] at hc); (try exact xfC)) | ((fail_if_success (with_reducible first | refine xgon ?_ | intro _)); (conv => whnf); (fail_if_success (fail_if_success (with_reducible first | refine xstp ?_ | refine xgon ?_ | intro _)))))
      · rename_i c3
        obtain rfl : i = K := by omega
        have hn1 : nO i i = i := if_neg (Nat.lt_irrefl i)
        refine FinK.mk ⟨[0, 1, 2, 3, 4, .adopt 8 1 98, .adopt 4 r.toNat 99], _, _, ⟨c3, updC cf r 0, rfl, rfl⟩, ?_⟩
        (repeat' first | refine And.intro ?_ ?_ | exact xeC | fail)
        all_goals first
          | exact xmI
          | (rw [hins, hn1]; omega)
          | (intro j hj
             rw [hins] at hj
             rw [app_one (by rw [hn1, out_eq]; rfl) (show j < nO i i + 1 by rw [hn1]; omega)]
             subst hKe
             exact ins_row hR hw hno hPq (fun x => rfl) (by simp) j hj)
          | exact fun x hx => rq_ins x hx
          | skip
        show nilLe (.one (rqO ((insR R r P).D r.toNat) (updC cf r 0 r.toNat))) _
        rw [show rqO ((insR R r P).D r.toNat) (updC cf r 0 r.toNat) = ints true [] 0 by
          rw [hiD]
          have hc : updC cf r 0 r.toNat = 0 := if_pos rfl
          rw [hc]
          simp only [rqO, hPq]]
        refine ⟨rfl, rfl, ?_⟩
        (repeat' first | refine And.intro ?_ ?_ | exact xeC | fail)
        all_goals exact xmI
      · have hKi : K < i := by omega
        have hn1 : nO K i = i + 1 := if_pos hKi
        refine FinK.mk ⟨[0, 1, 2, 3, 4, .adopt 6 1 98, .adopt 4 r.toNat 99], _, _, ⟨cc, updC cf r 0, rfl, rfl⟩, ?_⟩
        (repeat' first | refine And.intro ?_ ?_ | exact xeC | fail)
        all_goals first
          | exact xmI
          | (rw [hins, hn1]; omega)
          | (intro j hj
             rw [hins] at hj
             rw [show outE 4 R cf K (newC r.toNat P) j = outE 4 R cf K (newC r.toNat P) j from rfl]
             subst hKe
             exact ins_row hR hw hno hPq (fun x => rfl) (by simp) j hj)
          | exact fun x hx => rq_ins x hx
          | skip
        show nilLe (.one (rqO ((insR R r P).D r.toNat) (updC cf r 0 r.toNat))) _
        rw [show rqO ((insR R r P).D r.toNat) (updC cf r 0 r.toNat) = ints true [] 0 by
          rw [hiD]
          have hc : updC cf r 0 r.toNat = 0 := if_pos rfl
          rw [hc]
          simp only [rqO, hPq]]
        refine ⟨rfl, rfl, ?_⟩
        (repeat' first | refine And.intro ?_ ?_ | exact xeC | fail)
        all_goals exact xmI
    skip)
end Go.Proofs.YtofcadbfjbefkaaGreat

