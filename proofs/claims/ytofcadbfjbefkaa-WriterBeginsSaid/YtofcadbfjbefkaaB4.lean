/- Part 4 of the texts that a walk of this program rests on: an abstract machine, its soundness, contracts of functions. No statement of the seat is proved in this file. -/
import Derived.Test.YtofcadbfjbefkaaB3
namespace Go.Proofs.Ytofcadbfjbefkaa
open Go.X
set_option linter.unusedSimpArgs false
set_option linter.unusedVariables false
/-! What a poll sends to a reader. -/
def polB (id : Int) (X : Nat) (p : Pr) (at' : Int) : List Pk := if p.bg = true then [gapK id X p 0 1 (p.st - 1) at'] else []
def polR (id : Int) (l : List Smp) (X : Nat) (p : Pr) (at' : Int) (k : Nat) : List Pk := ((srtI p.rq).take k).map (dat id l X p at')
def polN1 (id : Int) (l : List Smp) (X : Nat) (p : Pr) (at' : Int) (n : Int) : List Pk := if p.rel = true ∨ (dat id l X p at' n).k = 1 then [dat id l X p at' n] else []
def polN (id : Int) (l : List Smp) (X : Nat) (p : Pr) (at' : Int) (k : Nat) : List Pk := (List.range k).flatMap fun (i : Nat) => polN1 id l X p at' (p.se + 1 + (i : Int))
def beats (p : Pr) (la at' : Int) : Prop := p.rel = true ∧ p.ac < la ∧ p.bt ≤ at'
instance (p : Pr) (la at' : Int) : Decidable (beats p la at') := by unfold beats; infer_instance
def polH (id : Int) (X : Nat) (p : Pr) (la at' : Int) : List Pk := if beats p la at' then [hbK id X p la at'] else []
def polL (id : Int) (l : List Smp) (X : Nat) (p : Pr) (la at' : Int) : List Pk := polB id X p at' ++ polR id l X p at' p.rq.length ++ polN id l X p at' (la - p.se).toNat ++ polH id X p la at'
def polP (per : Int) (p : Pr) (la at' : Int) : Pr := ⟨p.nd, p.rel, p.st, p.ac, la, [], false, if beats p la at' then at' + per else p.bt⟩
/-- A peer in the midst of a poll. -/
def pS (p : Pr) : Pr := ⟨p.nd, p.rel, p.st, p.ac, p.se, srtI p.rq, false, p.bt⟩
def pE (p : Pr) : Pr := ⟨p.nd, p.rel, p.st, p.ac, p.se, [], false, p.bt⟩
/-- What holds of a peer's numbers. -/
structure PrOk (la : Int) (p : Pr) : Prop where
  st : 1 ≤ p.st ∧ p.st ≤ la + 1
  ac : 0 ≤ p.ac ∧ p.ac ≤ 1099511627777
  se : 0 ≤ p.se ∧ p.se ≤ la
  rq : p.rq.length ≤ 100000
theorem polN_succ (id : Int) (l : List Smp) (X : Nat) (p : Pr) (at' : Int) (k : Nat) : polN id l X p at' (k + 1) = polN id l X p at' k ++ polN1 id l X p at' (p.se + 1 + (k : Int)) := by
  unfold polN
  rw [List.range_succ, List.flatMap_append, List.flatMap_cons, List.flatMap_nil, List.append_nil]
theorem polN1_le (id : Int) (l : List Smp) (X : Nat) (p : Pr) (at' : Int) (n : Int) : (polN1 id l X p at' n).length ≤ 1 := by
  unfold polN1; split <;> simp
theorem polN_le (id : Int) (l : List Smp) (X : Nat) (p : Pr) (at' : Int) : ∀ k, (polN id l X p at' k).length ≤ k
  | 0 => Nat.le_refl _
  | k + 1 => by
    rw [polN_succ, List.length_append]
    have := polN_le id l X p at' k
    have := polN1_le id l X p at' (p.se + 1 + (k : Int))
    omega
theorem polB_le (id : Int) (X : Nat) (p : Pr) (at' : Int) : (polB id X p at').length ≤ 1 := by unfold polB; split <;> simp
theorem srt_len (l : List Int) : (srtI l).length = l.length := List.length_mergeSort l
theorem polR_le (id : Int) (l : List Smp) (X : Nat) (p : Pr) (at' : Int) (k : Nat) : (polR id l X p at' k).length ≤ k := by
  unfold polR; rw [List.length_map, List.length_take]; omega
theorem polR_succ (id : Int) (l : List Smp) (X : Nat) (p : Pr) (at' : Int) {k : Nat} (hk : k < p.rq.length) : polR id l X p at' (k + 1) = polR id l X p at' k ++ [dat id l X p at' ((srtI p.rq).getD k default)] := by
  unfold polR
  have hk' : k < (srtI p.rq).length := by rw [srt_len]; exact hk
  rw [← List.take_append_getElem hk', List.map_append, getD_at hk']
  rfl
theorem cH18oG0 {P : Program} {F : Nat} {args : List T} {H : List Fam} {K : T → List Fam → Prop} {σ : List Sg} {nl : List Fam} {args0 : List T} {h0 : List Fam} {Q : T → List Fam → Prop} {H2 H1 : List Fam} {N n : Nat} (hc : Ctr P F args0 h0 Q) (hk : ∀ v h', Q v h' → capsP h' → RetG σ H2 h' v K) (hap : apart σ = true := by rfl) (hnl : nl.all nilB = true := by rfl) (h1 : H ++ nl = H1 := by first | exact List.append_nil _ | ((try simp only [List.cons_append, List.nil_append]) <;> rfl)) (hN : H1.length = N := by (try simp only [↓List.length_cons, ↓List.length_nil, Nat.reduceAdd]) <;> rfl) (hn : H.length = n := by (try simp only [↓List.length_cons, ↓List.length_nil, Nat.reduceAdd]) <;> rfl) (hH : givesF σ N H1 σ h0 = some H2 := by (try simp (maxSteps := 1000000) only [givesF, setF, updF, Fam.zeroth, Fam.rk, Ck.rk, C.rk, E.rk, T.rk, key, List.map_cons, List.map_nil, List.cons_append, List.nil_append, List.length_cons, List.length_nil, Option.map_some, Option.bind_some, Nat.reduceAdd, Nat.zero_add, Nat.add_zero, Nat.add_sub_cancel_left, Int.toNat_natCast, reps, List.all_cons, List.all_nil, C.flat, List.append_eq, Bool.not_true, Bool.and_true, Bool.or_false, Bool.or_self, Bool.not_false, List.append_nil, Bool.and_self, ↓prC_rk, ↓rqO_rk]) <;> rfl) (hle : leS n H1 σ N σ h0 (belsK N (h0.map (Fam.rk σ N)) (argsK n args (args0.map (T.rk σ N)) True)) := by repeat' first | refine And.intro ?_ ?_ | exact xeC | fail) : CallK P F args H K := CallK.mk3 hc hap hnl h1 hN hn hH hle hk
set_option maxRecDepth 10000 in
set_option maxHeartbeats 16000000 in
theorem cpoll1 (id per la : Int) (q : Qos) (l : List Smp) (c X : Nat) (p : Pr) (cq : Nat) (at' : Int) (hl : l.length ≤ 1000000) (hla : 0 ≤ la ∧ la ≤ 1000000) (hp : PrOk la p) (hat : 0 ≤ at' ∧ at' ≤ 1099511627776) (hper : 1 ≤ per ∧ per ≤ 1099511627776) :
    Ctr Try.prog 27 [.c (.p 0 0 0), .c (.p 4 0 0), .c (.i .i64 at')] [.one (wrc 1 2 id per la q), .one (hist 3 q l.length c), .one .no, .one (smps true l c), .one (.cells true (encPr 5 0 X p cq)), .one (ints true p.rq cq)]
      fun v h => ∃ co, v = .c (.sl 6 0 11 0 (polL id l X p la at').length co) ∧ h = [.one (wrc 1 2 id per la q), .one (hist 3 q l.length c), .one .no, .one (smps true l c), .one (.cells true (encPr 7 0 X (polP per p la at') 0)), .one .no, .one (pkR true (polL id l X p la at') co), .one (ints true [] 0)] := by
  have hst := hp.st
  have hse2 : 0 ≤ (pS p).se ∧ (pS p).se ≤ la := hp.se
  have hse3 : 0 ≤ (pE p).se ∧ (pE p).se ≤ la := hp.se
  have hac := hp.ac
  have hse := hp.se
  have hrq := hp.rq
  have hBl := polB_le id X p at'
  have hsl := srt_len p.rq
  refine Ctr.mk' tbv mixed Try.func27 rfl rfl rfl (fun _ _ => by kernel_rfl) (by kernel_rfl) (by rfl) (by rfl) (by (repeat' first | refine And.intro ?_ ?_ | exact xeC | fail)) ?_
  repeat' (first | (fail_if_success (with_reducible refine xstp ?_)); first | ((with_reducible refine And.intro (fun (hb : _ = true) => ?_) (fun (hb : _ = false) => ?_)) <;> replace hb := xnC hb <;> (try first | exact xfC | exact bff hb (by assumption) | exact bff (by assumption) hb)) | ((with_reducible refine And.intro ?_ ?_); focus exact xoC) | (with_reducible intro hc; (try simp only [capsP, and_true] at hc); (try exact xfC)) | ((fail_if_success (with_reducible first | refine xgon ?_ | intro _)); (conv => whnf); (fail_if_success (fail_if_success (with_reducible first | refine xstp ?_ | refine xgon ?_ | intro _)))))
  · have hB : polB id X p at' = [gapK id X p 0 1 (p.st - 1) at'] := if_pos (by assumption)
    refine cH18oG0 (σ := [.whole 0, .whole 4, .name 1, .name 2, .name 5]) (nl := []) (cgap id per la q X p cq 0 1 (p.st - 1) at') ?_
    rintro v h' ⟨rfl, rfl⟩ hcaps
    refine ret_mk3 (by (try simp only [↓List.length_cons, ↓List.length_nil, Nat.reduceAdd]); rfl) (by (try simp (maxSteps := 1000000) only [givesF, setF, updF, Fam.zeroth, Fam.rk, Ck.rk, C.rk, E.rk, T.rk, key, List.map_cons, List.map_nil, List.cons_append, List.nil_append, List.length_cons, List.length_nil, Option.map_some, Option.bind_some, Nat.reduceAdd, Nat.zero_add, Nat.add_zero, Nat.add_sub_cancel_left, Int.toNat_natCast, reps, List.all_cons, List.all_nil, C.flat, List.append_eq, Bool.not_true, Bool.and_true, Bool.or_false, Bool.or_self, Bool.not_false, List.append_nil, Bool.and_self, ↓prC_rk, ↓rqO_rk, encPr, encP]); rfl) (by (try simp only [givesF, setF, updF, Fam.zeroth, Fam.rk, Ck.rk, C.rk, E.rk, T.rk, key, List.map_cons, List.map_nil, List.cons_append, List.nil_append, List.length_cons, List.length_nil, Option.map_some, Option.bind_some, Nat.reduceAdd, Nat.zero_add, Nat.add_zero, Nat.add_sub_cancel_left, Int.toNat_natCast, reps, List.all_cons, List.all_nil, C.flat, List.append_eq, Bool.not_true, Bool.and_true, Bool.or_false, Bool.or_self, Bool.not_false, List.append_nil, Bool.and_self, ↓prC_rk, ↓rqO_rk, encPr, encP]); rfl) ?_
    repeat' (first | (fail_if_success (with_reducible refine xstp ?_)); first | ((with_reducible refine And.intro ?_ ?_); focus exact xoC) | (with_reducible intro hc; (try simp only [capsP, and_true] at hc); (try exact xfC)) | ((fail_if_success (with_reducible first | refine xgon ?_ | intro _)); (conv => whnf); (fail_if_success (fail_if_success (with_reducible first | refine xstp ?_ | refine xgon ?_ | intro _)))))
    rename_i c1
    have h0 : polB id X p at' ++ polR id l X p at' 0 = [gapK id X p 0 1 (p.st - 1) at'] := by rw [hB]; rfl
    refine cH18oG0 (σ := [.whole 5]) (nl := []) (cSort 3 p.rq cq (by omega)) ?_
    rintro v h' ⟨rfl, rfl⟩ hcaps
    refine ret_mk3 (by (try simp only [↓List.length_cons, ↓List.length_nil, Nat.reduceAdd]); rfl) (by (try simp (maxSteps := 1000000) only [givesF, setF, updF, Fam.zeroth, Fam.rk, Ck.rk, C.rk, E.rk, T.rk, key, List.map_cons, List.map_nil, List.cons_append, List.nil_append, List.length_cons, List.length_nil, Option.map_some, Option.bind_some, Nat.reduceAdd, Nat.zero_add, Nat.add_zero, Nat.add_sub_cancel_left, Int.toNat_natCast, reps, List.all_cons, List.all_nil, C.flat, List.append_eq, Bool.not_true, Bool.and_true, Bool.or_false, Bool.or_self, Bool.not_false, List.append_nil, Bool.and_self, ↓prC_rk, ↓rqO_rk, encPr, encP]); rfl) (by (try simp only [givesF, setF, updF, Fam.zeroth, Fam.rk, Ck.rk, C.rk, E.rk, T.rk, key, List.map_cons, List.map_nil, List.cons_append, List.nil_append, List.length_cons, List.length_nil, Option.map_some, Option.bind_some, Nat.reduceAdd, Nat.zero_add, Nat.add_zero, Nat.add_sub_cancel_left, Int.toNat_natCast, reps, List.all_cons, List.all_nil, C.flat, List.append_eq, Bool.not_true, Bool.and_true, Bool.or_false, Bool.or_self, Bool.not_false, List.append_nil, Bool.and_self, ↓prC_rk, ↓rqO_rk, encPr, encP]); rfl) ?_
    repeat' (first | (fail_if_success (with_reducible refine xstp ?_)); first | ((fail_if_success (with_reducible first | refine xgon ?_ | intro _)); (conv => whnf); (fail_if_success (fail_if_success (with_reducible first | refine xstp ?_ | refine xgon ?_ | intro _)))))
    refine LoopK.mk' ({k : Nat // k ≤ p.rq.length} × Nat)
      (fun ⟨⟨k, _⟩, cc⟩ => ⟨[(0, .c (.p 0 0 0)), (1, .c (.p 4 0 0)), (2, .c (.i .i64 at')), (7, .c (.sl 6 0 11 0 (polB id X p at' ++ polR id l X p at' k).length cc)), (39, .c (.sl 5 0 1 0 p.rq.length cq)), (40, .c (.i .i64 p.rq.length)), (41, .c (.i .i64 k))],
        [.one (wrc 1 2 id per la q), .one (hist 3 q l.length c), .one .no, .one (smps true l c), .one (.cells true (encPr 5 0 X (pS p) cq)), .one (ints true (srtI p.rq) cq), .one (pkR true (polB id X p at' ++ polR id l X p at' k) cc)]⟩)
      (fun k => p.rq.length - k.1.1)
      ⟨⟨⟨0, Nat.zero_le _⟩, c1⟩, [0, 1, 2, 3, 4, 5, 7], ?_⟩ ?_
    · (repeat' first | refine And.intro ?_ ?_ | exact xeC | fail)
      all_goals try rw [h0]
      all_goals first
        | rfl
        | exact hsl.symm
        | exact Nat.le_of_eq hsl
        | (show p.bg = false; assumption)
        | exact Nat.le_refl _
        | (intro i hi
           have hi1 : i < 1 := hi
           obtain rfl : i = 0 := by omega
           rfl)
        | (intro i hi; exact absurd hi (Nat.not_lt_zero i))
        | skip
      all_goals trace_state
    rintro ⟨⟨k, hk⟩, cc⟩
    have hRl := polR_le id l X p at' k
    have hOl : (polB id X p at' ++ polR id l X p at' k).length ≤ 100001 := by rw [List.length_append]; omega
    repeat' (first | (fail_if_success (with_reducible refine xstp ?_)); first | ((with_reducible refine And.intro (fun (hb : _ = true) => ?_) (fun (hb : _ = false) => ?_)) <;> replace hb := xnC hb <;> (try first | exact xfC | exact bff hb (by assumption) | exact bff (by assumption) hb)) | ((with_reducible refine And.intro ?_ ?_); focus exact xoC) | (with_reducible intro hc; (try simp only [capsP, and_true] at hc); (try exact xfC)) | ((fail_if_success (with_reducible first | refine xgon ?_ | intro _)); (conv => whnf); (fail_if_success (fail_if_success (with_reducible first | refine xstp ?_ | refine xgon ?_ | intro _)))))
    · rw [show 0 + ((k : Nat) : Int).toNat = k by omega]
      refine cH18oG0 (σ := [.whole 0, .whole 1, .name 2, .whole 3, .whole 4, .name 5]) (nl := []) (cdata id per la q l c X (pS p) cq ((srtI p.rq).getD k default) at' hl) ?_
      rintro v h' ⟨rfl, rfl⟩ hcaps
      rw [show dat id l X (pS p) at' ((srtI p.rq).getD k default) = dat id l X p at' ((srtI p.rq).getD k default) from rfl]
      have hR1 := polR_succ id l X p at' (show k < p.rq.length by omega)
      generalize dat id l X p at' ((srtI p.rq).getD k default) = y at *
      refine ret_mk3 (by (try simp only [↓List.length_cons, ↓List.length_nil, Nat.reduceAdd]); rfl) (by (try simp (maxSteps := 1000000) only [givesF, setF, updF, Fam.zeroth, Fam.rk, Ck.rk, C.rk, E.rk, T.rk, key, List.map_cons, List.map_nil, List.cons_append, List.nil_append, List.length_cons, List.length_nil, Option.map_some, Option.bind_some, Nat.reduceAdd, Nat.zero_add, Nat.add_zero, Nat.add_sub_cancel_left, Int.toNat_natCast, reps, List.all_cons, List.all_nil, C.flat, List.append_eq, Bool.not_true, Bool.and_true, Bool.or_false, Bool.or_self, Bool.not_false, List.append_nil, Bool.and_self, ↓prC_rk, ↓rqO_rk, encPr, encP]); rfl) (by (try simp only [givesF, setF, updF, Fam.zeroth, Fam.rk, Ck.rk, C.rk, E.rk, T.rk, key, List.map_cons, List.map_nil, List.cons_append, List.nil_append, List.length_cons, List.length_nil, Option.map_some, Option.bind_some, Nat.reduceAdd, Nat.zero_add, Nat.add_zero, Nat.add_sub_cancel_left, Int.toNat_natCast, reps, List.all_cons, List.all_nil, C.flat, List.append_eq, Bool.not_true, Bool.and_true, Bool.or_false, Bool.or_self, Bool.not_false, List.append_nil, Bool.and_self, ↓prC_rk, ↓rqO_rk, encPr, encP]); rfl) ?_
      repeat' (first | (fail_if_success (with_reducible refine xstp ?_)); first | ((with_reducible refine And.intro ?_ ?_); focus exact xoC) | ((with_reducible refine Or.inl ⟨?_, ?_, ?_⟩); (focus rfl); focus exact xaC) | (with_reducible intro hc; (try simp only [capsP, and_true] at hc); (try exact xfC)) | ((fail_if_success (with_reducible first | refine xgon ?_ | intro _)); (conv => whnf); (fail_if_success (fail_if_success (with_reducible first | refine xstp ?_ | refine xgon ?_ | intro _)))))
      rename_i c2
      refine ⟨⟨⟨k + 1, by omega⟩, c2⟩, [0, 1, 2, 3, 4, 5, 8], by simp only; omega, ?_⟩
      simp only [hR1, ← List.append_assoc]
      (repeat' first | refine And.intro ?_ ?_ | exact xeC | fail)
      all_goals first
        | (simp only [List.length_append, List.length_cons, List.length_nil]; done)
        | (simp only [List.length_append, List.length_cons, List.length_nil]; exact Nat.le_refl _)
        | (intro i hi; exact app_rowG (encP .nils) (polB id X p at' ++ polR id l X p at' k) y _ rfl i hi)
        | skip
      all_goals trace_state
    obtain rfl : k = p.rq.length := by omega
    refine LoopK.mk' ({k : Nat // k ≤ (la - p.se).toNat} × Nat)
      (fun ⟨⟨k, _⟩, cc⟩ => ⟨[(0, .c (.p 0 0 0)), (1, .c (.p 4 0 0)), (2, .c (.i .i64 at')), (7, .c (.sl 6 0 11 0 (polB id X p at' ++ polR id l X p at' p.rq.length ++ polN id l X p at' k).length cc)), (10, .c (.i .i64 (p.se + 1 + (k : Int))))],
        [.one (wrc 1 2 id per la q), .one (hist 3 q l.length c), .one .no, .one (smps true l c), .one (.cells true (encPr 7 0 X (pE p) 0)), .one .no, .one (pkR true (polB id X p at' ++ polR id l X p at' p.rq.length ++ polN id l X p at' k) cc), .one (ints true [] 0)]⟩)
      (fun k => (la - p.se).toNat - k.1.1)
      ⟨⟨⟨0, Nat.zero_le _⟩, cc⟩, [0, 1, 2, 3, 4, 5, 6, 99], ?_⟩ ?_
    · have h1 : polB id X p at' ++ polR id l X p at' p.rq.length ++ polN id l X p at' 0 = polB id X p at' ++ polR id l X p at' p.rq.length := List.append_nil _
      (repeat' first | refine And.intro ?_ ?_ | exact xeC | fail)
      all_goals try rw [h1]
      all_goals first
        | rfl
        | exact Nat.le_refl _
        | exact (Int.add_zero _).symm
        | exact fun _ _ => rfl
        | skip
      all_goals trace_state
    rintro ⟨⟨k, hk⟩, cc⟩
    have hNl := polN_le id l X p at' k
    have hOl : (polB id X p at' ++ polR id l X p at' p.rq.length ++ polN id l X p at' k).length ≤ 1100001 := by rw [List.length_append, List.length_append]; have : (polR id l X p at' p.rq.length).length ≤ p.rq.length := polR_le id l X p at' _; omega
    repeat' (first | (fail_if_success (with_reducible refine xstp ?_)); first | ((with_reducible refine And.intro (fun (hb : _ = true) => ?_) (fun (hb : _ = false) => ?_)) <;> replace hb := xnC hb <;> (try first | exact xfC | exact bff hb (by assumption) | exact bff (by assumption) hb)) | ((with_reducible refine And.intro ?_ ?_); focus exact xoC) | ((with_reducible refine Or.inl ⟨?_, ?_, ?_⟩); (focus rfl); focus exact xaC) | (with_reducible intro hc; (try simp only [capsP, and_true] at hc); (try exact xfC)) | ((fail_if_success (with_reducible first | refine xgon ?_ | intro _)); (conv => whnf); (fail_if_success (fail_if_success (with_reducible first | refine xstp ?_ | refine xgon ?_ | intro _)))))
    · refine cH18oG0 (σ := [.whole 0, .whole 1, .name 2, .whole 3, .whole 4, .name 7]) (nl := []) (cdata id per la q l c X (pE p) 0 (p.se + 1 + (k : Int)) at' hl) ?_
      rintro v h' ⟨rfl, rfl⟩ hcaps
      rw [show dat id l X (pE p) at' (p.se + 1 + (k : Int)) = dat id l X p at' (p.se + 1 + (k : Int)) from rfl]
      have hN1 := polN_succ id l X p at' k
      unfold polN1 at hN1
      generalize dat id l X p at' (p.se + 1 + (k : Int)) = y at *
      refine ret_mk3 (by (try simp only [↓List.length_cons, ↓List.length_nil, Nat.reduceAdd]); rfl) (by (try simp (maxSteps := 1000000) only [givesF, setF, updF, Fam.zeroth, Fam.rk, Ck.rk, C.rk, E.rk, T.rk, key, List.map_cons, List.map_nil, List.cons_append, List.nil_append, List.length_cons, List.length_nil, Option.map_some, Option.bind_some, Nat.reduceAdd, Nat.zero_add, Nat.add_zero, Nat.add_sub_cancel_left, Int.toNat_natCast, reps, List.all_cons, List.all_nil, C.flat, List.append_eq, Bool.not_true, Bool.and_true, Bool.or_false, Bool.or_self, Bool.not_false, List.append_nil, Bool.and_self, ↓prC_rk, ↓rqO_rk, encPr, encP]); rfl) (by (try simp only [givesF, setF, updF, Fam.zeroth, Fam.rk, Ck.rk, C.rk, E.rk, T.rk, key, List.map_cons, List.map_nil, List.cons_append, List.nil_append, List.length_cons, List.length_nil, Option.map_some, Option.bind_some, Nat.reduceAdd, Nat.zero_add, Nat.add_zero, Nat.add_sub_cancel_left, Int.toNat_natCast, reps, List.all_cons, List.all_nil, C.flat, List.append_eq, Bool.not_true, Bool.and_true, Bool.or_false, Bool.or_self, Bool.not_false, List.append_nil, Bool.and_self, ↓prC_rk, ↓rqO_rk, encPr, encP]); rfl) ?_
      repeat' (first | (fail_if_success (with_reducible refine xstp ?_)); first | ((with_reducible refine And.intro (fun (hb : _ = true) => ?_) (fun (hb : _ = false) => ?_)) <;> replace hb := xnC hb <;> (try first | exact xfC | exact bff hb (by assumption) | exact bff (by assumption) hb)) | ((with_reducible refine And.intro ?_ ?_); focus exact xoC) | ((with_reducible refine Or.inl ⟨?_, ?_, ?_⟩); (focus rfl); focus exact xaC) | (with_reducible intro hc; (try simp only [capsP, and_true] at hc); (try exact xfC)) | ((fail_if_success (with_reducible first | refine xgon ?_ | intro _)); (conv => whnf); (fail_if_success (fail_if_success (with_reducible first | refine xstp ?_ | refine xgon ?_ | intro _)))))
      all_goals first
        | (have hcnd : p.rel = true ∨ y.k = 1 := by first | exact .inl ‹(pE p).rel = true› | exact .inr ‹y.k = 1›
           rw [if_pos hcnd] at hN1
           rename_i c2
           refine ⟨⟨⟨k + 1, by omega⟩, c2⟩, [0, 1, 2, 3, 4, 5, 10, 7], by simp only; omega, ?_⟩
           simp only [hN1, ← List.append_assoc]
           (repeat' first | refine And.intro ?_ ?_ | exact xeC | fail)
           all_goals first
             | (simp only [List.length_append, List.length_cons, List.length_nil]; done)
             | (simp only [List.length_append, List.length_cons, List.length_nil]; exact Nat.le_refl _)
             | (intro i hi; exact app_rowG (encP .nils) (polB id X p at' ++ polR id l X p at' p.rq.length ++ polN id l X p at' k) y _ rfl i hi)
             | (show p.se + 1 + (k : Int) + 1 = p.se + 1 + ((k + 1 : Nat) : Int); omega)
           done)
        | (have hc1 : ¬ y.k = 1 := ‹¬ y.k = 1›
           have hc2 : p.rel = false := ‹(pE p).rel = false›
           have hcnd : ¬ (p.rel = true ∨ y.k = 1) := fun h => h.elim (fun h => by rw [hc2] at h; cases h) hc1
           rw [if_neg hcnd, List.append_nil] at hN1
           refine ⟨⟨⟨k + 1, by omega⟩, cc⟩, [0, 1, 2, 3, 4, 5, 6, 7], by simp only; omega, ?_⟩
           simp only [hN1]
           (repeat' first | refine And.intro ?_ ?_ | exact xeC | fail)
           all_goals first
             | (show p.se + 1 + (k : Int) + 1 = p.se + 1 + ((k + 1 : Nat) : Int); omega)
           done)
        | skip
      all_goals trace_state
      all_goals stop
      all_goals skip
    rename Nat => c2
    all_goals have ek : k = (la - p.se).toNat := by omega
    all_goals subst ek
    · have hbe : beats p la at' := ⟨‹(pE p).rel = true›, ‹(pE p).ac < la›, ‹(pE p).bt ≤ at'›⟩
      have e1 : polL id l X p la at' = polB id X p at' ++ polR id l X p at' p.rq.length ++ polN id l X p at' (la - p.se).toNat ++ [hbK id X p la at'] := by unfold polL polH; rw [if_pos hbe]
      have e2 : polP per p la at' = ⟨p.nd, p.rel, p.st, p.ac, la, [], false, at' + per⟩ := by unfold polP; rw [if_pos hbe]
      rw [e1, e2]
      refine FinK.mk ⟨[0, 1, 2, 3, 4, 5, 9, 7], _, _, ⟨c2, rfl, rfl⟩, ?_⟩
      (repeat' first | refine And.intro ?_ ?_ | exact xeC | fail)
      all_goals first
        | (simp only [List.length_append, List.length_cons, List.length_nil]; done)
        | (simp only [List.length_append, List.length_cons, List.length_nil]; exact Nat.le_refl _)
        | (intro i hi; exact app_rowG (encP .nils) (polB id X p at' ++ polR id l X p at' p.rq.length ++ polN id l X p at' (la - p.se).toNat) (hbK id X p la at') _ rfl i hi)
        | skip
      all_goals trace_state
    all_goals (
      have hbe : ¬ beats p la at' := fun h => by
        have h1 : (pE p).rel = true := h.1
        have h2 : (pE p).ac < la := h.2.1
        have h3 : (pE p).bt ≤ at' := h.2.2
        first
          | omega
          | exact absurd h1 (by rw [‹(pE p).rel = false›]; simp)
      have e1 : polL id l X p la at' = polB id X p at' ++ polR id l X p at' p.rq.length ++ polN id l X p at' (la - p.se).toNat := by unfold polL polH; rw [if_neg hbe, List.append_nil]
      have e2 : polP per p la at' = ⟨p.nd, p.rel, p.st, p.ac, la, [], false, p.bt⟩ := by unfold polP; rw [if_neg hbe]
      rw [e1, e2]
      refine FinK.mk ⟨[0, 1, 2, 3, 4, 5, 6, 7], _, _, ⟨cc, rfl, rfl⟩, ?_⟩
      (repeat' first | refine And.intro ?_ ?_ | exact xeC | fail)
      all_goals trace_state
      skip)
  · have hB : polB id X p at' = [] := if_neg (by simp [*])
    have h0 : polB id X p at' ++ polR id l X p at' 0 = [] := by rw [hB]; rfl
    refine cH18oG0 (σ := [.whole 5]) (nl := []) (cSort 3 p.rq cq (by omega)) ?_
    rintro v h' ⟨rfl, rfl⟩ hcaps
    refine ret_mk3 (by (try simp only [↓List.length_cons, ↓List.length_nil, Nat.reduceAdd]); rfl) (by (try simp (maxSteps := 1000000) only [givesF, setF, updF, Fam.zeroth, Fam.rk, Ck.rk, C.rk, E.rk, T.rk, key, List.map_cons, List.map_nil, List.cons_append, List.nil_append, List.length_cons, List.length_nil, Option.map_some, Option.bind_some, Nat.reduceAdd, Nat.zero_add, Nat.add_zero, Nat.add_sub_cancel_left, Int.toNat_natCast, reps, List.all_cons, List.all_nil, C.flat, List.append_eq, Bool.not_true, Bool.and_true, Bool.or_false, Bool.or_self, Bool.not_false, List.append_nil, Bool.and_self, ↓prC_rk, ↓rqO_rk, encPr, encP]); rfl) (by (try simp only [givesF, setF, updF, Fam.zeroth, Fam.rk, Ck.rk, C.rk, E.rk, T.rk, key, List.map_cons, List.map_nil, List.cons_append, List.nil_append, List.length_cons, List.length_nil, Option.map_some, Option.bind_some, Nat.reduceAdd, Nat.zero_add, Nat.add_zero, Nat.add_sub_cancel_left, Int.toNat_natCast, reps, List.all_cons, List.all_nil, C.flat, List.append_eq, Bool.not_true, Bool.and_true, Bool.or_false, Bool.or_self, Bool.not_false, List.append_nil, Bool.and_self, ↓prC_rk, ↓rqO_rk, encPr, encP]); rfl) ?_
    repeat' (first | (fail_if_success (with_reducible refine xstp ?_)); first | ((fail_if_success (with_reducible first | refine xgon ?_ | intro _)); (conv => whnf); (fail_if_success (fail_if_success (with_reducible first | refine xstp ?_ | refine xgon ?_ | intro _)))))
    refine LoopK.mk' ({k : Nat // k ≤ p.rq.length} × Nat)
      (fun ⟨⟨k, _⟩, cc⟩ => ⟨[(0, .c (.p 0 0 0)), (1, .c (.p 4 0 0)), (2, .c (.i .i64 at')), (7, .c (.sl 6 0 11 0 (polB id X p at' ++ polR id l X p at' k).length cc)), (39, .c (.sl 5 0 1 0 p.rq.length cq)), (40, .c (.i .i64 p.rq.length)), (41, .c (.i .i64 k))],
        [.one (wrc 1 2 id per la q), .one (hist 3 q l.length c), .one .no, .one (smps true l c), .one (.cells true (encPr 5 0 X (pS p) cq)), .one (ints true (srtI p.rq) cq), .one (pkR true (polB id X p at' ++ polR id l X p at' k) cc)]⟩)
      (fun k => p.rq.length - k.1.1)
      ⟨⟨⟨0, Nat.zero_le _⟩, 0⟩, [0, 1, 2, 3, 4, 5, 99], ?_⟩ ?_
    · (repeat' first | refine And.intro ?_ ?_ | exact xeC | fail)
      all_goals try rw [h0]
      all_goals first
        | rfl
        | exact hsl.symm
        | exact Nat.le_of_eq hsl
        | (show p.bg = false; assumption)
        | exact Nat.le_refl _
        | (intro i hi
           have hi1 : i < 1 := hi
           obtain rfl : i = 0 := by omega
           rfl)
        | (intro i hi; exact absurd hi (Nat.not_lt_zero i))
        | skip
      all_goals trace_state
    rintro ⟨⟨k, hk⟩, cc⟩
    have hRl := polR_le id l X p at' k
    have hOl : (polB id X p at' ++ polR id l X p at' k).length ≤ 100001 := by rw [List.length_append]; omega
    repeat' (first | (fail_if_success (with_reducible refine xstp ?_)); first | ((with_reducible refine And.intro (fun (hb : _ = true) => ?_) (fun (hb : _ = false) => ?_)) <;> replace hb := xnC hb <;> (try first | exact xfC | exact bff hb (by assumption) | exact bff (by assumption) hb)) | ((with_reducible refine And.intro ?_ ?_); focus exact xoC) | (with_reducible intro hc; (try simp only [capsP, and_true] at hc); (try exact xfC)) | ((fail_if_success (with_reducible first | refine xgon ?_ | intro _)); (conv => whnf); (fail_if_success (fail_if_success (with_reducible first | refine xstp ?_ | refine xgon ?_ | intro _)))))
    · rw [show 0 + ((k : Nat) : Int).toNat = k by omega]
      refine cH18oG0 (σ := [.whole 0, .whole 1, .name 2, .whole 3, .whole 4, .name 5]) (nl := []) (cdata id per la q l c X (pS p) cq ((srtI p.rq).getD k default) at' hl) ?_
      rintro v h' ⟨rfl, rfl⟩ hcaps
      rw [show dat id l X (pS p) at' ((srtI p.rq).getD k default) = dat id l X p at' ((srtI p.rq).getD k default) from rfl]
      have hR1 := polR_succ id l X p at' (show k < p.rq.length by omega)
      generalize dat id l X p at' ((srtI p.rq).getD k default) = y at *
      refine ret_mk3 (by (try simp only [↓List.length_cons, ↓List.length_nil, Nat.reduceAdd]); rfl) (by (try simp (maxSteps := 1000000) only [givesF, setF, updF, Fam.zeroth, Fam.rk, Ck.rk, C.rk, E.rk, T.rk, key, List.map_cons, List.map_nil, List.cons_append, List.nil_append, List.length_cons, List.length_nil, Option.map_some, Option.bind_some, Nat.reduceAdd, Nat.zero_add, Nat.add_zero, Nat.add_sub_cancel_left, Int.toNat_natCast, reps, List.all_cons, List.all_nil, C.flat, List.append_eq, Bool.not_true, Bool.and_true, Bool.or_false, Bool.or_self, Bool.not_false, List.append_nil, Bool.and_self, ↓prC_rk, ↓rqO_rk, encPr, encP]); rfl) (by (try simp only [givesF, setF, updF, Fam.zeroth, Fam.rk, Ck.rk, C.rk, E.rk, T.rk, key, List.map_cons, List.map_nil, List.cons_append, List.nil_append, List.length_cons, List.length_nil, Option.map_some, Option.bind_some, Nat.reduceAdd, Nat.zero_add, Nat.add_zero, Nat.add_sub_cancel_left, Int.toNat_natCast, reps, List.all_cons, List.all_nil, C.flat, List.append_eq, Bool.not_true, Bool.and_true, Bool.or_false, Bool.or_self, Bool.not_false, List.append_nil, Bool.and_self, ↓prC_rk, ↓rqO_rk, encPr, encP]); rfl) ?_
      repeat' (first | (fail_if_success (with_reducible refine xstp ?_)); first | ((with_reducible refine And.intro ?_ ?_); focus exact xoC) | ((with_reducible refine Or.inl ⟨?_, ?_, ?_⟩); (focus rfl); focus exact xaC) | (with_reducible intro hc; (try simp only [capsP, and_true] at hc); (try exact xfC)) | ((fail_if_success (with_reducible first | refine xgon ?_ | intro _)); (conv => whnf); (fail_if_success (fail_if_success (with_reducible first | refine xstp ?_ | refine xgon ?_ | intro _)))))
      rename_i c2
      refine ⟨⟨⟨k + 1, by omega⟩, c2⟩, [0, 1, 2, 3, 4, 5, 8], by simp only; omega, ?_⟩
      simp only [hR1, ← List.append_assoc]
      (repeat' first | refine And.intro ?_ ?_ | exact xeC | fail)
      all_goals first
        | (simp only [List.length_append, List.length_cons, List.length_nil]; done)
        | (simp only [List.length_append, List.length_cons, List.length_nil]; exact Nat.le_refl _)
        | (intro i hi; exact app_rowG (encP .nils) (polB id X p at' ++ polR id l X p at' k) y _ rfl i hi)
        | skip
      all_goals trace_state
    obtain rfl : k = p.rq.length := by omega
    refine LoopK.mk' ({k : Nat // k ≤ (la - p.se).toNat} × Nat)
      (fun ⟨⟨k, _⟩, cc⟩ => ⟨[(0, .c (.p 0 0 0)), (1, .c (.p 4 0 0)), (2, .c (.i .i64 at')), (7, .c (.sl 6 0 11 0 (polB id X p at' ++ polR id l X p at' p.rq.length ++ polN id l X p at' k).length cc)), (10, .c (.i .i64 (p.se + 1 + (k : Int))))],
        [.one (wrc 1 2 id per la q), .one (hist 3 q l.length c), .one .no, .one (smps true l c), .one (.cells true (encPr 7 0 X (pE p) 0)), .one .no, .one (pkR true (polB id X p at' ++ polR id l X p at' p.rq.length ++ polN id l X p at' k) cc), .one (ints true [] 0)]⟩)
      (fun k => (la - p.se).toNat - k.1.1)
      ⟨⟨⟨0, Nat.zero_le _⟩, cc⟩, [0, 1, 2, 3, 4, 5, 6, 99], ?_⟩ ?_
    · have h1 : polB id X p at' ++ polR id l X p at' p.rq.length ++ polN id l X p at' 0 = polB id X p at' ++ polR id l X p at' p.rq.length := List.append_nil _
      (repeat' first | refine And.intro ?_ ?_ | exact xeC | fail)
      all_goals try rw [h1]
      all_goals first
        | rfl
        | exact Nat.le_refl _
        | exact (Int.add_zero _).symm
        | exact fun _ _ => rfl
        | skip
      all_goals trace_state
    rintro ⟨⟨k, hk⟩, cc⟩
    have hNl := polN_le id l X p at' k
    have hOl : (polB id X p at' ++ polR id l X p at' p.rq.length ++ polN id l X p at' k).length ≤ 1100001 := by rw [List.length_append, List.length_append]; have : (polR id l X p at' p.rq.length).length ≤ p.rq.length := polR_le id l X p at' _; omega
    repeat' (first | (fail_if_success (with_reducible refine xstp ?_)); first | ((with_reducible refine And.intro (fun (hb : _ = true) => ?_) (fun (hb : _ = false) => ?_)) <;> replace hb := xnC hb <;> (try first | exact xfC | exact bff hb (by assumption) | exact bff (by assumption) hb)) | ((with_reducible refine And.intro ?_ ?_); focus exact xoC) | ((with_reducible refine Or.inl ⟨?_, ?_, ?_⟩); (focus rfl); focus exact xaC) | (with_reducible intro hc; (try simp only [capsP, and_true] at hc); (try exact xfC)) | ((fail_if_success (with_reducible first | refine xgon ?_ | intro _)); (conv => whnf); (fail_if_success (fail_if_success (with_reducible first | refine xstp ?_ | refine xgon ?_ | intro _)))))
    · refine cH18oG0 (σ := [.whole 0, .whole 1, .name 2, .whole 3, .whole 4, .name 7]) (nl := []) (cdata id per la q l c X (pE p) 0 (p.se + 1 + (k : Int)) at' hl) ?_
      rintro v h' ⟨rfl, rfl⟩ hcaps
      rw [show dat id l X (pE p) at' (p.se + 1 + (k : Int)) = dat id l X p at' (p.se + 1 + (k : Int)) from rfl]
      have hN1 := polN_succ id l X p at' k
      unfold polN1 at hN1
      generalize dat id l X p at' (p.se + 1 + (k : Int)) = y at *
      refine ret_mk3 (by (try simp only [↓List.length_cons, ↓List.length_nil, Nat.reduceAdd]); rfl) (by (try simp (maxSteps := 1000000) only [givesF, setF, updF, Fam.zeroth, Fam.rk, Ck.rk, C.rk, E.rk, T.rk, key, List.map_cons, List.map_nil, List.cons_append, List.nil_append, List.length_cons, List.length_nil, Option.map_some, Option.bind_some, Nat.reduceAdd, Nat.zero_add, Nat.add_zero, Nat.add_sub_cancel_left, Int.toNat_natCast, reps, List.all_cons, List.all_nil, C.flat, List.append_eq, Bool.not_true, Bool.and_true, Bool.or_false, Bool.or_self, Bool.not_false, List.append_nil, Bool.and_self, ↓prC_rk, ↓rqO_rk, encPr, encP]); rfl) (by (try simp only [givesF, setF, updF, Fam.zeroth, Fam.rk, Ck.rk, C.rk, E.rk, T.rk, key, List.map_cons, List.map_nil, List.cons_append, List.nil_append, List.length_cons, List.length_nil, Option.map_some, Option.bind_some, Nat.reduceAdd, Nat.zero_add, Nat.add_zero, Nat.add_sub_cancel_left, Int.toNat_natCast, reps, List.all_cons, List.all_nil, C.flat, List.append_eq, Bool.not_true, Bool.and_true, Bool.or_false, Bool.or_self, Bool.not_false, List.append_nil, Bool.and_self, ↓prC_rk, ↓rqO_rk, encPr, encP]); rfl) ?_
      repeat' (first | (fail_if_success (with_reducible refine xstp ?_)); first | ((with_reducible refine And.intro (fun (hb : _ = true) => ?_) (fun (hb : _ = false) => ?_)) <;> replace hb := xnC hb <;> (try first | exact xfC | exact bff hb (by assumption) | exact bff (by assumption) hb)) | ((with_reducible refine And.intro ?_ ?_); focus exact xoC) | ((with_reducible refine Or.inl ⟨?_, ?_, ?_⟩); (focus rfl); focus exact xaC) | (with_reducible intro hc; (try simp only [capsP, and_true] at hc); (try exact xfC)) | ((fail_if_success (with_reducible first | refine xgon ?_ | intro _)); (conv => whnf); (fail_if_success (fail_if_success (with_reducible first | refine xstp ?_ | refine xgon ?_ | intro _)))))
      all_goals first
        | (have hcnd : p.rel = true ∨ y.k = 1 := by first | exact .inl ‹(pE p).rel = true› | exact .inr ‹y.k = 1›
           rw [if_pos hcnd] at hN1
           rename_i c2
           refine ⟨⟨⟨k + 1, by omega⟩, c2⟩, [0, 1, 2, 3, 4, 5, 10, 7], by simp only; omega, ?_⟩
           simp only [hN1, ← List.append_assoc]
           (repeat' first | refine And.intro ?_ ?_ | exact xeC | fail)
           all_goals first
             | (simp only [List.length_append, List.length_cons, List.length_nil]; done)
             | (simp only [List.length_append, List.length_cons, List.length_nil]; exact Nat.le_refl _)
             | (intro i hi; exact app_rowG (encP .nils) (polB id X p at' ++ polR id l X p at' p.rq.length ++ polN id l X p at' k) y _ rfl i hi)
             | (show p.se + 1 + (k : Int) + 1 = p.se + 1 + ((k + 1 : Nat) : Int); omega)
           done)
        | (have hc1 : ¬ y.k = 1 := ‹¬ y.k = 1›
           have hc2 : p.rel = false := ‹(pE p).rel = false›
           have hcnd : ¬ (p.rel = true ∨ y.k = 1) := fun h => h.elim (fun h => by rw [hc2] at h; cases h) hc1
           rw [if_neg hcnd, List.append_nil] at hN1
           refine ⟨⟨⟨k + 1, by omega⟩, cc⟩, [0, 1, 2, 3, 4, 5, 6, 7], by simp only; omega, ?_⟩
           simp only [hN1]
           (repeat' first | refine And.intro ?_ ?_ | exact xeC | fail)
           all_goals first
             | (show p.se + 1 + (k : Int) + 1 = p.se + 1 + ((k + 1 : Nat) : Int); omega)
           done)
        | skip
      all_goals trace_state
      all_goals stop
      all_goals skip
    rename Nat => c2
    all_goals have ek : k = (la - p.se).toNat := by omega
    all_goals subst ek
    · have hbe : beats p la at' := ⟨‹(pE p).rel = true›, ‹(pE p).ac < la›, ‹(pE p).bt ≤ at'›⟩
      have e1 : polL id l X p la at' = polB id X p at' ++ polR id l X p at' p.rq.length ++ polN id l X p at' (la - p.se).toNat ++ [hbK id X p la at'] := by unfold polL polH; rw [if_pos hbe]
      have e2 : polP per p la at' = ⟨p.nd, p.rel, p.st, p.ac, la, [], false, at' + per⟩ := by unfold polP; rw [if_pos hbe]
      rw [e1, e2]
      refine FinK.mk ⟨[0, 1, 2, 3, 4, 5, 9, 7], _, _, ⟨c2, rfl, rfl⟩, ?_⟩
      (repeat' first | refine And.intro ?_ ?_ | exact xeC | fail)
      all_goals first
        | (simp only [List.length_append, List.length_cons, List.length_nil]; done)
        | (simp only [List.length_append, List.length_cons, List.length_nil]; exact Nat.le_refl _)
        | (intro i hi; exact app_rowG (encP .nils) (polB id X p at' ++ polR id l X p at' p.rq.length ++ polN id l X p at' (la - p.se).toNat) (hbK id X p la at') _ rfl i hi)
        | skip
      all_goals trace_state
    all_goals (
      have hbe : ¬ beats p la at' := fun h => by
        have h1 : (pE p).rel = true := h.1
        have h2 : (pE p).ac < la := h.2.1
        have h3 : (pE p).bt ≤ at' := h.2.2
        first
          | omega
          | exact absurd h1 (by rw [‹(pE p).rel = false›]; simp)
      have e1 : polL id l X p la at' = polB id X p at' ++ polR id l X p at' p.rq.length ++ polN id l X p at' (la - p.se).toNat := by unfold polL polH; rw [if_neg hbe, List.append_nil]
      have e2 : polP per p la at' = ⟨p.nd, p.rel, p.st, p.ac, la, [], false, p.bt⟩ := by unfold polP; rw [if_neg hbe]
      rw [e1, e2]
      refine FinK.mk ⟨[0, 1, 2, 3, 4, 5, 6, 7], _, _, ⟨cc, rfl, rfl⟩, ?_⟩
      (repeat' first | refine And.intro ?_ ?_ | exact xeC | fail)
      all_goals trace_state
      skip)
end Go.Proofs.Ytofcadbfjbefkaa


namespace Go.Proofs.Ytofcadbfjbefkaa
open Go.X
set_option linter.unusedSimpArgs false
set_option linter.unusedVariables false
abbrev ptR (w : Bool) (F : Nat) (l : List Nat) (c : Nat) : Ck := .row w true 68 1 l.length c (fun i => [.p F (l.getD i default) 0])
def srtN (l : List Nat) : List Nat := l.mergeSort fun x y => decide (x ≤ y)
theorem srtN_of {l m : List Nat} (h1 : m.Pairwise (· ≤ ·)) (h2 : m.Perm l) : m = srtN l := by
  refine List.Perm.eq_of_pairwise (le := fun a b => a ≤ b) (fun a b _ _ h1 h2 => Nat.le_antisymm h1 h2) h1 ?_ (h2.trans (List.mergeSort_perm l _).symm)
  have := List.pairwise_mergeSort (le := fun x y : Nat => decide (x ≤ y)) (fun a b c => by simp; omega) (fun a b => by simp; omega) l
  exact this.imp fun h => of_decide_eq_true h
def KnB (D : Nat → Option Pr) (l : List Nat) : Prop := ∀ x ∈ l, (∃ p, D x = some p) ∧ x ≤ 1073741824
set_option maxRecDepth 10000 in
theorem ccmp (D : Nat → Option Pr) (cf : Nat → Nat) (x y : Nat) (hx : (∃ p, D x = some p) ∧ x ≤ 1073741824) (hy : (∃ p, D y = some p) ∧ y ≤ 1073741824) :
    Ctr Try.prog 41 [.c (.p 0 x 0), .c (.p 0 y 0)] [prs 1 D cf, .one .no] fun v h => v = .c (.i .i64 ((x : Int) - y)) ∧ h = [prs 1 D cf, .one .no] := by
  obtain ⟨⟨p, hp⟩, hx⟩ := hx
  obtain ⟨⟨p2, hp2⟩, hy⟩ := hy
  refine Ctr.mk' tbv mixed Try.func41 rfl rfl rfl (fun _ _ => by kernel_rfl) (by kernel_rfl) (by rfl) (by rfl) (by (repeat' first | refine And.intro ?_ ?_ | exact xeC | fail) <;> exact xmC) ?_
  repeat' (first | (fail_if_success (with_reducible refine xstp ?_)); first | (with_reducible intro hc; (try simp only [capsP, and_true] at hc); (try exact xfC)) | ((fail_if_success (with_reducible first | refine xgon ?_ | intro _)); (conv => whnf); (fail_if_success (fail_if_success (with_reducible first | refine xstp ?_ | refine xgon ?_ | intro _)))))
  all_goals try (
    refine ManyK.mk ⟨.cells true (encPr 1 x x p (cf x)), by simp only [hp]; rfl, ?_⟩
    repeat' (first | (fail_if_success (with_reducible refine xstp ?_)); first | ((fail_if_success (with_reducible first | refine xgon ?_ | intro _)); (conv => whnf); (fail_if_success (fail_if_success (with_reducible first | refine xstp ?_ | refine xgon ?_ | intro _)))))
    skip)
  all_goals try (
    refine ManyK.mk ⟨.cells true (encPr 1 y y p2 (cf y)), by simp only [hp2]; rfl, ?_⟩
    repeat' (first | (fail_if_success (with_reducible refine xstp ?_)); first | ((with_reducible refine And.intro ?_ ?_); focus exact xoC) | ((fail_if_success (with_reducible first | refine xgon ?_ | intro _)); (conv => whnf); (fail_if_success (fail_if_success (with_reducible first | refine xstp ?_ | refine xgon ?_ | intro _)))))
    skip)
  all_goals (
    refine FinK.mk ⟨[0, 1], _, _, ⟨rfl, rfl⟩, ?_⟩; (repeat' first | refine And.intro ?_ ?_ | exact xeC | fail)
    all_goals (exact xmC))
theorem fin_any {t : List (Nat × T)} {k : Int} : FinK 0 ⟨t, []⟩ (.c (.i .i64 k)) fun v h => ∃ k, v = .c (.i .i64 k) ∧ h = [] := by
  refine FinK.mk ⟨[], .c (.i .i64 k), [], ⟨k, rfl, rfl⟩, ?_⟩
  (repeat' first | refine And.intro ?_ ?_ | exact xeC | fail)
set_option maxRecDepth 10000 in
theorem cLen64 (n : Int) (h : 0 ≤ n ∧ n ≤ 12) : Ctr Try.prog 68 [.c (.i .u64 n)] [] fun v h => ∃ k, v = .c (.i .i64 k) ∧ h = [] := by
  refine Ctr.mk' tbv mixed Try.func68 rfl rfl rfl (fun _ _ => by kernel_rfl) (by kernel_rfl) (by rfl) (by rfl) (by (repeat' first | refine And.intro ?_ ?_ | exact xeC | fail)) ?_
  repeat' (first | (fail_if_success (with_reducible refine xstp ?_)); first | ((with_reducible refine And.intro (fun (hb : _ = true) => ?_) (fun (hb : _ = false) => ?_)) <;> replace hb := xnC hb <;> (try first | exact xfC | exact bff hb (by assumption) | exact bff (by assumption) hb)) | (with_reducible intro hc; (try simp only [capsP, and_true] at hc); (try exact xfC)) | ((fail_if_success (with_reducible first | refine xgon ?_ | intro _)); (conv => whnf); (fail_if_success (fail_if_success (with_reducible first | refine xstp ?_ | refine xgon ?_ | intro _)))))
  have hw : IntKind.u8.wrap n = n := by
    rw [IntKind.wrap_u8]; omega
  rw [hw]
  refine ⟨⟨h.1, ?_⟩, ?_⟩
  · show n < 256
    omega
  have hb8 : ∀ b : UInt8, In64 (0 + IntKind.i64.wrap ((b.toNat : Nat) : Int)) := fun b => by
    have hb := b.toNat_lt
    unfold In64
    rw [IntKind.wrap_i64]
    omega
  repeat' (first | (fail_if_success (with_reducible refine xstp ?_)); first | ((fail_if_success (with_reducible first | refine xgon ?_ | intro _)); (conv => whnf); (fail_if_success (fail_if_success (with_reducible first | refine xstp ?_ | refine xgon ?_ | intro _)))))
  refine ⟨hb8 _, ?_⟩
  repeat' (first | (fail_if_success (with_reducible refine xstp ?_)); first | ((fail_if_success (with_reducible first | refine xgon ?_ | intro _)); (conv => whnf); (fail_if_success (fail_if_success (with_reducible first | refine xstp ?_ | refine xgon ?_ | intro _)))))
  exact fin_any
theorem rH18oH0 {σ : List Sg} {H h' : List Fam} {v : T} {K : T → List Fam → Prop} {H' : List Fam} {v' : T} {N : Nat} (hk : K v' H') (hN : H.length = N := by (try simp only [↓List.length_cons, ↓List.length_nil, Nat.reduceAdd]) <;> rfl) (h : givesF σ N H σ h' = some H' := by (try simp (maxSteps := 1000000) only [givesF, setF, updF, Fam.zeroth, Fam.rk, Ck.rk, C.rk, E.rk, T.rk, key, List.map_cons, List.map_nil, List.cons_append, List.nil_append, List.length_cons, List.length_nil, Option.map_some, Option.bind_some, Nat.reduceAdd, Nat.zero_add, Nat.add_zero, Nat.add_sub_cancel_left, Int.toNat_natCast, reps, List.all_cons, List.all_nil, C.flat, List.append_eq, Bool.not_true, Bool.and_true, Bool.or_false, Bool.or_self, Bool.not_false, List.append_nil, Bool.and_self, ↓prC_rk, ↓rqO_rk]) <;> rfl) (hv : v.rk σ N = v' := by (try simp only [givesF, setF, updF, Fam.zeroth, Fam.rk, Ck.rk, C.rk, E.rk, T.rk, key, List.map_cons, List.map_nil, List.cons_append, List.nil_append, List.length_cons, List.length_nil, Option.map_some, Option.bind_some, Nat.reduceAdd, Nat.zero_add, Nat.add_zero, Nat.add_sub_cancel_left, Int.toNat_natCast, reps, List.all_cons, List.all_nil, C.flat, List.append_eq, Bool.not_true, Bool.and_true, Bool.or_false, Bool.or_self, Bool.not_false, List.append_nil, Bool.and_self, ↓prC_rk, ↓rqO_rk]) <;> rfl) : RetG σ H h' v K := ret_mk3 hN h hv hk
theorem cH18oH1 {P : Program} {F : Nat} {args : List T} {H : List Fam} {K : T → List Fam → Prop} {σ : List Sg} {nl : List Fam} {args0 : List T} {h0 : List Fam} {Q : T → List Fam → Prop} {H2 H1 : List Fam} {N n : Nat} (hc : Ctr P F args0 h0 Q) (hk : ∀ v h', Q v h' → capsP h' → RetG σ H2 h' v K) (hap : apart σ = true := by rfl) (hnl : nl.all nilB = true := by rfl) (h1 : H ++ nl = H1 := by first | exact List.append_nil _ | ((try simp only [List.cons_append, List.nil_append]) <;> rfl)) (hN : H1.length = N := by (try simp only [↓List.length_cons, ↓List.length_nil, Nat.reduceAdd]) <;> rfl) (hn : H.length = n := by (try simp only [↓List.length_cons, ↓List.length_nil, Nat.reduceAdd]) <;> rfl) (hH : givesF σ N H1 σ h0 = some H2 := by (try simp (maxSteps := 1000000) only [givesF, setF, updF, Fam.zeroth, Fam.rk, Ck.rk, C.rk, E.rk, T.rk, key, List.map_cons, List.map_nil, List.cons_append, List.nil_append, List.length_cons, List.length_nil, Option.map_some, Option.bind_some, Nat.reduceAdd, Nat.zero_add, Nat.add_zero, Nat.add_sub_cancel_left, Int.toNat_natCast, reps, List.all_cons, List.all_nil, C.flat, List.append_eq, Bool.not_true, Bool.and_true, Bool.or_false, Bool.or_self, Bool.not_false, List.append_nil, Bool.and_self, ↓prC_rk, ↓rqO_rk]) <;> rfl) (hle : leS n H1 σ N σ h0 (belsK N (h0.map (Fam.rk σ N)) (argsK n args (args0.map (T.rk σ N)) True)) := by repeat' first | refine And.intro ?_ ?_ | exact xeC | fail) : CallK P F args H K := CallK.mk3 hc hap hnl h1 hN hn hH hle hk
set_option maxRecDepth 10000 in
theorem cLen (n : Int) (h : 0 ≤ n ∧ n ≤ 12) : Ctr Try.prog 55 [.c (.i .u64 n)] [] fun v h => ∃ k, v = .c (.i .i64 k) ∧ h = [] := by
  refine Ctr.mk' tbv mixed Try.func55 rfl rfl rfl (fun _ _ => by kernel_rfl) (by kernel_rfl) (by rfl) (by rfl) (by (repeat' first | refine And.intro ?_ ?_ | exact xeC | fail)) ?_
  repeat' (first | (fail_if_success (with_reducible refine xstp ?_)); first | (with_reducible intro hc; (try simp only [capsP, and_true] at hc); (try exact xfC)) | ((fail_if_success (with_reducible first | refine xgon ?_ | intro _)); (conv => whnf); (fail_if_success (fail_if_success (with_reducible first | refine xstp ?_ | refine xgon ?_ | intro _)))))
  refine cH18oH1 (σ := []) (nl := []) (cLen64 n h) ?_
  rintro v h' ⟨k, rfl, rfl⟩ hcaps
  refine rH18oH0 ?_
  repeat' (first | (fail_if_success (with_reducible refine xstp ?_)); first | ((fail_if_success (with_reducible first | refine xgon ?_ | intro _)); (conv => whnf); (fail_if_success (fail_if_success (with_reducible first | refine xstp ?_ | refine xgon ?_ | intro _)))))
  refine FinK.mk ⟨[], _, _, ⟨k, rfl, rfl⟩, ?_⟩
  (repeat' first | refine And.intro ?_ ?_ | exact xeC | fail)
/-! ### insertion sort -/
theorem ins_next {A B : List Nat} {a x : Nat} (h : (A ++ [a] ++ B).Pairwise (· ≤ ·)) (hB : ∀ b ∈ B, x < b) (hx : x < a) : (∀ b ∈ a :: B, x < b) := fun b hb => by
  rcases List.mem_cons.1 hb with rfl | hb
  · exact hx
  · exact hB b hb
theorem ins_done {A B : List Nat} {x : Nat} (h : (A ++ B).Pairwise (· ≤ ·)) (hB : ∀ b ∈ B, x < b) (hA : ∀ a, A.getLast? = some a → a ≤ x) : (A ++ x :: B).Pairwise (· ≤ ·) := by
  rw [List.pairwise_append] at h ⊢
  refine ⟨h.1, List.pairwise_cons.2 ⟨fun b hb => Nat.le_of_lt (hB b hb), h.2.1⟩, fun a ha b hb => ?_⟩
  have hax : a ≤ x := by
    rcases List.eq_nil_or_concat A with rfl | ⟨A', y, rfl⟩
    · cases ha
    · have hy := hA y (by simp)
      have h1 := h.1
      simp only [List.concat_eq_append] at h1 ha
      rw [List.pairwise_append] at h1
      rcases List.mem_append.1 ha with ha | ha
      · exact Nat.le_trans (h1.2.2 a ha y (by simp)) hy
      · rw [List.mem_singleton.1 ha]; exact hy
  rcases List.mem_cons.1 hb with rfl | hb
  · exact hax
  · exact h.2.2 a ha b hb
theorem ins_perm {A B R l : List Nat} {x : Nat} (h : (A ++ B ++ x :: R).Perm l) : (A ++ x :: B ++ R).Perm l := by
  refine List.Perm.trans ?_ h
  rw [List.append_assoc, List.append_assoc]
  refine List.Perm.append_left A ?_
  show (x :: (B ++ R)).Perm (B ++ x :: R)
  exact List.perm_middle.symm
structure InsI (l : List Nat) (i : Nat) (S R : List Nat) : Prop where
  so : S.Pairwise (· ≤ ·)
  pe : (S ++ R).Perm l
  le : S.length = min i l.length
  po : 1 ≤ i
theorem ins_0 (l : List Nat) : InsI l 1 (l.take 1) (l.drop 1) := by
  refine ⟨?_, by rw [List.take_append_drop], by rw [List.length_take], Nat.le_refl _⟩
  cases l with
  | nil => exact List.Pairwise.nil
  | cons a l => simp
theorem sw_row {A B R : List Nat} {a x : Nat} (i : Nat) :
    (if i = A.length then [C.p 0 x 0] else if i = A.length + 1 then [C.p 0 a 0] else [C.p 0 ((A ++ [a] ++ x :: B ++ R).getD i default) 0]) = [C.p 0 ((A ++ x :: (a :: B) ++ R).getD i default) 0] := by
  by_cases h : i = A.length
  · rw [if_pos h, h]; simp [List.getD]
  · rw [if_neg h]
    by_cases h2 : i = A.length + 1
    · rw [if_pos h2, h2]; simp [List.getD, List.getElem?_append]
    · rw [if_neg h2]
      suffices e : (A ++ [a] ++ x :: B ++ R).getD i default = (A ++ x :: (a :: B) ++ R).getD i default by rw [e]
      simp only [List.getD, List.append_assoc, List.cons_append, List.nil_append]
      rcases Nat.lt_or_ge i A.length with h3 | h3
      · rw [List.getElem?_append_left h3, List.getElem?_append_left h3]
      · rw [List.getElem?_append_right h3, List.getElem?_append_right h3]
        obtain ⟨m, hm⟩ : ∃ m, i - A.length = m + 2 := ⟨i - A.length - 2, by omega⟩
        rw [hm]
        simp
set_option maxRecDepth 10000 in
set_option maxHeartbeats 8000000 in
theorem cinsert (D : Nat → Option Pr) (cf : Nat → Nat) (l : List Nat) (c : Nat) (hl : l.length ≤ 1000000) (hk : KnB D l) :
    Ctr Try.prog 59 [.c (.sl 2 0 1 0 l.length c), .c (.i .i64 0), .c (.i .i64 l.length), .c (.fn 41 [])] [prs 1 D cf, .one .no, .one (ptR true 0 l c)]
      fun v h => v = .t [] ∧ h = [prs 1 D cf, .one .no, .one (ptR true 0 (srtN l) c)] := by
  refine Ctr.mk' tbv mixed Try.func59 rfl rfl rfl (fun _ _ => by kernel_rfl) (by kernel_rfl) (by rfl) (by rfl) (by (repeat' first | refine And.intro ?_ ?_ | exact xeC | fail) <;> exact xmC) ?_
  repeat' (first | (fail_if_success (with_reducible refine xstp ?_)); first | ((with_reducible refine And.intro ?_ ?_); focus exact xoC) | (with_reducible intro hc; (try simp only [capsP, and_true] at hc); (try exact xfC)) | ((fail_if_success (with_reducible first | refine xgon ?_ | intro _)); (conv => whnf); (fail_if_success (fail_if_success (with_reducible first | refine xstp ?_ | refine xgon ?_ | intro _)))))
  refine LoopK.mk' {k : Nat × List Nat × List Nat // InsI l k.1 k.2.1 k.2.2}
    (fun ⟨(i, S, R), _⟩ => ⟨[(0, .c (.sl 2 0 1 0 l.length c)), (1, .c (.i .i64 0)), (2, .c (.i .i64 l.length)), (3, .c (.fn 41 [])), (8, .c (.i .i64 (i : Nat)))], [prs 1 D cf, .one .no, .one (ptR true 0 (S ++ R) c)]⟩) (fun k => l.length - k.1.1)
    ⟨⟨(1, l.take 1, l.drop 1), ins_0 l⟩, [0, 1, 2], ?_⟩ ?_
  · (repeat' first | refine And.intro ?_ ?_ | exact xeC | fail)
    all_goals first
      | (exact xmC)
      | (rw [List.take_append_drop]; done)
      | (rw [List.take_append_drop]; exact Nat.le_refl _)
      | (intro i hi; rw [List.take_append_drop]; rfl)
      | skip
    all_goals trace_state
  rintro ⟨⟨i, S, R⟩, hI⟩
  obtain ⟨hso, hpe, hle, hpo⟩ := hI
  simp only at hso hpe hle hpo
  have hlen := hpe.length_eq
  rw [List.length_append] at hlen
  repeat' (first | (fail_if_success (with_reducible refine xstp ?_)); first | ((with_reducible refine And.intro (fun (hb : _ = true) => ?_) (fun (hb : _ = false) => ?_)) <;> replace hb := xnC hb <;> (try first | exact xfC | exact bff hb (by assumption) | exact bff (by assumption) hb)) | (with_reducible intro hc; (try simp only [capsP, and_true] at hc); (try exact xfC)) | ((fail_if_success (with_reducible first | refine xgon ?_ | intro _)); (conv => whnf); (fail_if_success (fail_if_success (with_reducible first | refine xstp ?_ | refine xgon ?_ | intro _)))))
  rotate_left 1
  · have hR : R = [] := List.eq_nil_of_length_eq_zero (by omega)
    subst hR
    rw [List.append_nil] at hpe
    have e : S = srtN l := srtN_of hso hpe
    rw [← e]
    refine FinK.mk ⟨[0, 1, 2], _, _, ⟨rfl, rfl⟩, ?_⟩
    (repeat' first | refine And.intro ?_ ?_ | exact xeC | fail)
    all_goals first
      | (exact xmC)
      | (rw [List.append_nil]; done)
      | (rw [List.append_nil]; exact Nat.le_refl _)
      | (intro i hi; rw [List.append_nil]; rfl)
      | skip
    all_goals trace_state
  have hil : i < l.length := by omega
  obtain ⟨x, R', rfl⟩ : ∃ x R', R = x :: R' := by
    cases R with
    | nil => simp at hlen; omega
    | cons x R' => exact ⟨x, R', rfl⟩
  have hSi : S.length = i := by omega
  have hxk := hk x (hpe.subset (by simp))
  refine LoopK.mk' {k : List Nat × List Nat // k.1 ++ k.2 = S ∧ ∀ b ∈ k.2, x < b}
    (fun ⟨(A, B), _⟩ => ⟨[(0, .c (.sl 2 0 1 0 l.length c)), (1, .c (.i .i64 0)), (2, .c (.i .i64 l.length)), (3, .c (.fn 41 [])), (8, .c (.i .i64 (i : Nat))), (9, .c (.i .i64 (A.length : Nat)))], [prs 1 D cf, .one .no, .one (ptR true 0 (A ++ x :: B ++ R') c)]⟩) (fun k => k.1.1.length)
    ⟨⟨(S, []), ⟨List.append_nil _, by simp⟩⟩, [0, 1, 2], ?_⟩ ?_
  · (repeat' first | refine And.intro ?_ ?_ | exact xeC | fail)
    all_goals first
      | (exact xmC)
      | (rw [List.append_assoc]; rfl)
      | (rw [List.append_assoc]; exact Nat.le_refl _)
      | (intro i hi; rw [List.append_assoc]; rfl)
      | (show (i : Int) = S.length; omega)
      | skip
    all_goals trace_state
  rintro ⟨⟨A, B⟩, hAB, hB⟩
  simp only at hAB hB
  subst hAB
  have hll : (A ++ x :: B ++ R').length = l.length := by simp at hlen ⊢; omega
  have hall : (A ++ x :: B ++ R').length ≤ 1000000 := by omega
  have hAl : A.length + B.length = i := by rw [← hSi, List.length_append]
  obtain rfl | ⟨A', a, rfl⟩ : A = [] ∨ ∃ A' a, A = A' ++ [a] := by
    rcases List.eq_nil_or_concat A with h | ⟨A', a, h⟩
    · exact .inl h
    · exact .inr ⟨A', a, by rw [h, List.concat_eq_append]⟩
  · have h00 : ([] : List Nat).length = 0 := rfl
    repeat' (first | (fail_if_success (with_reducible refine xstp ?_)); first | ((with_reducible refine And.intro (fun (hb : _ = true) => ?_) (fun (hb : _ = false) => ?_)) <;> replace hb := xnC hb <;> (try first | exact xfC | exact bff hb (by assumption) | exact bff (by assumption) hb)) | ((with_reducible refine And.intro ?_ ?_); focus exact xoC) | (with_reducible intro hc; (try simp only [capsP, and_true] at hc); (try exact xfC)) | ((fail_if_success (with_reducible first | refine xgon ?_ | intro _)); (conv => whnf); (fail_if_success (fail_if_success (with_reducible first | refine xstp ?_ | refine xgon ?_ | intro _)))))
    have hI2 : InsI l (i + 1) ([] ++ x :: B) R' := ⟨ins_done hso hB (fun a h => by cases h), ins_perm hpe, by simp at hSi ⊢; omega, by omega⟩
    refine ⟨⟨(i + 1, [] ++ x :: B, R'), hI2⟩, [0, 1, 2], by simp only; omega, ?_⟩
    (repeat' first | refine And.intro ?_ ?_ | exact xeC | fail)
    all_goals first | (exact xmC) | skip
    all_goals trace_state
  · have hak := hk a (hpe.subset (by simp))
    have hjl : (A' ++ [a]).length = A'.length + 1 := by simp
    have e1 : (A' ++ [a] ++ x :: B ++ R').getD (0 + (((A' ++ [a]).length : Nat) : Int).toNat) default = x := by
      rw [show 0 + (((A' ++ [a]).length : Nat) : Int).toNat = A'.length + 1 by omega]
      simp [List.getD, List.getElem?_append]
    have e2 : (A' ++ [a] ++ x :: B ++ R').getD (0 + ((((A' ++ [a]).length : Nat) : Int) - 1).toNat) default = a := by
      rw [show 0 + ((((A' ++ [a]).length : Nat) : Int) - 1).toNat = A'.length by omega]
      simp [List.getD, List.getElem?_append]
    repeat' (first | (fail_if_success (with_reducible refine xstp ?_)); first | ((with_reducible refine And.intro (fun (hb : _ = true) => ?_) (fun (hb : _ = false) => ?_)) <;> replace hb := xnC hb <;> (try first | exact xfC | exact bff hb (by assumption) | exact bff (by assumption) hb)) | ((with_reducible refine And.intro ?_ ?_); focus exact xoC) | (with_reducible intro hc; (try simp only [capsP, and_true] at hc); (try exact xfC)) | ((fail_if_success (with_reducible first | refine xgon ?_ | intro _)); (conv => whnf); (fail_if_success (fail_if_success (with_reducible first | refine xstp ?_ | refine xgon ?_ | intro _)))))
    rw [e1, e2]
    refine cH18oH1 (σ := [.whole 0, .name 1]) (nl := []) (ccmp D cf x a hxk hak) ?_ (hle := by (repeat' first | refine And.intro ?_ ?_ | exact xeC | fail) <;> exact xmC)
    rintro v h' ⟨rfl, rfl⟩ hcaps
    refine rH18oH0 ?_
    repeat' (first | (fail_if_success (with_reducible refine xstp ?_)); first | ((with_reducible refine And.intro (fun (hb : _ = true) => ?_) (fun (hb : _ = false) => ?_)) <;> replace hb := xnC hb <;> (try first | exact xfC | exact bff hb (by assumption) | exact bff (by assumption) hb)) | ((with_reducible refine And.intro ?_ ?_); focus exact xoC) | ((fail_if_success (with_reducible first | refine xgon ?_ | intro _)); (conv => whnf); (fail_if_success (fail_if_success (with_reducible first | refine xstp ?_ | refine xgon ?_ | intro _)))))
    · have hxa : x < a := by omega
      rw [e2]
      repeat' (first | (fail_if_success (with_reducible refine xstp ?_)); first | ((with_reducible refine And.intro (fun (hb : _ = true) => ?_) (fun (hb : _ = false) => ?_)) <;> replace hb := xnC hb <;> (try first | exact xfC | exact bff hb (by assumption) | exact bff (by assumption) hb)) | (with_reducible refine Both.mk ?_ ?_) | ((with_reducible refine And.intro ?_ ?_); focus exact xoC) | ((with_reducible refine Or.inl ⟨?_, ?_, ?_⟩); (focus rfl); focus exact xaC) | ((with_reducible refine xwB ?_ ?_); focus exact xaC) | ((with_reducible refine xwC ?_ ?_); focus exact xaC) | ((with_reducible refine xwD ?_ ?_); focus exact xaC) | ((with_reducible refine xwE ?_ ?_); focus exact xaC) | (with_reducible intro hc; (try simp only [capsP, and_true] at hc); (try exact xfC)) | ((fail_if_success (with_reducible first | refine xgon ?_ | intro _)); (conv => whnf); (fail_if_success (fail_if_success (with_reducible first | refine xstp ?_ | refine Both.mk ?_ ?_ | refine xgon ?_ | intro _)))))
      have e3 : (fun i => if i = 0 + (((A' ++ [a]).length : Nat) : Int).toNat then [C.p 0 a 0] else (fun i => [C.p 0 ((A' ++ [a] ++ x :: B ++ R').getD i default) 0]) i) (0 + ((((A' ++ [a]).length : Nat) : Int) - 1).toNat) = [C.p 0 a 0] := by
        show (if _ then _ else _) = _
        rw [if_neg (by omega)]
        show [C.p 0 ((A' ++ [a] ++ x :: B ++ R').getD _ default) 0] = _
        rw [e2]
      rw [e1, e3]
      repeat' (first | (fail_if_success (with_reducible refine xstp ?_)); first | ((with_reducible refine And.intro ?_ ?_); focus exact xoC) | ((fail_if_success (with_reducible first | refine xgon ?_ | intro _)); (conv => whnf); (fail_if_success (fail_if_success (with_reducible first | refine xstp ?_ | refine xgon ?_ | intro _)))))
      refine ⟨⟨(A', a :: B), ⟨by simp, ins_next hso hB hxa⟩⟩, [0, 1, 2], by simp only; omega, ?_⟩
      (repeat' first | refine And.intro ?_ ?_ | exact xeC | fail)
      all_goals first
        | (exact xmC)
        | omega
        | (simp only [List.length_append, List.length_cons, List.length_nil]; omega)
        | (intro i hi
           have s1 : 0 + ((((A' ++ [a]).length : Nat) : Int) - 1).toNat = A'.length := by omega
           have s2 : 0 + (((A' ++ [a]).length : Nat) : Int).toNat = A'.length + 1 := by omega
           rw [s1, s2]
           exact sw_row i)
    · have hxa : a ≤ x := by omega
      have hI2 : InsI l (i + 1) (A' ++ [a] ++ x :: B) R' := ⟨ins_done hso hB (fun b h => by simp at h; omega), ins_perm hpe, by simp at hSi ⊢; omega, by omega⟩
      refine ⟨⟨(i + 1, A' ++ [a] ++ x :: B, R'), hI2⟩, [0, 1, 2], by simp only; omega, ?_⟩
      (repeat' first | refine And.intro ?_ ?_ | exact xeC | fail)
      all_goals (exact xmC)
set_option maxRecDepth 10000 in
set_option maxHeartbeats 8000000 in
theorem cpdq (D : Nat → Option Pr) (cf : Nat → Nat) (l : List Nat) (c : Nat) (lim : Int) (hl : l.length ≤ 12) (hk : KnB D l) :
    Ctr Try.prog 54 [.c (.sl 2 0 1 0 l.length c), .c (.i .i64 0), .c (.i .i64 l.length), .c (.i .i64 lim), .c (.fn 41 [])] [prs 1 D cf, .one .no, .one (ptR true 0 l c)]
      fun v h => v = .t [] ∧ h = [prs 1 D cf, .one .no, .one (ptR true 0 (srtN l) c)] := by
  refine Ctr.mk' tbv mixed Try.func54 rfl rfl rfl (fun _ _ => by kernel_rfl) (by kernel_rfl) (by rfl) (by rfl) (by (repeat' first | refine And.intro ?_ ?_ | exact xeC | fail) <;> exact xmC) ?_
  repeat' (first | (fail_if_success (with_reducible refine xstp ?_)); first | (with_reducible intro hc; (try simp only [capsP, and_true] at hc); (try exact xfC)) | ((fail_if_success (with_reducible first | refine xgon ?_ | intro _)); (conv => whnf); (fail_if_success (fail_if_success (with_reducible first | refine xstp ?_ | refine xgon ?_ | intro _)))))
  refine LoopK.mk' Unit (fun _ => ⟨[(0, .c (.sl 2 0 1 0 l.length c)), (1, .c (.i .i64 0)), (2, .c (.i .i64 l.length)), (4, .c (.fn 41 []))], [prs 1 D cf, .one .no, .one (ptR true 0 l c)]⟩) (fun _ => 0) ⟨(), [0, 1, 2], ?_⟩ ?_
  · (repeat' first | refine And.intro ?_ ?_ | exact xeC | fail)
    all_goals (exact xmC)
  rintro ⟨⟩
  repeat' (first | (fail_if_success (with_reducible refine xstp ?_)); first | ((with_reducible refine And.intro (fun (hb : _ = true) => ?_) (fun (hb : _ = false) => ?_)) <;> replace hb := xnC hb <;> (try first | exact xfC | exact bff hb (by assumption) | exact bff (by assumption) hb)) | ((with_reducible refine And.intro ?_ ?_); focus exact xoC) | (with_reducible intro hc; (try simp only [capsP, and_true] at hc); (try exact xfC)) | ((fail_if_success (with_reducible first | refine xgon ?_ | intro _)); (conv => whnf); (fail_if_success (fail_if_success (with_reducible first | refine xstp ?_ | refine xgon ?_ | intro _)))))
  refine cH18oH1 (σ := [.whole 0, .name 1, .whole 2]) (nl := []) (cinsert D cf l c (by omega) hk) ?_ (hle := by (repeat' first | refine And.intro ?_ ?_ | exact xeC | fail) <;> exact xmC)
  rintro v h' ⟨rfl, rfl⟩ hcaps
  refine rH18oH0 ?_
  repeat' (first | (fail_if_success (with_reducible refine xstp ?_)); first | ((fail_if_success (with_reducible first | refine xgon ?_ | intro _)); (conv => whnf); (fail_if_success (fail_if_success (with_reducible first | refine xstp ?_ | refine xgon ?_ | intro _)))))
  refine FinK.mk ⟨[0, 1, 2], _, _, ⟨rfl, rfl⟩, ?_⟩
  (repeat' first | refine And.intro ?_ ?_ | exact xeC | fail)
  all_goals (exact xmC)
set_option maxRecDepth 10000 in
set_option maxHeartbeats 8000000 in
theorem csortF (D : Nat → Option Pr) (cf : Nat → Nat) (l : List Nat) (c : Nat) (hl : l.length ≤ 12) (hk : KnB D l) :
    Ctr Try.prog 40 [.c (.sl 2 0 1 0 l.length c), .c (.fn 41 [])] [prs 1 D cf, .one .no, .one (ptR true 0 l c)]
      fun v h => v = .t [] ∧ h = [prs 1 D cf, .one .no, .one (ptR true 0 (srtN l) c)] := by
  refine Ctr.mk' tbv mixed Try.func40 rfl rfl rfl (fun _ _ => by kernel_rfl) (by kernel_rfl) (by rfl) (by rfl) (by (repeat' first | refine And.intro ?_ ?_ | exact xeC | fail) <;> exact xmC) ?_
  repeat' (first | (fail_if_success (with_reducible refine xstp ?_)); first | (with_reducible intro hc; (try simp only [capsP, and_true] at hc); (try exact xfC)) | ((fail_if_success (with_reducible first | refine xgon ?_ | intro _)); (conv => whnf); (fail_if_success (fail_if_success (with_reducible first | refine xstp ?_ | refine xgon ?_ | intro _)))))
  have hw : IntKind.u64.wrap (l.length : Int) = l.length := by rw [IntKind.wrap_u64]; omega
  rw [hw]
  refine cH18oH1 (σ := []) (nl := []) (cLen (l.length : Int) (by omega)) ?_
  rintro v h' ⟨lim, rfl, rfl⟩ hcaps
  refine rH18oH0 ?_
  repeat' (first | (fail_if_success (with_reducible refine xstp ?_)); first | ((fail_if_success (with_reducible first | refine xgon ?_ | intro _)); (conv => whnf); (fail_if_success (fail_if_success (with_reducible first | refine xstp ?_ | refine xgon ?_ | intro _)))))
  refine cH18oH1 (σ := [.whole 0, .name 1, .whole 2]) (nl := []) (cpdq D cf l c lim hl hk) ?_ (hle := by (repeat' first | refine And.intro ?_ ?_ | exact xeC | fail) <;> exact xmC)
  rintro v h' ⟨rfl, rfl⟩ hcaps
  refine rH18oH0 ?_
  repeat' (first | (fail_if_success (with_reducible refine xstp ?_)); first | ((fail_if_success (with_reducible first | refine xgon ?_ | intro _)); (conv => whnf); (fail_if_success (fail_if_success (with_reducible first | refine xstp ?_ | refine xgon ?_ | intro _)))))
  refine FinK.mk ⟨[0, 1, 2], _, _, ⟨rfl, rfl⟩, ?_⟩
  (repeat' first | refine And.intro ?_ ?_ | exact xeC | fail)
  all_goals (exact xmC)
/-! ### sorted -/
def numW (W : Ws) : List Nat := W.M.map fun e => e.2.toNat
theorem srtN_perm {l m : List Nat} (h : l.Perm m) : srtN l = srtN m := by
  refine srtN_of ?_ ((List.mergeSort_perm l _).trans h)
  have := List.pairwise_mergeSort (le := fun x y : Nat => decide (x ≤ y)) (fun a b c => by simp; omega) (fun a b => by simp; omega) l
  exact this.imp fun h => of_decide_eq_true h
theorem srt_num {W : Ws} {Q : List Nat} (hW : WOk W) (hQ : Seen W Q) (hall : ∀ i, i < W.M.length → i ∈ Q) : srtN (Q.map fun i => (W.M.getD i default).2.toNat) = srtN (numW W) := by
  have h1 : Q.Perm (List.range W.M.length) := (List.perm_ext_iff_of_nodup hQ.nd List.nodup_range).2 fun i => ⟨fun h => List.mem_range.2 (hQ.lt i h), fun h => hall i (List.mem_range.1 h)⟩
  have h2 : numW W = (List.range W.M.length).map fun i => (W.M.getD i default).2.toNat := by
    unfold numW
    apply List.ext_getElem (by simp)
    intro i h1 h2
    simp only [List.getElem_map, List.getElem_range]
    rw [getD_at (by simpa using h1)]
  rw [h2]
  exact srtN_perm (h1.map _)
set_option maxRecDepth 10000 in
set_option maxHeartbeats 8000000 in
theorem csorted (id per la : Int) (q : Qos) (W : Ws) (cf : Nat → Nat) (hW : WOk W) (hM : W.M.length ≤ 12) :
    Ctr Try.prog 26 [.c (.p 0 0 0)] [.one (wrc 1 2 id per la q), .one .no, .one (peM 3 W.M W.ck), prs 4 W.D cf, .one .no]
      fun v h => ∃ c, v = .c (.sl 5 0 1 0 (srtN (numW W)).length c) ∧ h = [.one (wrc 1 2 id per la q), .one .no, .one (peM 3 W.M W.ck), prs 4 W.D cf, .one .no, .one (ptR true 3 (srtN (numW W)) c)] := by
  refine Ctr.mk' tbv mixed Try.func26 rfl rfl rfl (fun _ _ => by kernel_rfl) (by kernel_rfl) (by rfl) (by rfl) (by (repeat' first | refine And.intro ?_ ?_ | exact xeC | fail) <;> exact xmC) ?_
  repeat' (first | (fail_if_success (with_reducible refine xstp ?_)); first | (with_reducible intro hc; (try simp only [capsP, and_true] at hc); (try exact xfC)) | ((fail_if_success (with_reducible first | refine xgon ?_ | intro _)); (conv => whnf); (fail_if_success (fail_if_success (with_reducible first | refine xstp ?_ | refine xgon ?_ | intro _)))))
  refine LoopK.mk' ({Q : List Nat // Seen W Q} × Nat)
    (fun ⟨⟨Q, _⟩, c⟩ => ⟨[(3, .c (.sl 6 0 1 0 (Q.map fun i => (W.M.getD i default).2.toNat).length c)), (10, .c (.p 5 0 0))], [.one (wrc 1 2 id per la q), .one .no, .one (peM 3 W.M W.ck), prs 4 W.D cf, .one .no, .one (.iter 2 0 W.ck (Q.map fun q => (W.M.getD q default).1)), .one (ptR true 3 (Q.map fun i => (W.M.getD i default).2.toNat) c)]⟩) (fun Q => W.M.length - Q.1.1.length)
    ⟨⟨⟨[], ⟨by simp, by simp⟩⟩, 0⟩, [0, 1, 2, 3, 4, 5, 99], ?_⟩ ?_
  · (repeat' first | refine And.intro ?_ ?_ | exact xeC | fail)
    all_goals first | (exact xmC) | (intro i hi; exact absurd hi (Nat.not_lt_zero i)) | skip
    all_goals trace_state
  rintro ⟨⟨Q, hQ⟩, c⟩
  have hQl := hQ.le
  have hlm : (Q.map fun i => (W.M.getD i default).2.toNat).length = Q.length := List.length_map _
  repeat' (first | (fail_if_success (with_reducible refine xstp ?_)); first | (with_reducible refine Both.mk ?_ ?_) | ((with_reducible refine And.intro ?_ ?_); focus exact xoC) | (with_reducible intro hc; (try simp only [capsP, and_true] at hc); (try exact xfC)) | ((fail_if_success (with_reducible first | refine xgon ?_ | intro _)); (conv => whnf); (fail_if_success (fail_if_success (with_reducible first | refine xstp ?_ | refine Both.mk ?_ ?_ | refine xgon ?_ | intro _)))))
  · rename_i i hi
    have hQ' := hQ.next hi hc
    have hQl' := hQ'.le
    rw [List.length_append, List.length_singleton] at hQl'
    repeat' (first | (fail_if_success (with_reducible refine xstp ?_)); first | ((with_reducible refine And.intro (fun (hb : _ = true) => ?_) (fun (hb : _ = false) => ?_)) <;> replace hb := xnC hb <;> (try first | exact xfC | exact bff hb (by assumption) | exact bff (by assumption) hb)) | (with_reducible refine Both.mk ?_ ?_) | ((with_reducible refine And.intro ?_ ?_); focus exact xoC) | ((with_reducible refine Or.inl ⟨?_, ?_, ?_⟩); (focus rfl); focus exact xaC) | ((with_reducible refine xwB ?_ ?_); focus exact xaC) | ((with_reducible refine xwC ?_ ?_); focus exact xaC) | ((with_reducible refine xwD ?_ ?_); focus exact xaC) | ((with_reducible refine xwE ?_ ?_); focus exact xaC) | (with_reducible intro hc; (try simp only [capsP, and_true] at hc); (try exact xfC)) | ((fail_if_success (with_reducible first | refine xgon ?_ | intro _)); (conv => whnf); (fail_if_success (fail_if_success (with_reducible first | refine xstp ?_ | refine Both.mk ?_ ?_ | refine xgon ?_ | intro _)))))
    refine ⟨i, hi, List.getLast?_concat, ?_⟩
    repeat' (first | (fail_if_success (with_reducible refine xstp ?_)); first | ((with_reducible refine And.intro ?_ ?_); focus exact xoC) | ((with_reducible refine Or.inl ⟨?_, ?_, ?_⟩); (focus rfl); focus exact xaC) | (with_reducible intro hc; (try simp only [capsP, and_true] at hc); (try exact xfC)) | ((fail_if_success (with_reducible first | refine xgon ?_ | intro _)); (conv => whnf); (fail_if_success (fail_if_success (with_reducible first | refine xstp ?_ | refine xgon ?_ | intro _)))))
    rename_i c2
    refine ⟨⟨⟨Q ++ [i], hQ'⟩, c2⟩, [0, 1, 2, 3, 4, 5, 8], by simp only [List.length_append, List.length_singleton]; omega, ?_⟩
    (repeat' first | refine And.intro ?_ ?_ | exact xeC | fail)
    all_goals first
      | (exact xmC)
      | (rw [List.map_append]; rfl)
      | (simp only [List.map_append, List.length_append, List.length_map, List.map_cons, List.map_nil, List.length_cons, List.length_nil]; done)
      | (simp only [List.map_append, List.length_append, List.length_map, List.map_cons, List.map_nil, List.length_cons, List.length_nil]; omega)
      | (intro a ha
         rw [List.map_append] at ha
         show _ = [C.p 3 ((List.map (fun i => (W.M.getD i default).2.toNat) (Q ++ [i])).getD a default) 0]
         rw [List.map_append]
         exact app_rowG (fun x => [C.p 3 x 0]) (Q.map fun i => (W.M.getD i default).2.toNat) (W.M.getD i default).2.toNat _ rfl a ha)
      | skip
    all_goals trace_state
  · have hall := hQ.all hW hc
    have hke : KnB W.D (Q.map fun i => (W.M.getD i default).2.toNat) := fun x hx => by
      obtain ⟨i, hi, rfl⟩ := List.mem_map.1 hx
      have := hW.a i (hQ.lt i hi)
      exact ⟨this.2, by omega⟩
    have hsr := srt_num hW hQ hall
    refine cH18oH1 (σ := [.whole 3, .name 4, .whole 6]) (nl := []) (csortF W.D cf (Q.map fun i => (W.M.getD i default).2.toNat) c (by omega) hke) ?_ (hle := by (repeat' first | refine And.intro ?_ ?_ | exact xeC | fail) <;> exact xmC)
    rintro v h' ⟨rfl, rfl⟩ hcaps
    rw [hsr]
    refine rH18oH0 ?_
    repeat' (first | (fail_if_success (with_reducible refine xstp ?_)); first | ((fail_if_success (with_reducible first | refine xgon ?_ | intro _)); (conv => whnf); (fail_if_success (fail_if_success (with_reducible first | refine xstp ?_ | refine xgon ?_ | intro _)))))
    have hlen2 : (srtN (numW W)).length = (Q.map fun i => (W.M.getD i default).2.toNat).length := by rw [← hsr]; exact List.length_mergeSort _
    refine FinK.mk ⟨[0, 1, 2, 3, 4, 6], _, _, ⟨c, rfl, rfl⟩, ?_⟩
    (repeat' first | refine And.intro ?_ ?_ | exact xeC | fail)
    all_goals first
      | (exact xmC)
      | exact hlen2
      | exact hlen2.symm
      | exact Nat.le_of_eq hlen2
      | skip
    all_goals trace_state
end Go.Proofs.Ytofcadbfjbefkaa


namespace Go.Proofs.Ytofcadbfjbefkaa
open Go.X
set_option linter.unusedSimpArgs false
set_option linter.unusedVariables false
def polF1 (id : Int) (l : List Smp) (la at' : Int) (D : Nat → Option Pr) (x : Nat) : List Pk := match D x with | some p => polL id l x p la at' | none => []
def polF (id : Int) (l : List Smp) (la at' : Int) (D : Nat → Option Pr) (L : List Nat) : List Pk := L.flatMap (polF1 id l la at' D)
def polD (per la at' : Int) (D : Nat → Option Pr) (L : List Nat) : Nat → Option Pr := fun y => if y ∈ L then (D y).map fun p => polP per p la at' else D y
def polC (cf : Nat → Nat) (L : List Nat) : Nat → Nat := fun y => if y ∈ L then 0 else cf y
def atOk (at' : Int) : Prop := 0 ≤ at' ∧ at' ≤ 1099511627776
instance (a : Int) : Decidable (atOk a) := by unfold atOk; infer_instance
/-- What Poll sends, and leaves. -/
def poL (id : Int) (q : Qos) (at' : Int) (W : Ws) : List Pk := if atOk at' then polF id (stay q W.l at') W.la at' W.D (srtN (numW W)) else []
def poW (per : Int) (q : Qos) (at' : Int) (W : Ws) : Ws := if atOk at' then ⟨stay q W.l at', W.la, W.M, W.ck, polD per W.la at' W.D (srtN (numW W))⟩ else W
abbrev wP (id per : Int) (q : Qos) (W : Ws) (c : Nat) (cf : Nat → Nat) (o : List Pk) (co : Nat) : List Fam :=
  [.one (wrc 1 2 id per W.la q), .one (hist 6 q W.l.length c), .one (peM 4 W.M W.ck), .one .no, prs 7 W.D cf, .one .no, .one (smps true W.l c), rqs W.D cf, .one (pkR true o co)]
theorem polF_succ (id : Int) (l : List Smp) (la at' : Int) (D : Nat → Option Pr) (L : List Nat) {k : Nat} (hk : k < L.length) : polF id l la at' D (L.take (k + 1)) = polF id l la at' D (L.take k) ++ polF1 id l la at' D (L.getD k default) := by
  unfold polF
  rw [← List.take_append_getElem hk, List.flatMap_append, getD_at hk]
  simp
theorem polL_le {id : Int} {l : List Smp} {X : Nat} {p : Pr} {la at' : Int} (hp : PrOk la p) (hla : 0 ≤ la ∧ la ≤ 1000000) : (polL id l X p la at').length ≤ 1100003 := by
  have h1 := polB_le id X p at'
  have h2 := polR_le id l X p at' p.rq.length
  have h3 := polN_le id l X p at' (la - p.se).toNat
  have h4 : (polH id X p la at').length ≤ 1 := by unfold polH; split <;> simp
  have h5 := hp.rq
  have h6 := hp.se
  unfold polL
  simp only [List.length_append]
  omega
theorem polF_le {id : Int} {l : List Smp} {la at' : Int} {D : Nat → Option Pr} (hD : ∀ y p, D y = some p → PrOk la p) (hla : 0 ≤ la ∧ la ≤ 1000000) : ∀ L : List Nat, (polF id l la at' D L).length ≤ 1100003 * L.length
  | [] => Nat.le_refl _
  | x :: L => by
    have ih := polF_le (id := id) (l := l) (at' := at') hD hla L
    have h1 : (polF1 id l la at' D x).length ≤ 1100003 := by
      unfold polF1
      cases h : D x with
      | none => exact Nat.zero_le _
      | some p => exact polL_le (hD x p h) hla
    unfold polF at ih ⊢
    rw [List.flatMap_cons, List.length_append, List.length_cons]
    omega
theorem srt_nd {W : Ws} (hW : WOk W) : (srtN (numW W)).Nodup := by
  refine (List.mergeSort_perm _ _).nodup_iff.2 ?_
  unfold numW
  rw [List.nodup_iff_pairwise_ne, List.pairwise_map, List.pairwise_iff_getElem]
  intro i j hi hj hij e
  have h1 := hW.ne i j hij hj
  have h2 := (hW.a i hi).1
  have h3 := (hW.a j hj).1
  rw [getD_at hi] at h1 h2
  rw [getD_at hj] at h1 h3
  omega
theorem prs_set2 {N N' F F' X : Nat} {σ : List Sg} {D D' : Nat → Option Pr} {cf cf' : Nat → Nat} {c0 c1 : Ck} (hk : ∀ x, x ≠ X → key σ N' F x = (F', x)) (hD : ∀ y, y ≠ X → D' y = D y) (hc : ∀ y, y ≠ X → cf' y = cf y)
    (h1 : c1.leK N ((prC F X X (D' X) (cf' X)).rk σ N') True) (y : Nat) : (if y = X then c1 else if y = X then c0 else prC F' y y (D y) (cf y)).leK N ((prC F y y (D' y) (cf' y)).rk σ N') True := by
  by_cases h : y = X
  · subst h; rw [if_pos rfl]; exact h1
  · rw [if_neg h, if_neg h, hD y h, hc y h]; exact prC_le (hk y h)
theorem stay_le (q : Qos) (l : List Smp) (t : Int) : (stay q l t).length ≤ l.length := List.length_filter_le _ _
theorem rH18oI0 {σ : List Sg} {H h' : List Fam} {v : T} {K : T → List Fam → Prop} {H' : List Fam} {v' : T} {N : Nat} (hk : K v' H') (hN : H.length = N := by (try simp only [↓List.length_cons, ↓List.length_nil, Nat.reduceAdd]) <;> rfl) (h : givesF σ N H σ h' = some H' := by (try simp (maxSteps := 1000000) only [givesF, setF, updF, Fam.zeroth, Fam.rk, Ck.rk, C.rk, E.rk, T.rk, key, List.map_cons, List.map_nil, List.cons_append, List.nil_append, List.length_cons, List.length_nil, Option.map_some, Option.bind_some, Nat.reduceAdd, Nat.zero_add, Nat.add_zero, Nat.add_sub_cancel_left, Int.toNat_natCast, reps, List.all_cons, List.all_nil, C.flat, List.append_eq, Bool.not_true, Bool.and_true, Bool.or_false, Bool.or_self, Bool.not_false, List.append_nil, Bool.and_self, ↓prC_rk, ↓rqO_rk]) <;> rfl) (hv : v.rk σ N = v' := by (try simp only [givesF, setF, updF, Fam.zeroth, Fam.rk, Ck.rk, C.rk, E.rk, T.rk, key, List.map_cons, List.map_nil, List.cons_append, List.nil_append, List.length_cons, List.length_nil, Option.map_some, Option.bind_some, Nat.reduceAdd, Nat.zero_add, Nat.add_zero, Nat.add_sub_cancel_left, Int.toNat_natCast, reps, List.all_cons, List.all_nil, C.flat, List.append_eq, Bool.not_true, Bool.and_true, Bool.or_false, Bool.or_self, Bool.not_false, List.append_nil, Bool.and_self, ↓prC_rk, ↓rqO_rk]) <;> rfl) : RetG σ H h' v K := ret_mk3 hN h hv hk
theorem cH18oI1 {P : Program} {F : Nat} {args : List T} {H : List Fam} {K : T → List Fam → Prop} {σ : List Sg} {nl : List Fam} {args0 : List T} {h0 : List Fam} {Q : T → List Fam → Prop} {H2 H1 : List Fam} {N n : Nat} (hc : Ctr P F args0 h0 Q) (hk : ∀ v h', Q v h' → capsP h' → RetG σ H2 h' v K) (hap : apart σ = true := by rfl) (hnl : nl.all nilB = true := by rfl) (h1 : H ++ nl = H1 := by first | exact List.append_nil _ | ((try simp only [List.cons_append, List.nil_append]) <;> rfl)) (hN : H1.length = N := by (try simp only [↓List.length_cons, ↓List.length_nil, Nat.reduceAdd]) <;> rfl) (hn : H.length = n := by (try simp only [↓List.length_cons, ↓List.length_nil, Nat.reduceAdd]) <;> rfl) (hH : givesF σ N H1 σ h0 = some H2 := by (try simp (maxSteps := 1000000) only [givesF, setF, updF, Fam.zeroth, Fam.rk, Ck.rk, C.rk, E.rk, T.rk, key, List.map_cons, List.map_nil, List.cons_append, List.nil_append, List.length_cons, List.length_nil, Option.map_some, Option.bind_some, Nat.reduceAdd, Nat.zero_add, Nat.add_zero, Nat.add_sub_cancel_left, Int.toNat_natCast, reps, List.all_cons, List.all_nil, C.flat, List.append_eq, Bool.not_true, Bool.and_true, Bool.or_false, Bool.or_self, Bool.not_false, List.append_nil, Bool.and_self, ↓prC_rk, ↓rqO_rk]) <;> rfl) (hle : leS n H1 σ N σ h0 (belsK N (h0.map (Fam.rk σ N)) (argsK n args (args0.map (T.rk σ N)) True)) := by repeat' first | refine And.intro ?_ ?_ | exact xeC | fail) : CallK P F args H K := CallK.mk3 hc hap hnl h1 hN hn hH hle hk
set_option maxRecDepth 10000 in
set_option maxHeartbeats 16000000 in
theorem cpollW (id per : Int) (q : Qos) (W : Ws) (c : Nat) (cf : Nat → Nat) (at' : Int) (hW : WOk W) (hM : W.M.length ≤ 12) (hl : W.l.length ≤ 1000000) (hla : 0 ≤ W.la ∧ W.la ≤ 1000000) (hD : ∀ y p, W.D y = some p → PrOk W.la p) (hper : 1 ≤ per ∧ per ≤ 1099511627776) (hlt : ∀ x ∈ W.l, 0 ≤ x.t ∧ x.t ≤ 1099511627776) (hq : 0 ≤ q.life ∧ q.life ≤ 1099511627776) :
    Ctr Try.prog 9 [.c (.p 0 0 0), .c (.i .i64 at')] (wB id per q W c cf)
      fun v h => ∃ c' cf' co, v = .c (.sl 8 0 11 0 (poL id q at' W).length co) ∧ h = wP id per q (poW per q at' W) c' cf' (poL id q at' W) co := by
  refine Ctr.mk' tbv mixed Try.func9 rfl rfl rfl (fun _ _ => by kernel_rfl) (by kernel_rfl) (by rfl) (by rfl) (by (repeat' first | refine And.intro ?_ ?_ | exact xeC | fail) <;> exact xmC) ?_
  repeat' (first | (fail_if_success (with_reducible refine xstp ?_)); first | ((with_reducible refine And.intro (fun (hb : _ = true) => ?_) (fun (hb : _ = false) => ?_)) <;> replace hb := xnC hb <;> (try first | exact xfC | exact bff hb (by assumption) | exact bff (by assumption) hb)) | (with_reducible intro hc; (try simp only [capsP, and_true] at hc); (try exact xfC)) | ((fail_if_success (with_reducible first | refine xgon ?_ | intro _)); (conv => whnf); (fail_if_success (fail_if_success (with_reducible first | refine xstp ?_ | refine xgon ?_ | intro _)))))
  all_goals try (
    have hat : ¬ atOk at' := by unfold atOk; omega
    have e1 : poL id q at' W = [] := if_neg hat
    have e2 : poW per q at' W = W := if_neg hat
    rw [e1, e2]
    refine FinK.mk ⟨[0, 1, 2, 3, 4, 5, 3, 5, 99], _, _, ⟨c, cf, 0, rfl, rfl⟩, ?_⟩
    (repeat' first | refine And.intro ?_ ?_ | exact xeC | fail)
    all_goals first | (exact xmC) | (intro i hi; exact absurd hi (Nat.not_lt_zero i))
    done)
  have hat : atOk at' := by unfold atOk; omega
  have hat2 : 0 ≤ at' ∧ at' ≤ 1099511627776 := hat
  have hsl := stay_le q W.l at'
  have hol := polF_le (id := id) (l := stay q W.l at') (at' := at') hD hla
  have e1 : poL id q at' W = polF id (stay q W.l at') W.la at' W.D (srtN (numW W)) := if_pos hat
  have e2 : poW per q at' W = ⟨stay q W.l at', W.la, W.M, W.ck, polD per W.la at' W.D (srtN (numW W))⟩ := if_pos hat
  rw [e1, e2]
  refine cH18oI1 (σ := [.whole 1, .whole 3]) (nl := []) (iexpire q W.l c at' hl hlt hq) ?_
  rintro v h' ⟨cg, cs, rfl, rfl⟩ hcaps
  refine rH18oI0 ?_
  repeat' (first | (fail_if_success (with_reducible refine xstp ?_)); first | ((fail_if_success (with_reducible first | refine xgon ?_ | intro _)); (conv => whnf); (fail_if_success (fail_if_success (with_reducible first | refine xstp ?_ | refine xgon ?_ | intro _)))))
  refine cH18oI1 (σ := [.whole 0, .name 1, .whole 2, .whole 4, .name 5]) (nl := []) (csorted id per W.la q W cf hW hM) ?_ (hle := by (repeat' first | refine And.intro ?_ ?_ | exact xeC | fail) <;> exact xmC)
  rintro v h' ⟨cp, rfl, rfl⟩ hcaps
  have hLl : (srtN (numW W)).length ≤ 12 := by unfold srtN numW; rw [List.length_mergeSort, List.length_map]; exact hM
  have hLm : ∀ x ∈ srtN (numW W), ∃ p, W.D x = some p := fun x hx => by
    have hx := List.mem_mergeSort.1 hx
    obtain ⟨e, he, rfl⟩ := List.mem_map.1 hx
    obtain ⟨i, hi, rfl⟩ := List.mem_iff_getElem.1 he
    have := (hW.a i hi).2
    rwa [getD_at hi] at this
  have hLn : (srtN (numW W)).Nodup := srt_nd hW
  generalize srtN (numW W) = L at *
  refine rH18oI0 ?_
  repeat' (first | (fail_if_success (with_reducible refine xstp ?_)); first | ((fail_if_success (with_reducible first | refine xgon ?_ | intro _)); (conv => whnf); (fail_if_success (fail_if_success (with_reducible first | refine xstp ?_ | refine xgon ?_ | intro _)))))
  refine LoopK.mk' ({k : Nat // k ≤ L.length} × Nat)
    (fun ⟨⟨k, _⟩, co⟩ => ⟨[(0, .c (.p 0 0 0)), (1, .c (.i .i64 at')), (5, .c (.sl 9 0 11 0 (polF id (stay q W.l at') W.la at' W.D (L.take k)).length co)), (32, .c (.sl 7 0 1 0 L.length cp)), (33, .c (.i .i64 L.length)), (34, .c (.i .i64 k))],
      [.one (wrc 1 2 id per W.la q), .one (hist 6 q (stay q W.l at').length cs), .one (peM 4 W.M W.ck), .one .no, prs 8 (polD per W.la at' W.D (L.take k)) (polC cf (L.take k)), .one .no, .one (smps true (stay q W.l at') cs), .one (ptR true 4 L cp), rqs (polD per W.la at' W.D (L.take k)) (polC cf (L.take k)), .one (pkR true (polF id (stay q W.l at') W.la at' W.D (L.take k)) co)]⟩)
    (fun k => L.length - k.1.1)
    ⟨⟨⟨0, Nat.zero_le _⟩, 0⟩, [0, 1, 2, 3, 4, 5, 6, 8, 5, 99], ?_⟩ ?_
  · (repeat' first | refine And.intro ?_ ?_ | exact xeC | fail)
    all_goals first
      | (exact xmC)
      | (intro i hi; exact absurd hi (Nat.not_lt_zero i))
      | exact fun x => prC_le rfl
      | exact fun x => rqO_le
      | skip
    all_goals trace_state
  rintro ⟨⟨k, hk⟩, co⟩
  have hok := hol (L.take k)
  rw [List.length_take] at hok
  repeat' (first | (fail_if_success (with_reducible refine xstp ?_)); first | ((with_reducible refine And.intro (fun (hb : _ = true) => ?_) (fun (hb : _ = false) => ?_)) <;> replace hb := xnC hb <;> (try first | exact xfC | exact bff hb (by assumption) | exact bff (by assumption) hb)) | ((with_reducible refine And.intro ?_ ?_); focus exact xoC) | (with_reducible intro hc; (try simp only [capsP, and_true] at hc); (try exact xfC)) | ((fail_if_success (with_reducible first | refine xgon ?_ | intro _)); (conv => whnf); (fail_if_success (fail_if_success (with_reducible first | refine xstp ?_ | refine xgon ?_ | intro _)))))
  rotate_left 1
  · have ek : L.take k = L := List.take_of_length_le (by omega)
    rw [ek]
    refine FinK.mk ⟨[0, 1, 2, 3, 4, 5, 6, 8, 9], _, _, ⟨cs, polC cf L, co, rfl, rfl⟩, ?_⟩
    (repeat' first | refine And.intro ?_ ?_ | exact xeC | fail)
    all_goals first
      | (exact xmC)
      | exact fun x => prC_le rfl
      | exact fun x => rqO_le
      | exact fun x => prC_bel rfl
      | skip
    all_goals trace_state
  have hkl : k < L.length := by omega
  rw [show 0 + ((k : Nat) : Int).toNat = k by omega]
  have hxL : L.getD k default ∈ L := by rw [getD_at hkl]; exact List.getElem_mem _
  have hxn : L.getD k default ∉ L.take k := fun h => by
    obtain ⟨j, hj, e⟩ := List.mem_iff_getElem.1 h
    rw [List.length_take] at hj
    rw [List.getElem_take, getD_at hkl] at e
    have := (List.getElem_inj hLn).1 e
    omega
  have hFs := polF_succ id (stay q W.l at') W.la at' W.D L hkl
  obtain ⟨p, hp⟩ := hLm _ hxL
  have hts : L.take (k + 1) = L.take k ++ [L.getD k default] := by rw [← List.take_append_getElem hkl, getD_at hkl]
  generalize L.getD k default = x at *
  have hcell : prC 8 x x (polD per W.la at' W.D (L.take k) x) (polC cf (L.take k) x) = .cells true (encPr 8 x x p (cf x)) := by
    unfold polD polC; rw [if_neg hxn, if_neg hxn, hp]; rfl
  have hrow : rqO (polD per W.la at' W.D (L.take k) x) (polC cf (L.take k) x) = ints true p.rq (cf x) := by
    unfold polD polC; rw [if_neg hxn, if_neg hxn, hp]; rfl
  have hF1 : polF1 id (stay q W.l at') W.la at' W.D x = polL id (stay q W.l at') x p W.la at' := by unfold polF1; rw [hp]
  have hll := polL_le (id := id) (l := stay q W.l at') (X := x) (at' := at') (hD x p hp) hla
  rw [hF1] at hFs
  refine cH18oI1 (σ := [.whole 0, .whole 1, .name 2, .whole 6, .mem 4 (x), .mem 8 (x)]) (nl := []) (cpoll1 id per W.la q (stay q W.l at') cs x p (cf x) at' (by omega) hla (hD x p hp) hat2 hper) ?_ (hle := by (repeat' first | refine And.intro ?_ ?_ | exact xeC | fail) <;> (refine ManyK.mk ⟨_, hcell, ?_⟩ <;> (repeat' first | refine And.intro ?_ ?_ | exact xeC | fail) <;> refine ManyK.mk ⟨_, hrow, ?_⟩ <;> (repeat' first | refine And.intro ?_ ?_ | exact xeC | fail)))
  rintro v h' ⟨cr, rfl, rfl⟩ hcaps
  generalize polL id (stay q W.l at') x p W.la at' = y at *
  refine ret_mk3 (by (try simp only [↓List.length_cons, ↓List.length_nil, Nat.reduceAdd]); rfl) (by (try simp (maxSteps := 1000000) only [givesF, setF, updF, Fam.zeroth, Fam.rk, Ck.rk, C.rk, E.rk, T.rk, key, List.map_cons, List.map_nil, List.cons_append, List.nil_append, List.length_cons, List.length_nil, Option.map_some, Option.bind_some, Nat.reduceAdd, Nat.zero_add, Nat.add_zero, Nat.add_sub_cancel_left, Int.toNat_natCast, reps, List.all_cons, List.all_nil, C.flat, List.append_eq, Bool.not_true, Bool.and_true, Bool.or_false, Bool.or_self, Bool.not_false, List.append_nil, Bool.and_self, ↓prC_rk, ↓rqO_rk, encPr]); rfl) (by (try simp only [givesF, setF, updF, Fam.zeroth, Fam.rk, Ck.rk, C.rk, E.rk, T.rk, key, List.map_cons, List.map_nil, List.cons_append, List.nil_append, List.length_cons, List.length_nil, Option.map_some, Option.bind_some, Nat.reduceAdd, Nat.zero_add, Nat.add_zero, Nat.add_sub_cancel_left, Int.toNat_natCast, reps, List.all_cons, List.all_nil, C.flat, List.append_eq, Bool.not_true, Bool.and_true, Bool.or_false, Bool.or_self, Bool.not_false, List.append_nil, Bool.and_self, ↓prC_rk, ↓rqO_rk, encPr]); rfl) ?_
  repeat' (first | (fail_if_success (with_reducible refine xstp ?_)); first | ((with_reducible refine And.intro ?_ ?_); focus exact xoC) | ((with_reducible refine Or.inl ⟨?_, ?_, ?_⟩); (focus rfl); focus exact xaC) | (with_reducible intro hc; (try simp only [capsP, and_true] at hc); (try exact xfC)) | ((fail_if_success (with_reducible first | refine xgon ?_ | intro _)); (conv => whnf); (fail_if_success (fail_if_success (with_reducible first | refine xstp ?_ | refine xgon ?_ | intro _)))))
  rename_i c3
  have hDn : ∀ y, y ≠ x → polD per W.la at' W.D (L.take k ++ [x]) y = polD per W.la at' W.D (L.take k) y := fun y hy => by
    unfold polD; simp [hy]
  have hCn : ∀ y, y ≠ x → polC cf (L.take k ++ [x]) y = polC cf (L.take k) y := fun y hy => by
    unfold polC; simp [hy]
  have hDx : polD per W.la at' W.D (L.take k ++ [x]) x = some (polP per p W.la at') := by unfold polD; simp [hp]
  have hCx : polC cf (L.take k ++ [x]) x = 0 := by unfold polC; simp
  have hki : ∀ y N, key [0, 1, 2, 3, 4, 5, 6, 7, .adopt 8 x 11, 12] N 8 y = (if y = x then 11 else 8, if y = x then 0 else y) := fun y N => rfl
  refine ⟨⟨⟨k + 1, by omega⟩, c3⟩, [0, 1, 2, 3, 4, 5, 6, 7, .adopt 8 x 11, 12], by simp only; omega, ?_⟩
  rw [hts] at hFs
  simp only [hts, hFs]
  (repeat' first | refine And.intro ?_ ?_ | exact xeC | fail)
  all_goals first
    | (exact xmC)
    | (simp only [List.length_append]; done)
    | (simp only [List.length_append]; exact Nat.le_refl _)
    | (intro i hi; exact app_rowL (encP .nils) (polF id (stay q W.l at') W.la at' W.D (L.take k)) y 0 _ (fun j hj => by rw [Nat.zero_add]; rfl) i hi)
    | exact fun y => prs_set2 (fun y hy => by rw [hki, if_neg hy, if_neg hy]) hDn hCn (prC_cells hDx (by rw [hki, if_pos rfl, if_pos rfl, hCx]; rfl)) y
    | (intro y hy
       show Ck.leK _ (if y = x then _ else if y = x then _ else _) (Ck.rk _ _ (rqO (polD per W.la at' W.D (L.take k ++ [x]) y) (polC cf (L.take k ++ [x]) y))) True
       rw [if_neg hy, if_neg hy, hDn y hy, hCn y hy]
       exact rqO_le)
    | skip
  refine leK_cong (q'' := ints true [] 0) (by show Ck.rk _ _ (rqO (polD per W.la at' W.D (L.take k ++ [x]) x) (polC cf (L.take k ++ [x]) x)) = _; rw [hDx, hCx]; rfl) ?_
  (repeat' first | refine And.intro ?_ ?_ | exact xeC | fail)
  all_goals first
    | (exact xmC)
    | (simp only [List.length_append]; done)
    | (simp only [List.length_append]; exact Nat.le_refl _)
    | (intro i hi; exact app_rowL (encP .nils) (polF id (stay q W.l at') W.la at' W.D (L.take k)) y 0 _ (fun j hj => by rw [Nat.zero_add]; rfl) i hi)
    | (intro i hi; exact absurd hi (Nat.not_lt_zero i))
    | skip
end Go.Proofs.Ytofcadbfjbefkaa


namespace Go.Proofs.Ytofcadbfjbefkaa
open Go.X
set_option linter.unusedSimpArgs false
set_option linter.unusedVariables false
/-- A writer with the one reader 3. -/
def oneW (l : List Smp) (la : Int) (p : Pr) : Ws := ⟨l, la, [(0, 3)], 1, fun y => if y = 3 then some p else none⟩
def noW (l : List Smp) (la : Int) : Ws := ⟨l, la, [], 0, fun _ => none⟩
theorem oneW_ok (l : List Smp) (la : Int) (p : Pr) : WOk (oneW l la p) := by
  refine ⟨fun i hi => ?_, fun x p' h => ?_, fun a b hab hb => ?_, fun a b hab hb => ?_, fun i hi => ?_⟩
  · have : i < 1 := hi
    obtain rfl : i = 0 := by omega
    exact ⟨⟨show (1 : Int) ≤ 3 by decide, show (3 : Int) ≤ 1073741824 by decide⟩, p, rfl⟩
  · have h : (if x = 3 then some p else none) = some p' := h
    split at h
    · rename_i e; subst e; exact ⟨0, Nat.one_pos, rfl, by decide⟩
    · cases h
  · have : b < 1 := hb; omega
  · have : b < 1 := hb; omega
  · have : i < 1 := hi
    obtain rfl : i = 0 := by omega
    exact Nat.one_pos
theorem oneW_D {l : List Smp} {la : Int} {p : Pr} {P : Pr → Prop} (h : P p) : ∀ y p', (oneW l la p).D y = some p' → P p' := fun y p' e => by
  have e : (if y = 3 then some p else none) = some p' := e
  split at e
  · rw [← Option.some.inj e]; exact h
  · cases e
theorem one_add (l : List Smp) (la : Int) (p : Pr) : addPW (noW l la) 3 p = oneW l la p := by
  unfold addPW noW oneW
  rfl
theorem one_srt (l : List Smp) (la : Int) (p : Pr) : srtN (numW (oneW l la p)) = [3] := by
  show List.mergeSort [3] _ = [3]
  exact List.mergeSort_singleton _
theorem one_poL {id : Int} {q : Qos} {at' : Int} {l : List Smp} {la : Int} {p : Pr} (h : atOk at') : poL id q at' (oneW l la p) = polL id (stay q l at') 3 p la at' := by
  unfold poL
  rw [if_pos h, one_srt]
  show (polF1 _ _ _ _ _ 3 ++ []) = _
  rw [List.append_nil]
  rfl
theorem one_poW {per : Int} {q : Qos} {at' : Int} {l : List Smp} {la : Int} {p : Pr} (h : atOk at') : poW per q at' (oneW l la p) = oneW (stay q l at') la (polP per p la at') := by
  unfold poW
  rw [if_pos h, one_srt]
  unfold oneW polD
  simp only [Ws.mk.injEq, true_and]
  funext y
  by_cases h3 : y = 3
  · subst h3; simp
  · simp [h3]
/-! ### Nobody -/
/-! ### awake -/
def awQ : Qos := ⟨true, false, false, 1, 0, 0, 0⟩
def awS : Smp := ⟨7, 1, 5, ⟨#[97]⟩⟩
def awP : Pr := ⟨2, true, 1, 0, 0, [], false, 0⟩
theorem aw_ma : maE awQ 3 2 0 awQ W0 = 0 ∧ maW awQ 3 2 0 awQ W0 = oneW [] 0 awP := ⟨rfl, by rw [show maW awQ 3 2 0 awQ W0 = addPW (noW [] 0) 3 awP from rfl, one_add]⟩
theorem aw_wr : wrE 7 awQ (oneW [] 0 awP) 5 ⟨#[97]⟩ = 0 ∧ wrN 7 awQ (oneW [] 0 awP) 5 ⟨#[97]⟩ = 1 ∧ wrW 7 awQ (oneW [] 0 awP) 5 ⟨#[97]⟩ = oneW [awS] 1 awP := ⟨by decide, by decide, rfl⟩
theorem aw_po : poL 7 awQ 5 (oneW [awS] 1 awP) = [datK 7 3 awP 1 awS, hbK 7 3 awP 1 5] := by
  rw [one_poL (by decide), (exp_zero (q := awQ) rfl [awS] 5).2]
  unfold polL
  rw [show polB 7 3 awP 5 = [] from rfl, show polR 7 [awS] 3 awP 5 awP.rq.length = [] by unfold polR; rw [show awP.rq.length = 0 from rfl, List.take_zero]; rfl]
  rfl
theorem rH18oJ0 {σ : List Sg} {H h' : List Fam} {v : T} {K : T → List Fam → Prop} {H' : List Fam} {v' : T} {N : Nat} (hk : K v' H') (hN : H.length = N := by (try simp only [↓List.length_cons, ↓List.length_nil, Nat.reduceAdd]) <;> rfl) (h : givesF σ N H σ h' = some H' := by (try simp (maxSteps := 1000000) only [givesF, setF, updF, Fam.zeroth, Fam.rk, Ck.rk, C.rk, E.rk, T.rk, key, List.map_cons, List.map_nil, List.cons_append, List.nil_append, List.length_cons, List.length_nil, Option.map_some, Option.bind_some, Nat.reduceAdd, Nat.zero_add, Nat.add_zero, Nat.add_sub_cancel_left, Int.toNat_natCast, reps, List.all_cons, List.all_nil, C.flat, List.append_eq, Bool.not_true, Bool.and_true, Bool.or_false, Bool.or_self, Bool.not_false, List.append_nil, Bool.and_self, ↓prC_rk, ↓rqO_rk, encQ]) <;> rfl) (hv : v.rk σ N = v' := by (try simp only [givesF, setF, updF, Fam.zeroth, Fam.rk, Ck.rk, C.rk, E.rk, T.rk, key, List.map_cons, List.map_nil, List.cons_append, List.nil_append, List.length_cons, List.length_nil, Option.map_some, Option.bind_some, Nat.reduceAdd, Nat.zero_add, Nat.add_zero, Nat.add_sub_cancel_left, Int.toNat_natCast, reps, List.all_cons, List.all_nil, C.flat, List.append_eq, Bool.not_true, Bool.and_true, Bool.or_false, Bool.or_self, Bool.not_false, List.append_nil, Bool.and_self, ↓prC_rk, ↓rqO_rk, encQ]) <;> rfl) : RetG σ H h' v K := ret_mk3 hN h hv hk
theorem cH18oJ1 {P : Program} {F : Nat} {args : List T} {H : List Fam} {K : T → List Fam → Prop} {σ : List Sg} {nl : List Fam} {args0 : List T} {h0 : List Fam} {Q : T → List Fam → Prop} {H2 H1 : List Fam} {N n : Nat} (hc : Ctr P F args0 h0 Q) (hk : ∀ v h', Q v h' → capsP h' → RetG σ H2 h' v K) (hap : apart σ = true := by rfl) (hnl : nl.all nilB = true := by rfl) (h1 : H ++ nl = H1 := by first | exact List.append_nil _ | ((try simp only [List.cons_append, List.nil_append]) <;> rfl)) (hN : H1.length = N := by (try simp only [↓List.length_cons, ↓List.length_nil, Nat.reduceAdd]) <;> rfl) (hn : H.length = n := by (try simp only [↓List.length_cons, ↓List.length_nil, Nat.reduceAdd]) <;> rfl) (hH : givesF σ N H1 σ h0 = some H2 := by (try simp (maxSteps := 1000000) only [givesF, setF, updF, Fam.zeroth, Fam.rk, Ck.rk, C.rk, E.rk, T.rk, key, List.map_cons, List.map_nil, List.cons_append, List.nil_append, List.length_cons, List.length_nil, Option.map_some, Option.bind_some, Nat.reduceAdd, Nat.zero_add, Nat.add_zero, Nat.add_sub_cancel_left, Int.toNat_natCast, reps, List.all_cons, List.all_nil, C.flat, List.append_eq, Bool.not_true, Bool.and_true, Bool.or_false, Bool.or_self, Bool.not_false, List.append_nil, Bool.and_self, ↓prC_rk, ↓rqO_rk]) <;> rfl) (hle : leS n H1 σ N σ h0 (belsK N (h0.map (Fam.rk σ N)) (argsK n args (args0.map (T.rk σ N)) True)) := by repeat' first | refine And.intro ?_ ?_ | exact xeC | fail) : CallK P F args H K := CallK.mk3 hc hap hnl h1 hN hn hH hle hk
set_option maxRecDepth 20000 in
set_option maxHeartbeats 8000000 in
theorem cawake : Ctr Try.prog 10 [] [] fun v h => v = .c .tt ∧ h = [] := by
  refine Ctr.mk' tbv mixed Try.func10 rfl rfl rfl (fun _ _ => by kernel_rfl) (by kernel_rfl) (by rfl) (by rfl) (by (repeat' first | refine And.intro ?_ ?_ | exact xeC | fail)) ?_
  repeat' (first | (fail_if_success (with_reducible refine xstp ?_)); first | (with_reducible intro hc; (try simp only [capsP, and_true] at hc); (try exact xfC)) | ((fail_if_success (with_reducible first | refine xgon ?_ | intro _)); (conv => whnf); (fail_if_success (fail_if_success (with_reducible first | refine xstp ?_ | refine xgon ?_ | intro _)))))
  refine cH18oJ1 (σ := []) (nl := []) (cnewW 7 10 awQ) ?_
  rintro v h' (⟨hq, rfl, rfl⟩ | ⟨hq, rfl, rfl⟩) hcaps
  rotate_left 1
  · exact absurd (by decide) hq
  refine rH18oJ0 ?_
  repeat' (first | (fail_if_success (with_reducible refine xstp ?_)); first | ((with_reducible refine And.intro (fun (hb : _ = true) => ?_) (fun (hb : _ = false) => ?_)) <;> replace hb := xnC hb <;> (try first | exact xfC | exact bff hb (by assumption) | exact bff (by assumption) hb)) | ((fail_if_success (with_reducible first | refine xgon ?_ | intro _)); (conv => whnf); (fail_if_success (fail_if_success (with_reducible first | refine xstp ?_ | refine xgon ?_ | intro _)))))
  refine cH18oJ1 (σ := [.whole 0, .whole 1, .whole 2, .whole 3, .whole 4, .whole 5]) (nl := []) (cmatchW 7 10 awQ W0 0 (fun _ => 0) 3 2 0 awQ W0_ok (by decide) (by decide) (by intro s hs; cases hs)) ?_ (hle := by (repeat' first | refine And.intro ?_ ?_ | exact xeC | fail) <;> exact xmC)
  rw [aw_ma.1, aw_ma.2]
  rintro v h' ⟨cf1, rfl, rfl⟩ hcaps
  refine rH18oJ0 ?_
  repeat' (first | (fail_if_success (with_reducible refine xstp ?_)); first | ((with_reducible refine And.intro (fun (hb : _ = true) => ?_) (fun (hb : _ = false) => ?_)) <;> replace hb := xnC hb <;> (try first | exact xfC | exact bff hb (by assumption) | exact bff (by assumption) hb)) | ((fail_if_success (with_reducible first | refine xgon ?_ | intro _)); (conv => whnf); (fail_if_success (fail_if_success (with_reducible first | refine xstp ?_ | refine xgon ?_ | intro _)))))
  refine cH18oJ1 (σ := [.whole 0, .whole 1, .whole 2, .whole 3, .whole 6, .whole 7]) (nl := []) (cwrite 7 10 awQ (oneW [] 0 awP) 0 cf1 5 ⟨#[97]⟩ (oneW_ok _ _ _) (by decide) (by decide)) ?_ (hle := by (repeat' first | refine And.intro ?_ ?_ | exact xeC | fail) <;> exact xmC)
  rw [aw_wr.1, aw_wr.2.1, aw_wr.2.2]
  rintro v h' ⟨c2, rfl, rfl⟩ hcaps
  refine rH18oJ0 ?_
  repeat' (first | (fail_if_success (with_reducible refine xstp ?_)); first | ((fail_if_success (with_reducible first | refine xgon ?_ | intro _)); (conv => whnf); (fail_if_success (fail_if_success (with_reducible first | refine xstp ?_ | refine xgon ?_ | intro _)))))
  refine cH18oJ1 (σ := [.whole 0, .whole 1, .whole 2, .whole 8, .whole 6, .whole 7]) (nl := []) (cpollW 7 10 awQ (oneW [awS] 1 awP) c2 cf1 5 (oneW_ok _ _ _) (by decide) (by decide) (by decide) (oneW_D ⟨by decide, by decide, by decide, by decide⟩) (by decide) (by intro s hs; rw [List.mem_singleton.1 hs]; decide) (by decide)) ?_ (hle := by (repeat' first | refine And.intro ?_ ?_ | exact xeC | fail) <;> exact xmC)
  rw [aw_po, one_poW (by decide)]
  rintro v h' ⟨c3, cf3, co, rfl, rfl⟩ hcaps
  refine rH18oJ0 ?_
  repeat' (first | (fail_if_success (with_reducible refine xstp ?_)); first | ((with_reducible refine And.intro (fun (hb : _ = true) => ?_) (fun (hb : _ = false) => ?_)) <;> replace hb := xnC hb <;> (try first | exact xfC | exact bff hb (by assumption) | exact bff (by assumption) hb | (exfalso; simp only [List.length_nil] at hb; omega) | (exfalso; revert hb; decide) | (exfalso; simp at hb; done))) | (with_reducible refine Both.mk ?_ ?_) | ((with_reducible refine And.intro ?_ ?_); focus exact xoC) | ((with_reducible refine Or.inl ⟨?_, ?_, ?_⟩); (focus rfl); focus exact xaC) | ((with_reducible refine xwB ?_ ?_); focus exact xaC) | ((with_reducible refine xwC ?_ ?_); focus exact xaC) | ((with_reducible refine xwD ?_ ?_); focus exact xaC) | ((with_reducible refine xwE ?_ ?_); focus exact xaC) | (with_reducible intro hc; (try simp only [capsP, and_true] at hc); (try exact xfC)) | ((fail_if_success (with_reducible first | refine xgon ?_ | intro _)); (conv => whnf); (fail_if_success (fail_if_success (with_reducible first | refine xstp ?_ | refine Both.mk ?_ ?_ | refine xgon ?_ | intro _)))))
  refine FinK.mk ⟨[], _, _, ⟨rfl, rfl⟩, ?_⟩
  (repeat' first | refine And.intro ?_ ?_ | exact xeC | fail)
  all_goals exact decide_eq_true rfl
end Go.Proofs.Ytofcadbfjbefkaa


namespace Go.Proofs.Ytofcadbfjbefkaa
open Go.X
set_option linter.unusedVariables false
theorem WOk.congr {W W' : Ws} (h : WOk W) (hM : W'.M = W.M) (hck : W'.ck = W.ck) (hD : ∀ x, (W'.D x).isSome = (W.D x).isSome) : WOk W' := by
  refine ⟨fun i hi => ?_, fun x p hx => ?_, fun a b hab hb => ?_, fun a b hab hb => ?_, fun i hi => ?_⟩
  · rw [hM] at hi ⊢
    obtain ⟨h1, p, h2⟩ := h.a i hi
    refine ⟨h1, Option.isSome_iff_exists.1 ?_⟩
    rw [hD, h2]; rfl
  · have : (W.D x).isSome = true := by rw [← hD, hx]; rfl
    obtain ⟨p', hp'⟩ := Option.isSome_iff_exists.1 this
    rw [hM]
    exact h.b x p' hp'
  · rw [hM] at hb ⊢; exact h.ne a b hab hb
  · rw [hM] at hb ⊢; exact h.st a b hab hb
  · rw [hM] at hi ⊢; rw [hck]; exact h.lt i hi
/-! ### As many readers as there may be -/
theorem ma_no {q q2 : Qos} {r nd at' : Int} {W : Ws} (h : maE q r nd at' q2 W ≠ 0) : maW q r nd at' q2 W = W := if_neg h
end Go.Proofs.Ytofcadbfjbefkaa


namespace Go.Proofs.Ytofcadbfjbefkaa
open Go.X
set_option linter.unusedVariables false
def heldL (f : Nat → Smp) (m D : Nat) : List Smp := (List.range (min m D)).map fun i => f (m - min m D + i)
def nice (f : Nat → Smp) : Prop := ∀ i, (f i).w = 7 ∧ (f i).q = (i : Int) + 1 ∧ 0 ≤ (f i).t ∧ (f i).t ≤ 1099511627776 ∧ (f i).p.size ≤ 2000
theorem held_len (f : Nat → Smp) (m D : Nat) : (heldL f m D).length = min m D := by unfold heldL; rw [List.length_map, List.length_range]
theorem held_at {f : Nat → Smp} {m D i : Nat} (h : i < min m D) : (heldL f m D).getD i default = f (m - min m D + i) := by
  have h2 : i < (heldL f m D).length := by rw [held_len]; exact h
  rw [getD_at h2]
  have : (heldL f m D)[i]? = some (f (m - min m D + i)) := by
    unfold heldL
    rw [List.getElem?_map, List.getElem?_range h]
    rfl
  rw [List.getElem?_eq_getElem h2] at this
  exact Option.some.inj this
theorem held_mem {f : Nat → Smp} {m D : Nat} {s : Smp} (h : s ∈ heldL f m D) : ∃ j, j < m ∧ m - min m D ≤ j ∧ s = f j := by
  unfold heldL at h
  obtain ⟨i, hi, rfl⟩ := List.mem_map.1 h
  have := List.mem_range.1 hi
  exact ⟨m - min m D + i, by omega, by omega, rfl⟩
theorem held_in {f : Nat → Smp} {m D j : Nat} (h : j < m) (h2 : m - min m D ≤ j) : f j ∈ heldL f m D := by
  unfold heldL
  refine List.mem_map.2 ⟨j - (m - min m D), List.mem_range.2 (by omega), ?_⟩
  congr 1
  omega
theorem held_snoc (f : Nat → Smp) {m D : Nat} (h : m < D) : heldL f m D ++ [f m] = heldL f (m + 1) D := by
  unfold heldL
  rw [show min m D = m by omega, show min (m + 1) D = m + 1 by omega, List.range_succ, List.map_append, Nat.sub_self, Nat.sub_self]
  simp
theorem held_roll (f : Nat → Smp) {m D : Nat} (h : D ≤ m) (hD : 1 ≤ D) : (heldL f m D).eraseIdx 0 ++ [f m] = heldL f (m + 1) D := by
  obtain ⟨d, rfl⟩ : ∃ d, D = d + 1 := ⟨D - 1, by omega⟩
  unfold heldL
  rw [show min m (d + 1) = d + 1 by omega, show min (m + 1) (d + 1) = d + 1 by omega]
  conv => lhs; rw [List.range_succ_eq_map]
  conv => rhs; rw [List.range_succ]
  rw [List.map_cons, List.eraseIdx_cons_zero, List.map_map, List.map_append, List.map_singleton, show m + 1 - (d + 1) + d = m by omega]
  congr 1
  refine List.map_congr_left fun i hi => ?_
  show f _ = f _
  congr 1
  omega
theorem held_w {f : Nat → Smp} (hf : nice f) {m D : Nat} {s : Smp} (h : s ∈ heldL f m D) : s.w = 7 ∧ 1 ≤ s.q ∧ s.q ≤ m := by
  obtain ⟨j, h1, _, rfl⟩ := held_mem h
  obtain ⟨h2, h3, _⟩ := hf j
  exact ⟨h2, by omega, by omega⟩
theorem held_t {f : Nat → Smp} (hf : nice f) {m D : Nat} : ∀ s ∈ heldL f m D, 0 ≤ s.t ∧ s.t ≤ 1099511627776 := fun s h => by
  obtain ⟨j, h1, _, rfl⟩ := held_mem h
  exact ⟨(hf j).2.2.1, (hf j).2.2.2.1⟩
theorem held_cnt {f : Nat → Smp} (hf : nice f) (m D : Nat) : cnt (heldL f m D) 7 = min m D := by
  unfold cnt
  rw [List.filter_eq_self.2 (fun s hs => by rw [(held_w hf hs).1]; rfl), held_len]
theorem held_fst {f : Nat → Smp} (hf : nice f) {m D : Nat} (h : 0 < min m D) : fstI (heldL f m D) 7 = 0 := by
  cases e : heldL f m D with
  | nil => have := held_len f m D; rw [e] at this; rw [← this] at h; exact absurd h (Nat.lt_irrefl 0)
  | cons a t =>
    have ha : a.w = 7 := (held_w hf (by rw [e]; exact List.mem_cons_self)).1
    unfold fstI
    rw [List.findIdx?_cons, ha]
    rfl
theorem held_old {f : Nat → Smp} (hf : nice f) {q : Qos} {m D : Nat} (hk : q.keep = false) (hd : q.depth = D) (hD : 1 ≤ D) : oldI q (heldL f m D) 7 = if m < D then -1 else 0 := by
  unfold oldI
  rw [if_neg (by rw [hk]; decide), held_cnt hf, hd]
  by_cases h : m < D
  · rw [if_pos (by omega), if_pos h]
  · rw [if_neg (by omega), if_neg h, held_fst hf (by omega)]
theorem held_find {f : Nat → Smp} (hf : nice f) {m D : Nat} (j : Nat) (h : m ≤ j ∨ j < m - min m D) : findI (heldL f m D) 7 ((j : Int) + 1) = -1 := by
  refine findI_none fun i hi he => ?_
  rw [held_len] at hi
  rw [held_at hi] at he
  have := (hf (m - min m D + i)).2.1
  omega
theorem held_get {f : Nat → Smp} (hf : nice f) {m D : Nat} (j : Nat) : getS (heldL f m D) 7 ((j : Int) + 1) = if m - min m D ≤ j ∧ j < m then (f j, true) else (default, false) := by
  split
  · rename_i h
    have hi : j - (m - min m D) < min m D := by omega
    have e : (heldL f m D).getD (j - (m - min m D)) default = f j := by rw [held_at hi]; congr 1; omega
    have hl : j - (m - min m D) < (heldL f m D).length := by rw [held_len]; exact hi
    have h2 : findI (heldL f m D) 7 ((j : Int) + 1) = ((j - (m - min m D) : Nat) : Int) := by
      refine findI_some hl (by rw [e]; exact (hf j).1) (by rw [e]; exact (hf j).2.1) fun i hi2 he => ?_
      rw [held_at (by omega)] at he
      have := (hf (m - min m D + i)).2.1
      omega
    rcases find_cases (heldL f m D) 7 ((j : Int) + 1) with ⟨k, hk, e1, e2⟩ | ⟨e1, _⟩
    · rw [e2]
      have : k = j - (m - min m D) := by omega
      rw [this, e]
    · omega
  · rename_i h
    have h2 := held_find hf (m := m) (D := D) j (by omega)
    rcases find_cases (heldL f m D) 7 ((j : Int) + 1) with ⟨k, hk, e1, e2⟩ | ⟨_, e2⟩
    · omega
    · exact e2
/-! ### Write -/
theorem held_addE {f : Nat → Smp} (hf : nice f) {q : Qos} {m D : Nat} (hk : q.keep = false) (hd : q.depth = D) (hD : 1 ≤ D ∧ D ≤ 64) : addE q (heldL f m D) (f m) = 0 := by
  obtain ⟨h1, h2, h3, h4, h5⟩ := hf m
  unfold addE
  rw [if_neg (by omega), if_neg (by omega), h1, h2, held_find hf m (.inl (Nat.le_refl m)), if_neg (by omega), if_neg]
  rw [held_len]
  omega
theorem held_new {f : Nat → Smp} (hf : nice f) {q : Qos} {m D : Nat} (hk : q.keep = false) (hd : q.depth = D) (hD : 1 ≤ D ∧ D ≤ 64) : newS q (heldL f m D) (f m) = heldL f (m + 1) D := by
  unfold newS
  rw [if_pos (held_addE hf hk hd hD)]
  unfold addL
  rw [(hf m).1, held_old hf hk hd hD.1]
  by_cases h : m < D
  · rw [if_pos (by rw [if_pos h]; decide), held_snoc f h]
  · have e : (if m < D then (-1 : Int) else 0) = 0 := if_neg h
    rw [e, if_neg (by decide)]
    exact held_roll f (by omega) hD.1
abbrev hW (f : Nat → Smp) (m D : Nat) (W : Ws) : Ws := ⟨heldL f m D, m, W.M, W.ck, W.D⟩
theorem held_wr {f : Nat → Smp} (hf : nice f) {q : Qos} {m D : Nat} (hk : q.keep = false) (hd : q.depth = D) (hD : 1 ≤ D ∧ D ≤ 64) (W : Ws) {at' : Int} {p : ByteArray} (hs : f m = ⟨7, (m : Int) + 1, at', p⟩) :
    wrE 7 q (hW f m D W) at' p = 0 ∧ wrN 7 q (hW f m D W) at' p = (m : Int) + 1 ∧ wrW 7 q (hW f m D W) at' p = hW f (m + 1) D W := by
  have e0 : prn 7 q (hW f m D W) = heldL f m D := by unfold prn; rw [if_neg (by rw [hk]; simp)]
  have e1 : smpW 7 (hW f m D W) at' p = f m := hs.symm
  have e2 : wrE 7 q (hW f m D W) at' p = 0 := by unfold wrE; rw [e0, e1]; exact held_addE hf hk hd hD
  refine ⟨e2, ?_, ?_⟩
  · unfold wrN; rw [if_pos e2]
  · unfold wrW
    rw [e0, e1, held_new hf hk hd hD, if_pos e2]
    rfl
/-! ### Where a late reader begins -/
theorem min_is {t : List Smp} : ∀ {a b : Int}, (∀ s ∈ t, b ≤ s.q) → b ≤ a → (a = b ∨ ∃ s ∈ t, s.q = b) → t.foldl (fun a s => min a s.q) a = b := by
  induction t with
  | nil => intro a b _ _ h; rcases h with h | ⟨s, hs, _⟩; exact h; cases hs
  | cons x t ih =>
    intro a b h1 h2 h3
    show t.foldl (fun a s => min a s.q) (min a x.q) = b
    refine ih (fun s hs => h1 s (List.mem_cons_of_mem _ hs)) ?_ ?_
    · have := h1 x List.mem_cons_self; omega
    · have := h1 x List.mem_cons_self
      rcases h3 with h | ⟨s, hs, e⟩
      · left; omega
      · rcases List.mem_cons.1 hs with rfl | hs
        · left; omega
        · exact .inr ⟨s, hs, e⟩
theorem held_sta {f : Nat → Smp} (hf : nice f) (q q2 : Qos) {m D : Nat} (hD : 1 ≤ D) (W : Ws) : staF q q2 (hW f m D W) = if q.dur = true ∧ q2.dur = true then ((m - min m D : Nat) : Int) + 1 else (m : Int) + 1 := by
  unfold staF
  split
  · refine min_is (fun s hs => ?_) ?_ ?_
    · obtain ⟨j, h1, h2, rfl⟩ := held_mem hs
      have := (hf j).2.1
      omega
    · show _ ≤ (m : Int) + 1
      omega
    · by_cases h : 0 < m
      · exact .inr ⟨f (m - min m D), held_in (by omega) (Nat.le_refl _), (hf _).2.1⟩
      · left
        show (m : Int) + 1 = _
        omega
  · rfl
end Go.Proofs.Ytofcadbfjbefkaa


namespace Go.Proofs.Ytofcadbfjbefkaa
open Go.X
set_option linter.unusedVariables false
def isD (x : Pk) : Bool := decide (x.k = 1)
theorem isD_yes {x : Pk} (h : x.k = 1) : [x].filter isD = [x] := by simp [isD, h]
theorem isD_no {x : Pk} (h : ¬ x.k = 1) : [x].filter isD = [] := by simp [isD, h]
theorem dat_is (l : List Smp) (X : Nat) (p : Pr) (at' sq : Int) : ((dat 7 l X p at' sq).k = 1 ∧ (dat 7 l X p at' sq).q = sq) ∨ (dat 7 l X p at' sq).k = 4 := by
  unfold dat
  split
  · exact .inl ⟨rfl, rfl⟩
  · exact .inr rfl
theorem dat_held {f : Nat → Smp} (hf : nice f) {m D : Nat} (X : Nat) (p : Pr) (at' : Int) (j : Nat) : (dat 7 (heldL f m D) X p at' ((j : Int) + 1)).k = 1 ↔ (m - min m D ≤ j ∧ j < m) := by
  unfold dat
  rw [held_get hf]
  by_cases h : m - min m D ≤ j ∧ j < m
  · rw [if_pos h, if_pos rfl]
    exact ⟨fun _ => h, fun _ => rfl⟩
  · rw [if_neg h, if_neg (by decide)]
    refine ⟨fun e => ?_, fun h2 => absurd h2 h⟩
    have : (4 : Int) = 1 := e
    exact absurd this (by decide)
theorem pn_mem {l : List Smp} {X : Nat} {p : Pr} {at' : Int} {k : Nat} {x : Pk} (h : x ∈ polN 7 l X p at' k) : ∃ j : Nat, j < k ∧ x = dat 7 l X p at' (p.se + 1 + (j : Int)) := by
  unfold polN at h
  obtain ⟨j, hj, hx⟩ := List.mem_flatMap.1 h
  refine ⟨j, List.mem_range.1 hj, ?_⟩
  unfold polN1 at hx
  split at hx
  · exact List.mem_singleton.1 hx
  · cases hx
theorem pn_cnt {f : Nat → Smp} (hf : nice f) {m D : Nat} (X : Nat) (p : Pr) (at' : Int) {s : Nat} (hs : p.se = s) (k : Nat) (hk : s + k ≤ m) :
    ((polN 7 (heldL f m D) X p at' k).filter isD).length = k - ((m - min m D) - s) := by
  induction k with
  | zero => show ([] : List Pk).length = _; rw [Nat.zero_sub]; rfl
  | succ k ih =>
    rw [polN_succ, List.filter_append, List.length_append, ih (by omega)]
    have e : p.se + 1 + (k : Int) = ((s + k : Nat) : Int) + 1 := by omega
    have hh := dat_held hf (m := m) (D := D) X p at' (s + k)
    rw [e]
    unfold polN1
    by_cases h : m - min m D ≤ s + k
    · have h1 := hh.2 ⟨h, by omega⟩
      rw [if_pos (.inr h1), isD_yes h1]
      show _ + 1 = _
      omega
    · have h1 : ¬ _ := fun e => h (hh.1 e).1
      have : ((if p.rel = true ∨ (dat 7 (heldL f m D) X p at' (((s + k : Nat) : Int) + 1)).k = 1 then [dat 7 (heldL f m D) X p at' (((s + k : Nat) : Int) + 1)] else []).filter isD) = [] := by
        split
        · exact isD_no h1
        · rfl
      rw [this]
      show _ + 0 = _
      omega
def sn (L : List Pk) (i : Nat) : Nat := ((L.take i).filter isD).length
theorem sn_next {L : List Pk} {i : Nat} (h : i < L.length) : sn L (i + 1) = sn L i + if (L.getD i default).k = 1 then 1 else 0 := by
  unfold sn
  rw [← List.take_append_getElem h, List.filter_append, List.length_append, getD_at h]
  by_cases e : L[i].k = 1
  · rw [if_pos e, isD_yes e]; rfl
  · rw [if_neg e, isD_no e]; rfl
theorem sn_all (L : List Pk) : sn L L.length = (L.filter isD).length := by unfold sn; rw [List.take_length]
/-- The first Poll of a late reader: the begin s (numbers above s are its own). -/
structure Late (m s D : Nat) (rel : Bool) (L : List Pk) : Prop where
  gap : 0 < s → 0 < L.length ∧ (L.getD 0 default).k = 4 ∧ (L.getD 0 default).q = 0 ∧ (L.getD 0 default).f = 1 ∧ (L.getD 0 default).la = s
  dt : ∀ i, i < L.length → (L.getD i default).k = 1 → (s : Int) + 1 ≤ (L.getD i default).q ∧ (L.getD i default).q ≤ m
  hb : ∀ i, i < L.length → (L.getD i default).k = 2 → rel = true ∧ (L.getD i default).f = (s : Int) + 1 ∧ (L.getD i default).la = m ∧ i + 1 = L.length
  cn : (L.filter isD).length = m - s - ((m - min m D) - s)
  le : L.length ≤ m + 2
theorem late_is {f : Nat → Smp} (hf : nice f) {m D s : Nat} {p : Pr} {at' : Int} (hs : s ≤ m) (h1 : p.se = s) (h2 : p.st = (s : Int) + 1) (h3 : p.rq = []) (h4 : p.bg = decide (1 < p.st)) :
    Late m s D p.rel (polL 7 (heldL f m D) 3 p m at') := by
  have hR : polR 7 (heldL f m D) 3 p at' p.rq.length = [] := by unfold polR; rw [h3]; rfl
  have hk : ((m : Int) - p.se).toNat = m - s := by omega
  have eL : polL 7 (heldL f m D) 3 p m at' = polB 7 3 p at' ++ polN 7 (heldL f m D) 3 p at' (m - s) ++ polH 7 3 p m at' := by
    unfold polL
    rw [hR, hk, List.append_nil]
  have hB : ∀ x ∈ polB 7 3 p at', x.k = 4 := fun x hx => by
    unfold polB at hx
    split at hx
    · rw [List.mem_singleton.1 hx]; rfl
    · cases hx
  have hN : ∀ x ∈ polN 7 (heldL f m D) 3 p at' (m - s), (x.k = 1 ∧ (s : Int) + 1 ≤ x.q ∧ x.q ≤ m) ∨ x.k = 4 := fun x hx => by
    obtain ⟨j, hj, rfl⟩ := pn_mem hx
    rcases dat_is (heldL f m D) 3 p at' (p.se + 1 + (j : Int)) with ⟨e1, e2⟩ | e
    · exact .inl ⟨e1, by omega, by omega⟩
    · exact .inr e
  have hH : ∀ x ∈ polH 7 3 p m at', x.k = 2 ∧ p.rel = true ∧ x.f = (s : Int) + 1 ∧ x.la = m := fun x hx => by
    unfold polH at hx
    split at hx
    · rename_i hb
      rw [List.mem_singleton.1 hx]
      exact ⟨rfl, hb.1, h2, rfl⟩
    · cases hx
  have hHl : (polH 7 3 p m at').length ≤ 1 := by unfold polH; split <;> simp
  rw [eL]
  refine ⟨fun h => ?_, fun i hi hk => ?_, fun i hi hk => ?_, ?_, ?_⟩
  · have : polB 7 3 p at' = [gapK 7 3 p 0 1 (p.st - 1) at'] := by unfold polB; rw [h4]; exact if_pos (decide_eq_true (by omega))
    rw [this]
    refine ⟨by simp, rfl, rfl, rfl, ?_⟩
    show p.st - 1 = s
    omega
  · have hm : (polB 7 3 p at' ++ polN 7 (heldL f m D) 3 p at' (m - s) ++ polH 7 3 p m at').getD i default ∈ polB 7 3 p at' ++ polN 7 (heldL f m D) 3 p at' (m - s) ++ polH 7 3 p m at' := by rw [getD_at hi]; exact List.getElem_mem _
    generalize (polB 7 3 p at' ++ polN 7 (heldL f m D) 3 p at' (m - s) ++ polH 7 3 p m at').getD i default = x at *
    rcases List.mem_append.1 hm with h | h
    · rcases List.mem_append.1 h with h | h
      · have := hB x h; omega
      · rcases hN x h with h | h
        · exact h.2
        · omega
    · have := hH x h; omega
  · rcases Nat.lt_or_ge i (polB 7 3 p at' ++ polN 7 (heldL f m D) 3 p at' (m - s)).length with hlt | hge
    · exfalso
      rw [getD_at hi, List.getElem_append_left hlt] at hk
      have hm := List.getElem_mem hlt
      rcases List.mem_append.1 hm with h | h
      · have := hB _ h; omega
      · rcases hN _ h with h | h
        · omega
        · omega
    · rw [List.length_append] at hi ⊢
      have hj : i - (polB 7 3 p at' ++ polN 7 (heldL f m D) 3 p at' (m - s)).length < (polH 7 3 p m at').length := by omega
      have hx := hH _ (List.getElem_mem hj)
      have e : (polB 7 3 p at' ++ polN 7 (heldL f m D) 3 p at' (m - s) ++ polH 7 3 p m at').getD i default = (polH 7 3 p m at')[i - (polB 7 3 p at' ++ polN 7 (heldL f m D) 3 p at' (m - s)).length] := by
        rw [getD_at (by rw [List.length_append]; exact hi), List.getElem_append_right hge]
      rw [e]
      exact ⟨hx.2.1, hx.2.2.1, hx.2.2.2, by omega⟩
  · rw [List.filter_append, List.filter_append, List.length_append, List.length_append, pn_cnt hf 3 p at' h1 (m - s) (by omega)]
    have e1 : (polB 7 3 p at').filter isD = [] := List.filter_eq_nil_iff.2 fun x hx => by rw [show isD x = decide (x.k = 1) from rfl, hB x hx]; decide
    have e2 : (polH 7 3 p m at').filter isD = [] := List.filter_eq_nil_iff.2 fun x hx => by rw [show isD x = decide (x.k = 1) from rfl, (hH x hx).1]; decide
    rw [e1, e2]
    show 0 + _ + 0 = _
    omega
  · rw [List.length_append, List.length_append]
    have := polB_le 7 3 p at'
    have := polN_le 7 (heldL f m D) 3 p at' (m - s)
    omega
end Go.Proofs.Ytofcadbfjbefkaa


namespace Go.Proofs.Ytofcadbfjbefkaa
open Go.X
set_option linter.unusedSimpArgs false
set_option linter.unusedVariables false
def bQ (du : Bool) (D : Nat) : Qos := ⟨true, du, false, D, 0, 0, 0⟩
theorem bQ_ok {du : Bool} {D : Nat} (h : 1 ≤ D ∧ D ≤ 64) : okQ (bQ du D) := by
  have z : okT 0 := by decide
  exact ⟨z, z, z, (fun h => by cases h), fun _ => ⟨show (1 : Int) ≤ D by omega, show (D : Int) ≤ 64 by omega⟩⟩
def bR (du rl : Bool) : Qos := ⟨rl, du, false, 1, 0, 0, 0⟩
theorem hW0 (f : Nat → Smp) (D : Nat) : W0 = hW f 0 D W0 := by
  unfold hW heldL
  rw [Nat.zero_min]
  rfl
theorem cnewH (f : Nat → Smp) (D : Nat) (id per : Int) (q : Qos) : Ctr Try.prog 6 [.c (.i .i64 id), .a (encQ q), .c (.i .i64 per)] []
      fun v h => ((idOk id per ∧ okQ q) ∧ v = .t [.c (.p 0 0 0), .c (.i .i64 0)] ∧ h = wB id per q (hW f 0 D W0) 0 fun _ => 0) ∨ (¬ (idOk id per ∧ okQ q) ∧ v = .t [.c .nilp, .c (.i .i64 4)] ∧ h = []) := by
  rw [← hW0]
  exact cnewW id per q
theorem hW_ok (f : Nat → Smp) (k D : Nat) : WOk (hW f k D W0) := W0_ok.congr rfl rfl fun _ => rfl
theorem vi_bad {D : Nat} {rl : Bool} : viol (bQ false D) (bR true rl) = 2 := by
  unfold viol
  rw [if_neg (by intro h; cases h.2), if_pos ⟨rfl, rfl⟩]
theorem vi_ok {D : Nat} {dw rl dr : Bool} (h : ¬ (dr = true ∧ dw = false)) : viol (bQ dw D) (bR dr rl) = 0 := by
  unfold viol
  rw [if_neg (by intro h; cases h.2), if_neg (show ¬ ((bR dr rl).dur = true ∧ (bQ dw D).dur = false) from h)]
  rfl
theorem bR_ok (dr rl : Bool) : okQ (bR dr rl) := by
  have z : okT 0 := by decide
  exact ⟨z, z, z, (fun h => by cases h), fun _ => ⟨show (1 : Int) ≤ 1 by decide, show (1 : Int) ≤ 64 by decide⟩⟩
theorem mb_bad {D : Nat} {dw rl : Bool} {dr : Bool} (h1 : dr = true) (h2 : dw = false) (W : Ws) : maE (bQ dw D) 3 2 40 (bR dr rl) W = 14 := by
  subst h1 h2
  unfold maE
  rw [if_neg (by decide), if_neg (fun h => h (bR_ok _ _)), if_pos (by rw [vi_bad]; decide)]
theorem mb_ok {D : Nat} {dw rl dr : Bool} (h : ¬ (dr = true ∧ dw = false)) (f : Nat → Smp) (m : Nat) : maE (bQ dw D) 3 2 40 (bR dr rl) (hW f m D W0) = 0 := by
  unfold maE
  rw [if_neg (by decide), if_neg (fun h => h (bR_ok _ _)), if_neg (fun h' => h' (vi_ok h))]
  rfl
/-- The samples "x", and then "y" at 45. -/
def bF (m : Nat) (i : Nat) : Smp := if i < m then ⟨7, (i : Int) + 1, i, ⟨#[120]⟩⟩ else ⟨7, (i : Int) + 1, 45, ⟨#[121]⟩⟩
theorem no_poL (q : Qos) (f : Nat → Smp) (k D : Nat) : poL 7 q 50 (hW f k D W0) = [] := by
  unfold poL
  rw [if_pos (by decide)]
  have : srtN (numW (hW f k D W0)) = [] := by
    show List.mergeSort [] _ = []
    exact List.mergeSort_nil
  rw [this]
  rfl
theorem sn_le (L : List Pk) (i : Nat) : sn L i ≤ L.length := Nat.le_trans (List.length_filter_le _ _) (List.length_take_le' _ _)
theorem sn_1 {L : List Pk} (h : 0 < L.length) (h1 : ¬ (L.getD 0 default).k = 1) : sn L 1 = 0 := by rw [sn_next h, if_neg h1]; rfl
theorem bF_nice (m : Nat) (h : m ≤ 40) : nice (bF m) := fun i => by
  unfold bF
  split
  · exact ⟨rfl, rfl, show (0 : Int) ≤ i by omega, show (i : Int) ≤ 1099511627776 by omega, show 1 ≤ 2000 by decide⟩
  · exact ⟨rfl, rfl, show (0 : Int) ≤ 45 by omega, show (45 : Int) ≤ 1099511627776 by omega, show 1 ≤ 2000 by decide⟩
def bS (dw dr : Bool) (m D : Nat) : Nat := if dw = true ∧ dr = true then m - min m D else m
def bP (rl : Bool) (s : Nat) : Pr := ⟨2, rl, (s : Int) + 1, s, s, [], decide (1 < (s : Int) + 1), 40⟩
theorem bS_tt (m D : Nat) : bS true true m D = m - min m D := if_pos ⟨rfl, rfl⟩
theorem bS_tf (m D : Nat) : bS true false m D = m := if_neg (by decide)
theorem bS_ff (m D : Nat) : bS false false m D = m := if_neg (by decide)
theorem mb_P {D : Nat} {dw rl dr : Bool} {m : Nat} (hm : m ≤ 40) (hD : 1 ≤ D) : newP (bQ dw D) (bR dr rl) (hW (bF m) m D W0) 2 40 = bP rl (bS dw dr m D) := by
  have e : staF (bQ dw D) (bR dr rl) (hW (bF m) m D W0) = (bS dw dr m D : Int) + 1 := by
    rw [held_sta (bF_nice m hm) _ _ hD]
    unfold bS
    show (if dw = true ∧ dr = true then _ else _) = _
    split <;> rfl
  unfold newP bP
  rw [e, show (bS dw dr m D : Int) + 1 - 1 = bS dw dr m D by omega]
  rfl
theorem mb_W {D : Nat} {dw rl dr : Bool} {m : Nat} (hm : m ≤ 40) (hD : 1 ≤ D) (h : ¬ (dr = true ∧ dw = false)) : maW (bQ dw D) 3 2 40 (bR dr rl) (hW (bF m) m D W0) = oneW (heldL (bF m) m D) m (bP rl (bS dw dr m D)) := by
  unfold maW
  rw [if_pos (mb_ok h _ _), mb_P hm hD]
  exact one_add (heldL (bF m) m D) m _
theorem bP_ok (rl : Bool) {s m : Nat} (h : s ≤ m) (hm : m ≤ 1000) : PrOk m (bP rl s) := ⟨⟨show (1 : Int) ≤ s + 1 by omega, show (s : Int) + 1 ≤ m + 1 by omega⟩, ⟨show (0 : Int) ≤ s by omega, show (s : Int) ≤ 1099511627777 by omega⟩, ⟨show (0 : Int) ≤ s by omega, show (s : Int) ≤ m by omega⟩, Nat.zero_le _⟩
theorem rH18oP0 {σ : List Sg} {H h' : List Fam} {v : T} {K : T → List Fam → Prop} {H' : List Fam} {v' : T} {N : Nat} (hk : K v' H') (hN : H.length = N := by (try simp only [↓List.length_cons, ↓List.length_nil, Nat.reduceAdd]) <;> rfl) (h : givesF σ N H σ h' = some H' := by (try simp (maxSteps := 1000000) only [givesF, setF, updF, Fam.zeroth, Fam.rk, Ck.rk, C.rk, E.rk, T.rk, key, List.map_cons, List.map_nil, List.cons_append, List.nil_append, List.length_cons, List.length_nil, Option.map_some, Option.bind_some, Nat.reduceAdd, Nat.zero_add, Nat.add_zero, Nat.add_sub_cancel_left, Int.toNat_natCast, reps, List.all_cons, List.all_nil, C.flat, List.append_eq, Bool.not_true, Bool.and_true, Bool.or_false, Bool.or_self, Bool.not_false, List.append_nil, Bool.and_self, ↓prC_rk, ↓rqO_rk, encQ]) <;> rfl) (hv : v.rk σ N = v' := by (try simp only [givesF, setF, updF, Fam.zeroth, Fam.rk, Ck.rk, C.rk, E.rk, T.rk, key, List.map_cons, List.map_nil, List.cons_append, List.nil_append, List.length_cons, List.length_nil, Option.map_some, Option.bind_some, Nat.reduceAdd, Nat.zero_add, Nat.add_zero, Nat.add_sub_cancel_left, Int.toNat_natCast, reps, List.all_cons, List.all_nil, C.flat, List.append_eq, Bool.not_true, Bool.and_true, Bool.or_false, Bool.or_self, Bool.not_false, List.append_nil, Bool.and_self, ↓prC_rk, ↓rqO_rk, encQ]) <;> rfl) : RetG σ H h' v K := ret_mk3 hN h hv hk
theorem cH18oP1 {P : Program} {F : Nat} {args : List T} {H : List Fam} {K : T → List Fam → Prop} {σ : List Sg} {nl : List Fam} {args0 : List T} {h0 : List Fam} {Q : T → List Fam → Prop} {H2 H1 : List Fam} {N n : Nat} (hc : Ctr P F args0 h0 Q) (hk : ∀ v h', Q v h' → capsP h' → RetG σ H2 h' v K) (hap : apart σ = true := by rfl) (hnl : nl.all nilB = true := by rfl) (h1 : H ++ nl = H1 := by first | exact List.append_nil _ | ((try simp only [List.cons_append, List.nil_append]) <;> rfl)) (hN : H1.length = N := by (try simp only [↓List.length_cons, ↓List.length_nil, Nat.reduceAdd]) <;> rfl) (hn : H.length = n := by (try simp only [↓List.length_cons, ↓List.length_nil, Nat.reduceAdd]) <;> rfl) (hH : givesF σ N H1 σ h0 = some H2 := by (try simp (maxSteps := 1000000) only [givesF, setF, updF, Fam.zeroth, Fam.rk, Ck.rk, C.rk, E.rk, T.rk, key, List.map_cons, List.map_nil, List.cons_append, List.nil_append, List.length_cons, List.length_nil, Option.map_some, Option.bind_some, Nat.reduceAdd, Nat.zero_add, Nat.add_zero, Nat.add_sub_cancel_left, Int.toNat_natCast, reps, List.all_cons, List.all_nil, C.flat, List.append_eq, Bool.not_true, Bool.and_true, Bool.or_false, Bool.or_self, Bool.not_false, List.append_nil, Bool.and_self, ↓prC_rk, ↓rqO_rk]) <;> rfl) (hle : leS n H1 σ N σ h0 (belsK N (h0.map (Fam.rk σ N)) (argsK n args (args0.map (T.rk σ N)) True)) := by repeat' first | refine And.intro ?_ ?_ | exact xeC | fail) : CallK P F args H K := CallK.mk3 hc hap hnl h1 hN hn hH hle hk
set_option maxRecDepth 20000 in
set_option maxHeartbeats 8000000 in
theorem cbegins (de be : Int) (hd : 0 ≤ de ∧ de ≤ 255) (hb0 : 0 ≤ be ∧ be ≤ 255) (dw dr rl : Bool) : Ctr Try.prog 3 [.c (.i .u8 de), .c (.i .u8 be), .a [.b dw, .b dr, .b rl]] [] fun v h => v = .c .tt ∧ h = [] := by
  obtain ⟨a, rfl⟩ : ∃ a : Nat, de = a := ⟨de.toNat, by omega⟩
  obtain ⟨b, rfl⟩ : ∃ b : Nat, be = b := ⟨be.toNat, by omega⟩
  have ha : IntKind.i64.wrap ((a : Int).tmod 64) = ((a % 64 : Nat) : Int) := by
    rw [Int.tmod_eq_emod_of_nonneg (by omega), wrap_in64 ⟨by omega, by omega⟩]
    omega
  have h64 : 1 ≤ a % 64 + 1 ∧ a % 64 + 1 ≤ 64 := by omega
  have hm : IntKind.i64.wrap ((b : Int).tmod 31) = ((b % 31 : Nat) : Int) := by
    rw [Int.tmod_eq_emod_of_nonneg (by omega), wrap_in64 ⟨by omega, by omega⟩]
    omega
  have hm31 : b % 31 ≤ 30 := by omega
  refine Ctr.mk' tbv mixed Try.func3 rfl rfl rfl (fun _ _ => by kernel_rfl) (by kernel_rfl) (by rfl) (by rfl) (by (repeat' first | refine And.intro ?_ ?_ | exact xeC | fail)) ?_
  repeat' (first | (fail_if_success (with_reducible refine xstp ?_)); first | ((with_reducible refine And.intro ?_ ?_); focus exact xoC) | (with_reducible intro hc; (try simp only [capsP, and_true] at hc); (try exact xfC)) | ((fail_if_success (with_reducible first | refine xgon ?_ | intro _)); (conv => whnf); (fail_if_success (fail_if_success (with_reducible first | refine xstp ?_ | refine xgon ?_ | intro _)))))
  rw [ha, hm]
  generalize hD : a % 64 + 1 = D at *
  generalize b % 31 = m at *
  have hDa : ((a % 64 : Nat) : Int) = (D : Int) - 1 := by omega
  rw [show ((a % 64 : Nat) : Int) + 1 = (D : Int) by omega]
  refine cH18oP1 (σ := []) (nl := []) (cnewH (bF m) D 7 50 (bQ dw D)) ?_
  rintro v h' (⟨hq, rfl, rfl⟩ | ⟨hq, rfl, rfl⟩) hcaps
  rotate_left 1
  · exact absurd ⟨by decide, bQ_ok h64⟩ hq
  have hf := bF_nice m (by omega)
  refine rH18oP0 ?_
  repeat' (first | (fail_if_success (with_reducible refine xstp ?_)); first | ((with_reducible refine And.intro (fun (hb : _ = true) => ?_) (fun (hb : _ = false) => ?_)) <;> replace hb := xnC hb <;> (try first | exact xfC | exact bff hb (by assumption) | exact bff (by assumption) hb)) | ((fail_if_success (with_reducible first | refine xgon ?_ | intro _)); (conv => whnf); (fail_if_success (fail_if_success (with_reducible first | refine xstp ?_ | refine xgon ?_ | intro _)))))
  refine LoopK.mk' ({k : Nat // k ≤ m} × Nat)
    (fun ⟨⟨k, _⟩, c⟩ => ⟨[(0, .c (.i .u8 a)), (7, .c (.pe 1 0 1 0 0)), (8, .c (.b rl)), (9, .c (.i .i64 m)), (11, .c (.p 3 0 0)), (12, .c (.p 4 0 0)), (14, .c (.i .i64 k))],
      [.one .no, .one (.row true false 22 1 2 2 (splF 0 2 (chunkOf 1 [.ff, .ff]) 0 (chunkOf 1 [.b dw, .b dr]))), .one .no, .one (.cells true (encQ (bR dr rl))), .one (wrc 5 6 7 50 k (bQ dw D)), .one (hist 7 (bQ dw D) (hW (bF m) k D W0).l.length c), .one (peM 8 W0.M W0.ck), .one (smps true (hW (bF m) k D W0).l c), prs 9 W0.D (fun _ => 0), rqs W0.D (fun _ => 0)]⟩)
    (fun k => m - k.1.1)
    ⟨⟨⟨0, Nat.zero_le _⟩, 0⟩, [0, 1, 2, 3, 4, 5, 6, 7, 8, 9], ?_⟩ ?_
  · (repeat' first | refine And.intro ?_ ?_ | exact xeC | fail)
    all_goals (exact xmC)
  rintro ⟨⟨k, hk⟩, c⟩
  repeat' (first | (fail_if_success (with_reducible refine xstp ?_)); first | ((with_reducible refine And.intro (fun (hb : _ = true) => ?_) (fun (hb : _ = false) => ?_)) <;> replace hb := xnC hb <;> (try first | exact xfC | exact bff hb (by assumption) | exact bff (by assumption) hb)) | (with_reducible intro hc; (try simp only [capsP, and_true] at hc); (try exact xfC)) | ((fail_if_success (with_reducible first | refine xgon ?_ | intro _)); (conv => whnf); (fail_if_success (fail_if_success (with_reducible first | refine xstp ?_ | refine xgon ?_ | intro _)))))
  · have hw := held_wr hf (q := bQ dw D) (m := k) (D := D) rfl rfl h64 W0 (at' := k) (p := ⟨#[120]⟩) (if_pos (by omega))
    refine cH18oP1 (σ := [.whole 4, .whole 5, .whole 6, .whole 7, .whole 8, .whole 9]) (nl := []) (cwrite 7 50 (bQ dw D) (hW (bF m) k D W0) c (fun _ => 0) k ⟨#[120]⟩ (hW_ok _ _ _) (by show (heldL _ _ _).length ≤ _; rw [held_len]; omega) ⟨show (0 : Int) ≤ k by omega, show (k : Int) ≤ 1000000 by omega⟩) ?_ (hle := by (repeat' first | refine And.intro ?_ ?_ | exact xeC | fail) <;> exact xmC)
    rw [hw.1, hw.2.1, hw.2.2]
    rintro v h' ⟨c2, rfl, rfl⟩ hcaps
    refine rH18oP0 ?_
    repeat' (first | (fail_if_success (with_reducible refine xstp ?_)); first | ((with_reducible refine And.intro ?_ ?_); focus exact xoC) | ((fail_if_success (with_reducible first | refine xgon ?_ | intro _)); (conv => whnf); (fail_if_success (fail_if_success (with_reducible first | refine xstp ?_ | refine xgon ?_ | intro _)))))
    refine ⟨⟨⟨k + 1, by omega⟩, c2⟩, [0, 1, 2, 3, 4, 5, 6, 10, 8, 9], by simp only; omega, ?_⟩
    (repeat' first | refine And.intro ?_ ?_ | exact xeC | fail)
    all_goals (exact xmC)
  obtain rfl : k = m := by omega
  refine cH18oP1 (σ := [.whole 4, .whole 5, .whole 6, .whole 7, .whole 8, .whole 9]) (nl := []) (cmatchW 7 50 (bQ dw D) (hW (bF k) k D W0) c (fun _ => 0) 3 2 40 (bR dr rl) (hW_ok _ _ _) (by show (heldL _ _ _).length ≤ _; rw [held_len]; omega) ⟨show (0 : Int) ≤ k by omega, show (k : Int) ≤ 1000000 by omega⟩ (fun s hs => (held_w hf hs).2.1)) ?_ (hle := by (repeat' first | refine And.intro ?_ ?_ | exact xeC | fail) <;> exact xmC)
  rintro v h' ⟨cf1, rfl, rfl⟩ hcaps
  by_cases hbad : dr = true ∧ dw = false
  · rw [mb_bad hbad.1 hbad.2, ma_no (by rw [mb_bad hbad.1 hbad.2]; decide)]
    obtain ⟨rfl, rfl⟩ := hbad
    refine rH18oP0 ?_
    repeat' (first | (fail_if_success (with_reducible refine xstp ?_)); first | ((with_reducible refine And.intro (fun (hb : _ = true) => ?_) (fun (hb : _ = false) => ?_)) <;> replace hb := xnC hb <;> (try first | exact xfC | exact bff hb (by assumption) | exact bff (by assumption) hb)) | ((with_reducible refine And.intro ?_ ?_); focus exact xoC) | ((fail_if_success (with_reducible first | refine xgon ?_ | intro _)); (conv => whnf); (fail_if_success (fail_if_success (with_reducible first | refine xstp ?_ | refine xgon ?_ | intro _)))))
    refine cH18oP1 (σ := [.whole 4, .whole 5, .whole 6, .whole 7, .whole 10, .whole 11]) (nl := []) (cpollW 7 50 (bQ false D) (hW (bF k) k D W0) c cf1 50 (hW_ok _ _ _) (Nat.zero_le _) (by show (heldL _ _ _).length ≤ _; rw [held_len]; omega) ⟨show (0 : Int) ≤ k by omega, show (k : Int) ≤ 1000000 by omega⟩ (fun y p h => by cases h) (by decide) (held_t hf) ⟨Int.le_refl 0, show (0 : Int) ≤ 1099511627776 by decide⟩) ?_ (hle := by (repeat' first | refine And.intro ?_ ?_ | exact xeC | fail) <;> exact xmC)
    rw [no_poL]
    rintro v h' ⟨c3, cf3, co, rfl, rfl⟩ hcaps
    refine rH18oP0 ?_
    repeat' (first | (fail_if_success (with_reducible refine xstp ?_)); first | ((with_reducible refine And.intro (fun (hb : _ = true) => ?_) (fun (hb : _ = false) => ?_)) <;> replace hb := xnC hb <;> (try first | exact xfC | exact bff hb (by assumption) | exact bff (by assumption) hb)) | ((fail_if_success (with_reducible first | refine xgon ?_ | intro _)); (conv => whnf); (fail_if_success (fail_if_success (with_reducible first | refine xstp ?_ | refine xgon ?_ | intro _)))))
    refine cH18oP1 (σ := []) (nl := []) (cawake) ?_
    rintro v h' ⟨rfl, rfl⟩ hcaps
    refine rH18oP0 ?_
    repeat' (first | (fail_if_success (with_reducible refine xstp ?_)); first | ((with_reducible refine And.intro (fun (hb : _ = true) => ?_) (fun (hb : _ = false) => ?_)) <;> replace hb := xnC hb <;> (try first | exact xfC | exact bff hb (by assumption) | exact bff (by assumption) hb | (exfalso; simp only [List.length_nil] at hb; omega) | (exfalso; revert hb; decide) | (exfalso; simp at hb; done))) | (with_reducible refine Both.mk ?_ ?_) | ((with_reducible refine And.intro ?_ ?_); focus exact xoC) | ((with_reducible refine Or.inl ⟨?_, ?_, ?_⟩); (focus rfl); focus exact xaC) | ((with_reducible refine xwB ?_ ?_); focus exact xaC) | ((with_reducible refine xwC ?_ ?_); focus exact xaC) | ((with_reducible refine xwD ?_ ?_); focus exact xaC) | ((with_reducible refine xwE ?_ ?_); focus exact xaC) | (with_reducible intro hc; (try simp only [capsP, and_true] at hc); (try exact xfC)) | ((fail_if_success (with_reducible first | refine xgon ?_ | intro _)); (conv => whnf); (fail_if_success (fail_if_success (with_reducible first | refine xstp ?_ | refine Both.mk ?_ ?_ | refine xgon ?_ | intro _)))))
    refine FinK.mk ⟨[], _, _, ⟨rfl, rfl⟩, ?_⟩; (repeat' first | refine And.intro ?_ ?_ | exact xeC | fail)
  rw [mb_ok hbad, mb_W (by omega) h64.1 hbad]
  cases dw <;> cases dr
  rotate_left 1
  · exact absurd ⟨rfl, rfl⟩ hbad
  rotate_left 1
  · have hs : bS true true k D = k - min k D := bS_tt k D
    generalize bS true true k D = s at *
    have hsk : s ≤ k := by omega
    refine rH18oP0 ?_
    repeat' (first | (fail_if_success (with_reducible refine xstp ?_)); first | ((with_reducible refine And.intro (fun (hb : _ = true) => ?_) (fun (hb : _ = false) => ?_)) <;> replace hb := xnC hb <;> (try first | exact xfC | exact bff hb (by assumption) | exact bff (by assumption) hb)) | ((with_reducible refine And.intro ?_ ?_); focus exact xoC) | ((fail_if_success (with_reducible first | refine xgon ?_ | intro _)); (conv => whnf); (fail_if_success (fail_if_success (with_reducible first | refine xstp ?_ | refine xgon ?_ | intro _)))))
    refine cH18oP1 (σ := [.whole 4, .name 5, .whole 6, .whole 10, .name 11]) (nl := []) (cacked 7 50 k (bQ true D) (oneW (heldL (bF k) k D) k (bP rl s)) cf1 3 (oneW_ok _ _ _)) ?_ (hle := by (repeat' first | refine And.intro ?_ ?_ | exact xeC | fail) <;> exact xmC)
    rintro v h' ⟨rfl, rfl⟩ hcaps
    rw [show (oneW (heldL (bF k) k D) k (bP rl s)).acked 3 = (s : Int) from rfl]
    refine rH18oP0 ?_
    repeat' (first | (fail_if_success (with_reducible refine xstp ?_)); first | ((with_reducible refine And.intro (fun (hb : _ = true) => ?_) (fun (hb : _ = false) => ?_)) <;> replace hb := xnC hb <;> (try first | exact xfC | exact bff hb (by assumption) | exact bff (by assumption) hb)) | ((with_reducible refine And.intro ?_ ?_); focus exact xoC) | ((fail_if_success (with_reducible first | refine xgon ?_ | intro _)); (conv => whnf); (fail_if_success (fail_if_success (with_reducible first | refine xstp ?_ | refine xgon ?_ | intro _)))))
    have hw : wrE 7 (bQ true D) (oneW (heldL (bF k) k D) k (bP rl s)) 45 ⟨#[121]⟩ = 0 ∧ wrN 7 (bQ true D) (oneW (heldL (bF k) k D) k (bP rl s)) 45 ⟨#[121]⟩ = (k : Int) + 1 ∧ wrW 7 (bQ true D) (oneW (heldL (bF k) k D) k (bP rl s)) 45 ⟨#[121]⟩ = oneW (heldL (bF k) (k + 1) D) ((k + 1 : Nat) : Int) (bP rl s) :=
      held_wr hf (q := bQ true D) (m := k) (D := D) rfl rfl h64 (oneW [] 0 (bP rl s)) (at' := 45) (p := ⟨#[121]⟩) (if_neg (by omega))
    refine cH18oP1 (σ := [.whole 4, .whole 5, .whole 6, .whole 7, .whole 10, .whole 11]) (nl := []) (cwrite 7 50 (bQ true D) (oneW (heldL (bF k) k D) k (bP rl s)) c cf1 45 ⟨#[121]⟩ (oneW_ok _ _ _) (by show (heldL _ _ _).length ≤ _; rw [held_len]; omega) ⟨show (0 : Int) ≤ k by omega, show (k : Int) ≤ 1000000 by omega⟩) ?_ (hle := by (repeat' first | refine And.intro ?_ ?_ | exact xeC | fail) <;> exact xmC)
    rw [hw.1, hw.2.1, hw.2.2]
    rintro v h' ⟨c2, rfl, rfl⟩ hcaps
    refine rH18oP0 ?_
    repeat' (first | (fail_if_success (with_reducible refine xstp ?_)); first | ((with_reducible refine And.intro (fun (hb : _ = true) => ?_) (fun (hb : _ = false) => ?_)) <;> replace hb := xnC hb <;> (try first | exact xfC | exact bff hb (by assumption) | exact bff (by assumption) hb)) | ((fail_if_success (with_reducible first | refine xgon ?_ | intro _)); (conv => whnf); (fail_if_success (fail_if_success (with_reducible first | refine xstp ?_ | refine xgon ?_ | intro _)))))
    have hmax : max 1 ((k : Int) - IntKind.i64.wrap ((a : Int).tmod 64)) = (s : Int) + 1 := by omega
    have hL := late_is hf (m := k + 1) (D := D) (s := s) (p := bP rl s) (at' := 50) (by omega) rfl rfl rfl rfl
    have hP : PrOk ((k + 1 : Nat) : Int) (bP rl s) := bP_ok rl (by omega) (by omega)
    have hpo : poL 7 (bQ true D) 50 (oneW (heldL (bF k) (k + 1) D) ((k + 1 : Nat) : Int) (bP rl s)) = polL 7 (heldL (bF k) (k + 1) D) 3 (bP rl s) ((k + 1 : Nat) : Int) 50 := by
      rw [one_poL (by decide), (exp_zero (q := bQ true D) rfl (heldL (bF k) (k + 1) D) 50).2]
    refine cH18oP1 (σ := [.whole 4, .whole 5, .whole 6, .whole 12, .whole 10, .whole 11]) (nl := []) (cpollW 7 50 (bQ true D) (oneW (heldL (bF k) (k + 1) D) ((k + 1 : Nat) : Int) (bP rl s)) c2 cf1 50 (oneW_ok _ _ _) (show 1 ≤ 12 by decide) (by show (heldL _ _ _).length ≤ _; rw [held_len]; omega) ⟨show (0 : Int) ≤ (k + 1 : Nat) by omega, show ((k + 1 : Nat) : Int) ≤ 1000000 by omega⟩ (oneW_D hP) (by decide) (held_t hf) ⟨Int.le_refl 0, show (0 : Int) ≤ 1099511627776 by decide⟩) ?_ (hle := by (repeat' first | refine And.intro ?_ ?_ | exact xeC | fail) <;> exact xmC)
    rw [hpo]
    generalize polL 7 (heldL (bF k) (k + 1) D) 3 (bP rl s) ((k + 1 : Nat) : Int) 50 = L at *
    rintro v h' ⟨c3, cf3, co, rfl, rfl⟩ hcaps
    have hle := hL.le
    rcases Nat.eq_zero_or_pos s with h0 | h0
    · refine rH18oP0 ?_
      repeat' (first | (fail_if_success (with_reducible refine xstp ?_)); first | ((with_reducible refine And.intro (fun (hb : _ = true) => ?_) (fun (hb : _ = false) => ?_)) <;> replace hb := xnC hb <;> (try first | exact xfC | exact bff hb (by assumption) | exact bff (by assumption) hb)) | ((fail_if_success (with_reducible first | refine xgon ?_ | intro _)); (conv => whnf); (fail_if_success (fail_if_success (with_reducible first | refine xstp ?_ | refine xgon ?_ | intro _)))))
      rw [hmax]
      refine LoopK.mk' {i : Nat // i ≤ L.length}
        (fun ⟨i, _⟩ => ⟨[(0, .c (.i .u8 a)), (8, .c (.b rl)), (9, .c (.i .i64 k)), (16, .c (.i .i64 ((s : Int) + 1))), (19, .c (.sl 0 0 11 0 L.length co)), (21, .c (.i .i64 (sn L i))), (22, .c (.i .i64 i))], [.one (pkR true L co)]⟩)
        (fun i => L.length - i.1)
        ⟨⟨0, by omega⟩, [15], ?_⟩ ?_
      · (repeat' first | refine And.intro ?_ ?_ | exact xeC | fail)
        all_goals first | omega | rfl
      rintro ⟨i, hi⟩
      have hdt := hL.dt i
      have hhb : i < L.length → (L.getD i default).k = 2 → rl = true ∧ (L.getD i default).f = (s : Int) + 1 ∧ (L.getD i default).la = ((k + 1 : Nat) : Int) ∧ i + 1 = L.length := hL.hb i
      have hsn := sn_le L i
      have hcn : L.length ≤ i → sn L i = k + 1 - s - ((k + 1 - min (k + 1) D) - s) := fun h => by
        rw [show i = L.length by omega, sn_all]
        exact hL.cn
      repeat' (first | (fail_if_success (with_reducible refine xstp ?_)); first | ((with_reducible refine And.intro (fun (hb : _ = true) => ?_) (fun (hb : _ = false) => ?_)) <;> replace hb := xnC hb <;> (try first | exact xfC | exact bff hb (by assumption) | exact bff (by assumption) hb)) | ((with_reducible refine And.intro ?_ ?_); focus exact xoC) | (with_reducible intro hc; (try simp only [capsP, and_true] at hc); (try exact xfC)) | ((fail_if_success (with_reducible first | refine xgon ?_ | intro _)); (conv => whnf); (fail_if_success (fail_if_success (with_reducible first | refine xstp ?_ | refine xgon ?_ | intro _)))))
      · refine ⟨⟨i + 1, by omega⟩, [0], by simp only; omega, ?_⟩
        have hnx := sn_next (L := L) (i := i) (by omega)
        rw [if_pos (by assumption)] at hnx
        (repeat' first | refine And.intro ?_ ?_ | exact xeC | fail)
        all_goals (rw [hnx]; omega)
      · have := hhb (by omega) (by assumption)
        rw [hb] at this
        exact absurd this.1 (by decide)
      · refine ⟨⟨i + 1, by omega⟩, [0], by simp only; omega, ?_⟩
        have hnx := sn_next (L := L) (i := i) (by omega)
        rw [if_neg (by assumption)] at hnx
        (repeat' first | refine And.intro ?_ ?_ | exact xeC | fail)
        all_goals (rw [hnx]; omega)
      · refine ⟨⟨i + 1, by omega⟩, [0], by simp only; omega, ?_⟩
        have hnx := sn_next (L := L) (i := i) (by omega)
        rw [if_neg (by assumption)] at hnx
        (repeat' first | refine And.intro ?_ ?_ | exact xeC | fail)
        all_goals (rw [hnx]; omega)
      · refine cH18oP1 (σ := []) (nl := []) (cawake) ?_
        rintro v h' ⟨rfl, rfl⟩ hcaps
        refine rH18oP0 ?_
        repeat' (first | (fail_if_success (with_reducible refine xstp ?_)); first | ((with_reducible refine And.intro (fun (hb : _ = true) => ?_) (fun (hb : _ = false) => ?_)) <;> replace hb := xnC hb <;> (try first | exact xfC | exact bff hb (by assumption) | exact bff (by assumption) hb | (exfalso; simp only [List.length_nil] at hb; omega) | (exfalso; revert hb; decide) | (exfalso; simp at hb; done))) | (with_reducible refine Both.mk ?_ ?_) | ((with_reducible refine And.intro ?_ ?_); focus exact xoC) | ((with_reducible refine Or.inl ⟨?_, ?_, ?_⟩); (focus rfl); focus exact xaC) | ((with_reducible refine xwB ?_ ?_); focus exact xaC) | ((with_reducible refine xwC ?_ ?_); focus exact xaC) | ((with_reducible refine xwD ?_ ?_); focus exact xaC) | ((with_reducible refine xwE ?_ ?_); focus exact xaC) | (with_reducible intro hc; (try simp only [capsP, and_true] at hc); (try exact xfC)) | ((fail_if_success (with_reducible first | refine xgon ?_ | intro _)); (conv => whnf); (fail_if_success (fail_if_success (with_reducible first | refine xstp ?_ | refine Both.mk ?_ ?_ | refine xgon ?_ | intro _)))))
        refine FinK.mk ⟨[], _, _, ⟨rfl, rfl⟩, ?_⟩; (repeat' first | refine And.intro ?_ ?_ | exact xeC | fail)
      all_goals (
        exfalso
        have := hcn (by omega)
        omega)
    obtain ⟨g1, g2, g3, g4, g5⟩ := hL.gap h0
    rw [show (0 : Nat) = Int.toNat 0 from rfl] at g2 g3 g4 g5
    refine rH18oP0 ?_
    repeat' (first | (fail_if_success (with_reducible refine xstp ?_)); first | ((with_reducible refine And.intro (fun (hb : _ = true) => ?_) (fun (hb : _ = false) => ?_)) <;> replace hb := xnC hb <;> (try first | exact xfC | exact bff hb (by assumption) | exact bff (by assumption) hb)) | ((with_reducible refine And.intro ?_ ?_); focus exact xoC) | ((fail_if_success (with_reducible first | refine xgon ?_ | intro _)); (conv => whnf); (fail_if_success (fail_if_success (with_reducible first | refine xstp ?_ | refine xgon ?_ | intro _)))))
    rw [hmax]
    refine LoopK.mk' {i : Nat // i ≤ L.length}
      (fun ⟨i, _⟩ => ⟨[(0, .c (.i .u8 a)), (8, .c (.b rl)), (9, .c (.i .i64 k)), (16, .c (.i .i64 ((s : Int) + 1))), (19, .c (.sl 0 0 11 0 L.length co)), (21, .c (.i .i64 (sn L i))), (22, .c (.i .i64 i))], [.one (pkR true L co)]⟩)
      (fun i => L.length - i.1)
      ⟨⟨1, by omega⟩, [15], ?_⟩ ?_
    · (repeat' first | refine And.intro ?_ ?_ | exact xeC | fail)
      all_goals first | omega | (rw [sn_1 (by omega) (by rw [show (L.getD 0 default).k = 4 from g2]; decide)]; rfl)
    rintro ⟨i, hi⟩
    have hdt := hL.dt i
    have hhb : i < L.length → (L.getD i default).k = 2 → rl = true ∧ (L.getD i default).f = (s : Int) + 1 ∧ (L.getD i default).la = ((k + 1 : Nat) : Int) ∧ i + 1 = L.length := hL.hb i
    have hsn := sn_le L i
    have hcn : L.length ≤ i → sn L i = k + 1 - s - ((k + 1 - min (k + 1) D) - s) := fun h => by
      rw [show i = L.length by omega, sn_all]
      exact hL.cn
    repeat' (first | (fail_if_success (with_reducible refine xstp ?_)); first | ((with_reducible refine And.intro (fun (hb : _ = true) => ?_) (fun (hb : _ = false) => ?_)) <;> replace hb := xnC hb <;> (try first | exact xfC | exact bff hb (by assumption) | exact bff (by assumption) hb)) | ((with_reducible refine And.intro ?_ ?_); focus exact xoC) | (with_reducible intro hc; (try simp only [capsP, and_true] at hc); (try exact xfC)) | ((fail_if_success (with_reducible first | refine xgon ?_ | intro _)); (conv => whnf); (fail_if_success (fail_if_success (with_reducible first | refine xstp ?_ | refine xgon ?_ | intro _)))))
    · refine ⟨⟨i + 1, by omega⟩, [0], by simp only; omega, ?_⟩
      have hnx := sn_next (L := L) (i := i) (by omega)
      rw [if_pos (by assumption)] at hnx
      (repeat' first | refine And.intro ?_ ?_ | exact xeC | fail)
      all_goals (rw [hnx]; omega)
    · have := hhb (by omega) (by assumption)
      rw [hb] at this
      exact absurd this.1 (by decide)
    · refine ⟨⟨i + 1, by omega⟩, [0], by simp only; omega, ?_⟩
      have hnx := sn_next (L := L) (i := i) (by omega)
      rw [if_neg (by assumption)] at hnx
      (repeat' first | refine And.intro ?_ ?_ | exact xeC | fail)
      all_goals (rw [hnx]; omega)
    · refine ⟨⟨i + 1, by omega⟩, [0], by simp only; omega, ?_⟩
      have hnx := sn_next (L := L) (i := i) (by omega)
      rw [if_neg (by assumption)] at hnx
      (repeat' first | refine And.intro ?_ ?_ | exact xeC | fail)
      all_goals (rw [hnx]; omega)
    · refine cH18oP1 (σ := []) (nl := []) (cawake) ?_
      rintro v h' ⟨rfl, rfl⟩ hcaps
      refine rH18oP0 ?_
      repeat' (first | (fail_if_success (with_reducible refine xstp ?_)); first | ((with_reducible refine And.intro (fun (hb : _ = true) => ?_) (fun (hb : _ = false) => ?_)) <;> replace hb := xnC hb <;> (try first | exact xfC | exact bff hb (by assumption) | exact bff (by assumption) hb | (exfalso; simp only [List.length_nil] at hb; omega) | (exfalso; revert hb; decide) | (exfalso; simp at hb; done))) | (with_reducible refine Both.mk ?_ ?_) | ((with_reducible refine And.intro ?_ ?_); focus exact xoC) | ((with_reducible refine Or.inl ⟨?_, ?_, ?_⟩); (focus rfl); focus exact xaC) | ((with_reducible refine xwB ?_ ?_); focus exact xaC) | ((with_reducible refine xwC ?_ ?_); focus exact xaC) | ((with_reducible refine xwD ?_ ?_); focus exact xaC) | ((with_reducible refine xwE ?_ ?_); focus exact xaC) | (with_reducible intro hc; (try simp only [capsP, and_true] at hc); (try exact xfC)) | ((fail_if_success (with_reducible first | refine xgon ?_ | intro _)); (conv => whnf); (fail_if_success (fail_if_success (with_reducible first | refine xstp ?_ | refine Both.mk ?_ ?_ | refine xgon ?_ | intro _)))))
      refine FinK.mk ⟨[], _, _, ⟨rfl, rfl⟩, ?_⟩; (repeat' first | refine And.intro ?_ ?_ | exact xeC | fail)
    all_goals (
      exfalso
      have := hcn (by omega)
      omega)
  · have hs : bS false false k D = k := bS_ff k D
    generalize bS false false k D = s at *
    have hsk : s ≤ k := by omega
    refine rH18oP0 ?_
    repeat' (first | (fail_if_success (with_reducible refine xstp ?_)); first | ((with_reducible refine And.intro (fun (hb : _ = true) => ?_) (fun (hb : _ = false) => ?_)) <;> replace hb := xnC hb <;> (try first | exact xfC | exact bff hb (by assumption) | exact bff (by assumption) hb)) | ((with_reducible refine And.intro ?_ ?_); focus exact xoC) | ((fail_if_success (with_reducible first | refine xgon ?_ | intro _)); (conv => whnf); (fail_if_success (fail_if_success (with_reducible first | refine xstp ?_ | refine xgon ?_ | intro _)))))
    refine cH18oP1 (σ := [.whole 4, .name 5, .whole 6, .whole 10, .name 11]) (nl := []) (cacked 7 50 k (bQ false D) (oneW (heldL (bF k) k D) k (bP rl s)) cf1 3 (oneW_ok _ _ _)) ?_ (hle := by (repeat' first | refine And.intro ?_ ?_ | exact xeC | fail) <;> exact xmC)
    rintro v h' ⟨rfl, rfl⟩ hcaps
    rw [show (oneW (heldL (bF k) k D) k (bP rl s)).acked 3 = (s : Int) from rfl]
    refine rH18oP0 ?_
    repeat' (first | (fail_if_success (with_reducible refine xstp ?_)); first | ((with_reducible refine And.intro (fun (hb : _ = true) => ?_) (fun (hb : _ = false) => ?_)) <;> replace hb := xnC hb <;> (try first | exact xfC | exact bff hb (by assumption) | exact bff (by assumption) hb)) | ((with_reducible refine And.intro ?_ ?_); focus exact xoC) | ((fail_if_success (with_reducible first | refine xgon ?_ | intro _)); (conv => whnf); (fail_if_success (fail_if_success (with_reducible first | refine xstp ?_ | refine xgon ?_ | intro _)))))
    have hw : wrE 7 (bQ false D) (oneW (heldL (bF k) k D) k (bP rl s)) 45 ⟨#[121]⟩ = 0 ∧ wrN 7 (bQ false D) (oneW (heldL (bF k) k D) k (bP rl s)) 45 ⟨#[121]⟩ = (k : Int) + 1 ∧ wrW 7 (bQ false D) (oneW (heldL (bF k) k D) k (bP rl s)) 45 ⟨#[121]⟩ = oneW (heldL (bF k) (k + 1) D) ((k + 1 : Nat) : Int) (bP rl s) :=
      held_wr hf (q := bQ false D) (m := k) (D := D) rfl rfl h64 (oneW [] 0 (bP rl s)) (at' := 45) (p := ⟨#[121]⟩) (if_neg (by omega))
    refine cH18oP1 (σ := [.whole 4, .whole 5, .whole 6, .whole 7, .whole 10, .whole 11]) (nl := []) (cwrite 7 50 (bQ false D) (oneW (heldL (bF k) k D) k (bP rl s)) c cf1 45 ⟨#[121]⟩ (oneW_ok _ _ _) (by show (heldL _ _ _).length ≤ _; rw [held_len]; omega) ⟨show (0 : Int) ≤ k by omega, show (k : Int) ≤ 1000000 by omega⟩) ?_ (hle := by (repeat' first | refine And.intro ?_ ?_ | exact xeC | fail) <;> exact xmC)
    rw [hw.1, hw.2.1, hw.2.2]
    rintro v h' ⟨c2, rfl, rfl⟩ hcaps
    refine rH18oP0 ?_
    repeat' (first | (fail_if_success (with_reducible refine xstp ?_)); first | ((with_reducible refine And.intro (fun (hb : _ = true) => ?_) (fun (hb : _ = false) => ?_)) <;> replace hb := xnC hb <;> (try first | exact xfC | exact bff hb (by assumption) | exact bff (by assumption) hb)) | ((fail_if_success (with_reducible first | refine xgon ?_ | intro _)); (conv => whnf); (fail_if_success (fail_if_success (with_reducible first | refine xstp ?_ | refine xgon ?_ | intro _)))))
    have hL := late_is hf (m := k + 1) (D := D) (s := s) (p := bP rl s) (at' := 50) (by omega) rfl rfl rfl rfl
    have hP : PrOk ((k + 1 : Nat) : Int) (bP rl s) := bP_ok rl (by omega) (by omega)
    have hpo : poL 7 (bQ false D) 50 (oneW (heldL (bF k) (k + 1) D) ((k + 1 : Nat) : Int) (bP rl s)) = polL 7 (heldL (bF k) (k + 1) D) 3 (bP rl s) ((k + 1 : Nat) : Int) 50 := by
      rw [one_poL (by decide), (exp_zero (q := bQ false D) rfl (heldL (bF k) (k + 1) D) 50).2]
    refine cH18oP1 (σ := [.whole 4, .whole 5, .whole 6, .whole 12, .whole 10, .whole 11]) (nl := []) (cpollW 7 50 (bQ false D) (oneW (heldL (bF k) (k + 1) D) ((k + 1 : Nat) : Int) (bP rl s)) c2 cf1 50 (oneW_ok _ _ _) (show 1 ≤ 12 by decide) (by show (heldL _ _ _).length ≤ _; rw [held_len]; omega) ⟨show (0 : Int) ≤ (k + 1 : Nat) by omega, show ((k + 1 : Nat) : Int) ≤ 1000000 by omega⟩ (oneW_D hP) (by decide) (held_t hf) ⟨Int.le_refl 0, show (0 : Int) ≤ 1099511627776 by decide⟩) ?_ (hle := by (repeat' first | refine And.intro ?_ ?_ | exact xeC | fail) <;> exact xmC)
    rw [hpo]
    generalize polL 7 (heldL (bF k) (k + 1) D) 3 (bP rl s) ((k + 1 : Nat) : Int) 50 = L at *
    rintro v h' ⟨c3, cf3, co, rfl, rfl⟩ hcaps
    have hle := hL.le
    rcases Nat.eq_zero_or_pos s with h0 | h0
    · refine rH18oP0 ?_
      repeat' (first | (fail_if_success (with_reducible refine xstp ?_)); first | ((with_reducible refine And.intro (fun (hb : _ = true) => ?_) (fun (hb : _ = false) => ?_)) <;> replace hb := xnC hb <;> (try first | exact xfC | exact bff hb (by assumption) | exact bff (by assumption) hb)) | ((fail_if_success (with_reducible first | refine xgon ?_ | intro _)); (conv => whnf); (fail_if_success (fail_if_success (with_reducible first | refine xstp ?_ | refine xgon ?_ | intro _)))))
      refine LoopK.mk' {i : Nat // i ≤ L.length}
        (fun ⟨i, _⟩ => ⟨[(0, .c (.i .u8 a)), (8, .c (.b rl)), (9, .c (.i .i64 k)), (16, .c (.i .i64 ((s : Int) + 1))), (19, .c (.sl 0 0 11 0 L.length co)), (21, .c (.i .i64 (sn L i))), (22, .c (.i .i64 i))], [.one (pkR true L co)]⟩)
        (fun i => L.length - i.1)
        ⟨⟨0, by omega⟩, [15], ?_⟩ ?_
      · (repeat' first | refine And.intro ?_ ?_ | exact xeC | fail)
        all_goals first | omega | rfl
      rintro ⟨i, hi⟩
      have hdt := hL.dt i
      have hhb : i < L.length → (L.getD i default).k = 2 → rl = true ∧ (L.getD i default).f = (s : Int) + 1 ∧ (L.getD i default).la = ((k + 1 : Nat) : Int) ∧ i + 1 = L.length := hL.hb i
      have hsn := sn_le L i
      have hcn : L.length ≤ i → sn L i = k + 1 - s - ((k + 1 - min (k + 1) D) - s) := fun h => by
        rw [show i = L.length by omega, sn_all]
        exact hL.cn
      repeat' (first | (fail_if_success (with_reducible refine xstp ?_)); first | ((with_reducible refine And.intro (fun (hb : _ = true) => ?_) (fun (hb : _ = false) => ?_)) <;> replace hb := xnC hb <;> (try first | exact xfC | exact bff hb (by assumption) | exact bff (by assumption) hb)) | ((with_reducible refine And.intro ?_ ?_); focus exact xoC) | (with_reducible intro hc; (try simp only [capsP, and_true] at hc); (try exact xfC)) | ((fail_if_success (with_reducible first | refine xgon ?_ | intro _)); (conv => whnf); (fail_if_success (fail_if_success (with_reducible first | refine xstp ?_ | refine xgon ?_ | intro _)))))
      · refine ⟨⟨i + 1, by omega⟩, [0], by simp only; omega, ?_⟩
        have hnx := sn_next (L := L) (i := i) (by omega)
        rw [if_pos (by assumption)] at hnx
        (repeat' first | refine And.intro ?_ ?_ | exact xeC | fail)
        all_goals (rw [hnx]; omega)
      · have := hhb (by omega) (by assumption)
        rw [hb] at this
        exact absurd this.1 (by decide)
      · refine ⟨⟨i + 1, by omega⟩, [0], by simp only; omega, ?_⟩
        have hnx := sn_next (L := L) (i := i) (by omega)
        rw [if_neg (by assumption)] at hnx
        (repeat' first | refine And.intro ?_ ?_ | exact xeC | fail)
        all_goals (rw [hnx]; omega)
      · refine ⟨⟨i + 1, by omega⟩, [0], by simp only; omega, ?_⟩
        have hnx := sn_next (L := L) (i := i) (by omega)
        rw [if_neg (by assumption)] at hnx
        (repeat' first | refine And.intro ?_ ?_ | exact xeC | fail)
        all_goals (rw [hnx]; omega)
      · refine cH18oP1 (σ := []) (nl := []) (cawake) ?_
        rintro v h' ⟨rfl, rfl⟩ hcaps
        refine rH18oP0 ?_
        repeat' (first | (fail_if_success (with_reducible refine xstp ?_)); first | ((with_reducible refine And.intro (fun (hb : _ = true) => ?_) (fun (hb : _ = false) => ?_)) <;> replace hb := xnC hb <;> (try first | exact xfC | exact bff hb (by assumption) | exact bff (by assumption) hb | (exfalso; simp only [List.length_nil] at hb; omega) | (exfalso; revert hb; decide) | (exfalso; simp at hb; done))) | (with_reducible refine Both.mk ?_ ?_) | ((with_reducible refine And.intro ?_ ?_); focus exact xoC) | ((with_reducible refine Or.inl ⟨?_, ?_, ?_⟩); (focus rfl); focus exact xaC) | ((with_reducible refine xwB ?_ ?_); focus exact xaC) | ((with_reducible refine xwC ?_ ?_); focus exact xaC) | ((with_reducible refine xwD ?_ ?_); focus exact xaC) | ((with_reducible refine xwE ?_ ?_); focus exact xaC) | (with_reducible intro hc; (try simp only [capsP, and_true] at hc); (try exact xfC)) | ((fail_if_success (with_reducible first | refine xgon ?_ | intro _)); (conv => whnf); (fail_if_success (fail_if_success (with_reducible first | refine xstp ?_ | refine Both.mk ?_ ?_ | refine xgon ?_ | intro _)))))
        refine FinK.mk ⟨[], _, _, ⟨rfl, rfl⟩, ?_⟩; (repeat' first | refine And.intro ?_ ?_ | exact xeC | fail)
      all_goals (
        exfalso
        have := hcn (by omega)
        omega)
    obtain ⟨g1, g2, g3, g4, g5⟩ := hL.gap h0
    rw [show (0 : Nat) = Int.toNat 0 from rfl] at g2 g3 g4 g5
    refine rH18oP0 ?_
    repeat' (first | (fail_if_success (with_reducible refine xstp ?_)); first | ((with_reducible refine And.intro (fun (hb : _ = true) => ?_) (fun (hb : _ = false) => ?_)) <;> replace hb := xnC hb <;> (try first | exact xfC | exact bff hb (by assumption) | exact bff (by assumption) hb)) | ((with_reducible refine And.intro ?_ ?_); focus exact xoC) | ((fail_if_success (with_reducible first | refine xgon ?_ | intro _)); (conv => whnf); (fail_if_success (fail_if_success (with_reducible first | refine xstp ?_ | refine xgon ?_ | intro _)))))
    refine LoopK.mk' {i : Nat // i ≤ L.length}
      (fun ⟨i, _⟩ => ⟨[(0, .c (.i .u8 a)), (8, .c (.b rl)), (9, .c (.i .i64 k)), (16, .c (.i .i64 ((s : Int) + 1))), (19, .c (.sl 0 0 11 0 L.length co)), (21, .c (.i .i64 (sn L i))), (22, .c (.i .i64 i))], [.one (pkR true L co)]⟩)
      (fun i => L.length - i.1)
      ⟨⟨1, by omega⟩, [15], ?_⟩ ?_
    · (repeat' first | refine And.intro ?_ ?_ | exact xeC | fail)
      all_goals first | omega | (rw [sn_1 (by omega) (by rw [show (L.getD 0 default).k = 4 from g2]; decide)]; rfl)
    rintro ⟨i, hi⟩
    have hdt := hL.dt i
    have hhb : i < L.length → (L.getD i default).k = 2 → rl = true ∧ (L.getD i default).f = (s : Int) + 1 ∧ (L.getD i default).la = ((k + 1 : Nat) : Int) ∧ i + 1 = L.length := hL.hb i
    have hsn := sn_le L i
    have hcn : L.length ≤ i → sn L i = k + 1 - s - ((k + 1 - min (k + 1) D) - s) := fun h => by
      rw [show i = L.length by omega, sn_all]
      exact hL.cn
    repeat' (first | (fail_if_success (with_reducible refine xstp ?_)); first | ((with_reducible refine And.intro (fun (hb : _ = true) => ?_) (fun (hb : _ = false) => ?_)) <;> replace hb := xnC hb <;> (try first | exact xfC | exact bff hb (by assumption) | exact bff (by assumption) hb)) | ((with_reducible refine And.intro ?_ ?_); focus exact xoC) | (with_reducible intro hc; (try simp only [capsP, and_true] at hc); (try exact xfC)) | ((fail_if_success (with_reducible first | refine xgon ?_ | intro _)); (conv => whnf); (fail_if_success (fail_if_success (with_reducible first | refine xstp ?_ | refine xgon ?_ | intro _)))))
    · refine ⟨⟨i + 1, by omega⟩, [0], by simp only; omega, ?_⟩
      have hnx := sn_next (L := L) (i := i) (by omega)
      rw [if_pos (by assumption)] at hnx
      (repeat' first | refine And.intro ?_ ?_ | exact xeC | fail)
      all_goals (rw [hnx]; omega)
    · have := hhb (by omega) (by assumption)
      rw [hb] at this
      exact absurd this.1 (by decide)
    · refine ⟨⟨i + 1, by omega⟩, [0], by simp only; omega, ?_⟩
      have hnx := sn_next (L := L) (i := i) (by omega)
      rw [if_neg (by assumption)] at hnx
      (repeat' first | refine And.intro ?_ ?_ | exact xeC | fail)
      all_goals (rw [hnx]; omega)
    · refine ⟨⟨i + 1, by omega⟩, [0], by simp only; omega, ?_⟩
      have hnx := sn_next (L := L) (i := i) (by omega)
      rw [if_neg (by assumption)] at hnx
      (repeat' first | refine And.intro ?_ ?_ | exact xeC | fail)
      all_goals (rw [hnx]; omega)
    · refine cH18oP1 (σ := []) (nl := []) (cawake) ?_
      rintro v h' ⟨rfl, rfl⟩ hcaps
      refine rH18oP0 ?_
      repeat' (first | (fail_if_success (with_reducible refine xstp ?_)); first | ((with_reducible refine And.intro (fun (hb : _ = true) => ?_) (fun (hb : _ = false) => ?_)) <;> replace hb := xnC hb <;> (try first | exact xfC | exact bff hb (by assumption) | exact bff (by assumption) hb | (exfalso; simp only [List.length_nil] at hb; omega) | (exfalso; revert hb; decide) | (exfalso; simp at hb; done))) | (with_reducible refine Both.mk ?_ ?_) | ((with_reducible refine And.intro ?_ ?_); focus exact xoC) | ((with_reducible refine Or.inl ⟨?_, ?_, ?_⟩); (focus rfl); focus exact xaC) | ((with_reducible refine xwB ?_ ?_); focus exact xaC) | ((with_reducible refine xwC ?_ ?_); focus exact xaC) | ((with_reducible refine xwD ?_ ?_); focus exact xaC) | ((with_reducible refine xwE ?_ ?_); focus exact xaC) | (with_reducible intro hc; (try simp only [capsP, and_true] at hc); (try exact xfC)) | ((fail_if_success (with_reducible first | refine xgon ?_ | intro _)); (conv => whnf); (fail_if_success (fail_if_success (with_reducible first | refine xstp ?_ | refine Both.mk ?_ ?_ | refine xgon ?_ | intro _)))))
      refine FinK.mk ⟨[], _, _, ⟨rfl, rfl⟩, ?_⟩; (repeat' first | refine And.intro ?_ ?_ | exact xeC | fail)
    all_goals (
      exfalso
      have := hcn (by omega)
      omega)
  · have hs : bS true false k D = k := bS_tf k D
    generalize bS true false k D = s at *
    have hsk : s ≤ k := by omega
    refine rH18oP0 ?_
    repeat' (first | (fail_if_success (with_reducible refine xstp ?_)); first | ((with_reducible refine And.intro (fun (hb : _ = true) => ?_) (fun (hb : _ = false) => ?_)) <;> replace hb := xnC hb <;> (try first | exact xfC | exact bff hb (by assumption) | exact bff (by assumption) hb)) | ((with_reducible refine And.intro ?_ ?_); focus exact xoC) | ((fail_if_success (with_reducible first | refine xgon ?_ | intro _)); (conv => whnf); (fail_if_success (fail_if_success (with_reducible first | refine xstp ?_ | refine xgon ?_ | intro _)))))
    refine cH18oP1 (σ := [.whole 4, .name 5, .whole 6, .whole 10, .name 11]) (nl := []) (cacked 7 50 k (bQ true D) (oneW (heldL (bF k) k D) k (bP rl s)) cf1 3 (oneW_ok _ _ _)) ?_ (hle := by (repeat' first | refine And.intro ?_ ?_ | exact xeC | fail) <;> exact xmC)
    rintro v h' ⟨rfl, rfl⟩ hcaps
    rw [show (oneW (heldL (bF k) k D) k (bP rl s)).acked 3 = (s : Int) from rfl]
    refine rH18oP0 ?_
    repeat' (first | (fail_if_success (with_reducible refine xstp ?_)); first | ((with_reducible refine And.intro (fun (hb : _ = true) => ?_) (fun (hb : _ = false) => ?_)) <;> replace hb := xnC hb <;> (try first | exact xfC | exact bff hb (by assumption) | exact bff (by assumption) hb)) | ((with_reducible refine And.intro ?_ ?_); focus exact xoC) | ((fail_if_success (with_reducible first | refine xgon ?_ | intro _)); (conv => whnf); (fail_if_success (fail_if_success (with_reducible first | refine xstp ?_ | refine xgon ?_ | intro _)))))
    have hw : wrE 7 (bQ true D) (oneW (heldL (bF k) k D) k (bP rl s)) 45 ⟨#[121]⟩ = 0 ∧ wrN 7 (bQ true D) (oneW (heldL (bF k) k D) k (bP rl s)) 45 ⟨#[121]⟩ = (k : Int) + 1 ∧ wrW 7 (bQ true D) (oneW (heldL (bF k) k D) k (bP rl s)) 45 ⟨#[121]⟩ = oneW (heldL (bF k) (k + 1) D) ((k + 1 : Nat) : Int) (bP rl s) :=
      held_wr hf (q := bQ true D) (m := k) (D := D) rfl rfl h64 (oneW [] 0 (bP rl s)) (at' := 45) (p := ⟨#[121]⟩) (if_neg (by omega))
    refine cH18oP1 (σ := [.whole 4, .whole 5, .whole 6, .whole 7, .whole 10, .whole 11]) (nl := []) (cwrite 7 50 (bQ true D) (oneW (heldL (bF k) k D) k (bP rl s)) c cf1 45 ⟨#[121]⟩ (oneW_ok _ _ _) (by show (heldL _ _ _).length ≤ _; rw [held_len]; omega) ⟨show (0 : Int) ≤ k by omega, show (k : Int) ≤ 1000000 by omega⟩) ?_ (hle := by (repeat' first | refine And.intro ?_ ?_ | exact xeC | fail) <;> exact xmC)
    rw [hw.1, hw.2.1, hw.2.2]
    rintro v h' ⟨c2, rfl, rfl⟩ hcaps
    refine rH18oP0 ?_
    repeat' (first | (fail_if_success (with_reducible refine xstp ?_)); first | ((with_reducible refine And.intro (fun (hb : _ = true) => ?_) (fun (hb : _ = false) => ?_)) <;> replace hb := xnC hb <;> (try first | exact xfC | exact bff hb (by assumption) | exact bff (by assumption) hb)) | ((fail_if_success (with_reducible first | refine xgon ?_ | intro _)); (conv => whnf); (fail_if_success (fail_if_success (with_reducible first | refine xstp ?_ | refine xgon ?_ | intro _)))))
    have hL := late_is hf (m := k + 1) (D := D) (s := s) (p := bP rl s) (at' := 50) (by omega) rfl rfl rfl rfl
    have hP : PrOk ((k + 1 : Nat) : Int) (bP rl s) := bP_ok rl (by omega) (by omega)
    have hpo : poL 7 (bQ true D) 50 (oneW (heldL (bF k) (k + 1) D) ((k + 1 : Nat) : Int) (bP rl s)) = polL 7 (heldL (bF k) (k + 1) D) 3 (bP rl s) ((k + 1 : Nat) : Int) 50 := by
      rw [one_poL (by decide), (exp_zero (q := bQ true D) rfl (heldL (bF k) (k + 1) D) 50).2]
    refine cH18oP1 (σ := [.whole 4, .whole 5, .whole 6, .whole 12, .whole 10, .whole 11]) (nl := []) (cpollW 7 50 (bQ true D) (oneW (heldL (bF k) (k + 1) D) ((k + 1 : Nat) : Int) (bP rl s)) c2 cf1 50 (oneW_ok _ _ _) (show 1 ≤ 12 by decide) (by show (heldL _ _ _).length ≤ _; rw [held_len]; omega) ⟨show (0 : Int) ≤ (k + 1 : Nat) by omega, show ((k + 1 : Nat) : Int) ≤ 1000000 by omega⟩ (oneW_D hP) (by decide) (held_t hf) ⟨Int.le_refl 0, show (0 : Int) ≤ 1099511627776 by decide⟩) ?_ (hle := by (repeat' first | refine And.intro ?_ ?_ | exact xeC | fail) <;> exact xmC)
    rw [hpo]
    generalize polL 7 (heldL (bF k) (k + 1) D) 3 (bP rl s) ((k + 1 : Nat) : Int) 50 = L at *
    rintro v h' ⟨c3, cf3, co, rfl, rfl⟩ hcaps
    have hle := hL.le
    rcases Nat.eq_zero_or_pos s with h0 | h0
    · refine rH18oP0 ?_
      repeat' (first | (fail_if_success (with_reducible refine xstp ?_)); first | ((with_reducible refine And.intro (fun (hb : _ = true) => ?_) (fun (hb : _ = false) => ?_)) <;> replace hb := xnC hb <;> (try first | exact xfC | exact bff hb (by assumption) | exact bff (by assumption) hb)) | ((fail_if_success (with_reducible first | refine xgon ?_ | intro _)); (conv => whnf); (fail_if_success (fail_if_success (with_reducible first | refine xstp ?_ | refine xgon ?_ | intro _)))))
      refine LoopK.mk' {i : Nat // i ≤ L.length}
        (fun ⟨i, _⟩ => ⟨[(0, .c (.i .u8 a)), (8, .c (.b rl)), (9, .c (.i .i64 k)), (16, .c (.i .i64 ((s : Int) + 1))), (19, .c (.sl 0 0 11 0 L.length co)), (21, .c (.i .i64 (sn L i))), (22, .c (.i .i64 i))], [.one (pkR true L co)]⟩)
        (fun i => L.length - i.1)
        ⟨⟨0, by omega⟩, [15], ?_⟩ ?_
      · (repeat' first | refine And.intro ?_ ?_ | exact xeC | fail)
        all_goals first | omega | rfl
      rintro ⟨i, hi⟩
      have hdt := hL.dt i
      have hhb : i < L.length → (L.getD i default).k = 2 → rl = true ∧ (L.getD i default).f = (s : Int) + 1 ∧ (L.getD i default).la = ((k + 1 : Nat) : Int) ∧ i + 1 = L.length := hL.hb i
      have hsn := sn_le L i
      have hcn : L.length ≤ i → sn L i = k + 1 - s - ((k + 1 - min (k + 1) D) - s) := fun h => by
        rw [show i = L.length by omega, sn_all]
        exact hL.cn
      repeat' (first | (fail_if_success (with_reducible refine xstp ?_)); first | ((with_reducible refine And.intro (fun (hb : _ = true) => ?_) (fun (hb : _ = false) => ?_)) <;> replace hb := xnC hb <;> (try first | exact xfC | exact bff hb (by assumption) | exact bff (by assumption) hb)) | ((with_reducible refine And.intro ?_ ?_); focus exact xoC) | (with_reducible intro hc; (try simp only [capsP, and_true] at hc); (try exact xfC)) | ((fail_if_success (with_reducible first | refine xgon ?_ | intro _)); (conv => whnf); (fail_if_success (fail_if_success (with_reducible first | refine xstp ?_ | refine xgon ?_ | intro _)))))
      · refine ⟨⟨i + 1, by omega⟩, [0], by simp only; omega, ?_⟩
        have hnx := sn_next (L := L) (i := i) (by omega)
        rw [if_pos (by assumption)] at hnx
        (repeat' first | refine And.intro ?_ ?_ | exact xeC | fail)
        all_goals (rw [hnx]; omega)
      · have := hhb (by omega) (by assumption)
        rw [hb] at this
        exact absurd this.1 (by decide)
      · refine ⟨⟨i + 1, by omega⟩, [0], by simp only; omega, ?_⟩
        have hnx := sn_next (L := L) (i := i) (by omega)
        rw [if_neg (by assumption)] at hnx
        (repeat' first | refine And.intro ?_ ?_ | exact xeC | fail)
        all_goals (rw [hnx]; omega)
      · refine ⟨⟨i + 1, by omega⟩, [0], by simp only; omega, ?_⟩
        have hnx := sn_next (L := L) (i := i) (by omega)
        rw [if_neg (by assumption)] at hnx
        (repeat' first | refine And.intro ?_ ?_ | exact xeC | fail)
        all_goals (rw [hnx]; omega)
      · refine cH18oP1 (σ := []) (nl := []) (cawake) ?_
        rintro v h' ⟨rfl, rfl⟩ hcaps
        refine rH18oP0 ?_
        repeat' (first | (fail_if_success (with_reducible refine xstp ?_)); first | ((with_reducible refine And.intro (fun (hb : _ = true) => ?_) (fun (hb : _ = false) => ?_)) <;> replace hb := xnC hb <;> (try first | exact xfC | exact bff hb (by assumption) | exact bff (by assumption) hb | (exfalso; simp only [List.length_nil] at hb; omega) | (exfalso; revert hb; decide) | (exfalso; simp at hb; done))) | (with_reducible refine Both.mk ?_ ?_) | ((with_reducible refine And.intro ?_ ?_); focus exact xoC) | ((with_reducible refine Or.inl ⟨?_, ?_, ?_⟩); (focus rfl); focus exact xaC) | ((with_reducible refine xwB ?_ ?_); focus exact xaC) | ((with_reducible refine xwC ?_ ?_); focus exact xaC) | ((with_reducible refine xwD ?_ ?_); focus exact xaC) | ((with_reducible refine xwE ?_ ?_); focus exact xaC) | (with_reducible intro hc; (try simp only [capsP, and_true] at hc); (try exact xfC)) | ((fail_if_success (with_reducible first | refine xgon ?_ | intro _)); (conv => whnf); (fail_if_success (fail_if_success (with_reducible first | refine xstp ?_ | refine Both.mk ?_ ?_ | refine xgon ?_ | intro _)))))
        refine FinK.mk ⟨[], _, _, ⟨rfl, rfl⟩, ?_⟩; (repeat' first | refine And.intro ?_ ?_ | exact xeC | fail)
      all_goals (
        exfalso
        have := hcn (by omega)
        omega)
    obtain ⟨g1, g2, g3, g4, g5⟩ := hL.gap h0
    rw [show (0 : Nat) = Int.toNat 0 from rfl] at g2 g3 g4 g5
    refine rH18oP0 ?_
    repeat' (first | (fail_if_success (with_reducible refine xstp ?_)); first | ((with_reducible refine And.intro (fun (hb : _ = true) => ?_) (fun (hb : _ = false) => ?_)) <;> replace hb := xnC hb <;> (try first | exact xfC | exact bff hb (by assumption) | exact bff (by assumption) hb)) | ((with_reducible refine And.intro ?_ ?_); focus exact xoC) | ((fail_if_success (with_reducible first | refine xgon ?_ | intro _)); (conv => whnf); (fail_if_success (fail_if_success (with_reducible first | refine xstp ?_ | refine xgon ?_ | intro _)))))
    refine LoopK.mk' {i : Nat // i ≤ L.length}
      (fun ⟨i, _⟩ => ⟨[(0, .c (.i .u8 a)), (8, .c (.b rl)), (9, .c (.i .i64 k)), (16, .c (.i .i64 ((s : Int) + 1))), (19, .c (.sl 0 0 11 0 L.length co)), (21, .c (.i .i64 (sn L i))), (22, .c (.i .i64 i))], [.one (pkR true L co)]⟩)
      (fun i => L.length - i.1)
      ⟨⟨1, by omega⟩, [15], ?_⟩ ?_
    · (repeat' first | refine And.intro ?_ ?_ | exact xeC | fail)
      all_goals first | omega | (rw [sn_1 (by omega) (by rw [show (L.getD 0 default).k = 4 from g2]; decide)]; rfl)
    rintro ⟨i, hi⟩
    have hdt := hL.dt i
    have hhb : i < L.length → (L.getD i default).k = 2 → rl = true ∧ (L.getD i default).f = (s : Int) + 1 ∧ (L.getD i default).la = ((k + 1 : Nat) : Int) ∧ i + 1 = L.length := hL.hb i
    have hsn := sn_le L i
    have hcn : L.length ≤ i → sn L i = k + 1 - s - ((k + 1 - min (k + 1) D) - s) := fun h => by
      rw [show i = L.length by omega, sn_all]
      exact hL.cn
    repeat' (first | (fail_if_success (with_reducible refine xstp ?_)); first | ((with_reducible refine And.intro (fun (hb : _ = true) => ?_) (fun (hb : _ = false) => ?_)) <;> replace hb := xnC hb <;> (try first | exact xfC | exact bff hb (by assumption) | exact bff (by assumption) hb)) | ((with_reducible refine And.intro ?_ ?_); focus exact xoC) | (with_reducible intro hc; (try simp only [capsP, and_true] at hc); (try exact xfC)) | ((fail_if_success (with_reducible first | refine xgon ?_ | intro _)); (conv => whnf); (fail_if_success (fail_if_success (with_reducible first | refine xstp ?_ | refine xgon ?_ | intro _)))))
    · refine ⟨⟨i + 1, by omega⟩, [0], by simp only; omega, ?_⟩
      have hnx := sn_next (L := L) (i := i) (by omega)
      rw [if_pos (by assumption)] at hnx
      (repeat' first | refine And.intro ?_ ?_ | exact xeC | fail)
      all_goals (rw [hnx]; omega)
    · have := hhb (by omega) (by assumption)
      rw [hb] at this
      exact absurd this.1 (by decide)
    · refine ⟨⟨i + 1, by omega⟩, [0], by simp only; omega, ?_⟩
      have hnx := sn_next (L := L) (i := i) (by omega)
      rw [if_neg (by assumption)] at hnx
      (repeat' first | refine And.intro ?_ ?_ | exact xeC | fail)
      all_goals (rw [hnx]; omega)
    · refine ⟨⟨i + 1, by omega⟩, [0], by simp only; omega, ?_⟩
      have hnx := sn_next (L := L) (i := i) (by omega)
      rw [if_neg (by assumption)] at hnx
      (repeat' first | refine And.intro ?_ ?_ | exact xeC | fail)
      all_goals (rw [hnx]; omega)
    · refine cH18oP1 (σ := []) (nl := []) (cawake) ?_
      rintro v h' ⟨rfl, rfl⟩ hcaps
      refine rH18oP0 ?_
      repeat' (first | (fail_if_success (with_reducible refine xstp ?_)); first | ((with_reducible refine And.intro (fun (hb : _ = true) => ?_) (fun (hb : _ = false) => ?_)) <;> replace hb := xnC hb <;> (try first | exact xfC | exact bff hb (by assumption) | exact bff (by assumption) hb | (exfalso; simp only [List.length_nil] at hb; omega) | (exfalso; revert hb; decide) | (exfalso; simp at hb; done))) | (with_reducible refine Both.mk ?_ ?_) | ((with_reducible refine And.intro ?_ ?_); focus exact xoC) | ((with_reducible refine Or.inl ⟨?_, ?_, ?_⟩); (focus rfl); focus exact xaC) | ((with_reducible refine xwB ?_ ?_); focus exact xaC) | ((with_reducible refine xwC ?_ ?_); focus exact xaC) | ((with_reducible refine xwD ?_ ?_); focus exact xaC) | ((with_reducible refine xwE ?_ ?_); focus exact xaC) | (with_reducible intro hc; (try simp only [capsP, and_true] at hc); (try exact xfC)) | ((fail_if_success (with_reducible first | refine xgon ?_ | intro _)); (conv => whnf); (fail_if_success (fail_if_success (with_reducible first | refine xstp ?_ | refine Both.mk ?_ ?_ | refine xgon ?_ | intro _)))))
      refine FinK.mk ⟨[], _, _, ⟨rfl, rfl⟩, ?_⟩; (repeat' first | refine And.intro ?_ ?_ | exact xeC | fail)
    all_goals (
      exfalso
      have := hcn (by omega)
      omega)
end Go.Proofs.Ytofcadbfjbefkaa


namespace Go.Proofs.Ytofcadbfjbefkaa
open Go.X Go.RowKit
set_option linter.unusedVariables false
theorem nil_readB (β : Nm) (W : World) : Fits β [] W ∧ ∀ f x, (Go.X.get [] f x).owned = false := by
  have h : ∀ f x, Go.X.get [] f x = .no := fun f x => by simp [Go.X.get]
  have hno : ∀ f x, (Go.X.get [] f x).owned = false := fun f x => by rw [h]; rfl
  exact ⟨fits_read (fun f x => by rw [h]; trivial) hno, hno⟩
theorem walk_WriterBegins (W : World) (a0 : Int) (w0 : (Lit.int .u8 a0).wf = true) (a1 : Int) (w1 : (Lit.int .u8 a1).wf = true) (c2 : Array Value) (k2 : VKs W [.b, .b, .b] c2.toList) :
    Calls Try.prog 3 #[.int .u8 a0, .int .u8 a1, .agg c2] W fun e W' => e = .returned (.bool true) ∧ Below W.heap.size W W' := by
  obtain ⟨l2, f2, r2, _, _⟩ := flat_view (by rfl) k2
  obtain ⟨x0, _, rfl, h1⟩ := FT_b f2
  obtain ⟨x1, _, rfl, h2⟩ := FT_b h1
  obtain ⟨x2, _, rfl, h3⟩ := FT_b h2
  obtain rfl := FT_nil h3
  obtain ⟨hf, hno⟩ := nil_readB (fun _ _ => (0, 0, .nil)) W
  have := glue ((cbegins a0 a1 (wf_bounds w0) (wf_bounds w1) x0 x1 x2).mono' fun v h e => e.1) hf hno
  have e0 : renL (fun _ _ => (0, 0, .nil)) [.b x0, .b x1, .b x2] = c2 := by
    apply Array.toList_inj.1
    rw [← r2 (fun _ _ => (0, 0, .nil))]; rfl
  simp only [List.map_cons, List.map_nil, T.ren, e0] at this
  exact this
end Go.Proofs.Ytofcadbfjbefkaa

