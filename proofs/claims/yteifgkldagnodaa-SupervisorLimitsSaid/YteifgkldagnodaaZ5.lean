/- Part 5 of the texts that a walk of this program rests on: an abstract machine, its soundness, contracts of functions. No statement of the seat is proved in this file. -/
import Derived.Test.YteifgkldagnodaaZ4
namespace Go.Proofs.Yteifgkldagnodaa
open Go.X
set_option linter.unusedSimpArgs false
set_option linter.unusedVariables false
theorem brk_still (l : Lm) : brkM mA l = ⟨0, 0⟩ := by
  unfold brkM
  split
  · unfold brv scl
    split
    · rfl
    · show (⟨(0 * _ : Int).tdiv _, (0 * _ : Int).tdiv _⟩ : Pt) = ⟨0, 0⟩
      rw [Int.zero_mul, Int.zero_tdiv]
  · rfl
theorem lim_still {s : Su} {t : Int} {want : Pt} (h : bad s t) : limU s t mA want = ⟨0, 0⟩ := by
  unfold limU
  by_cases h1 : ovl s t mA want
  · rw [if_pos h1]; exact brk_still _
  · rw [if_neg h1]
    unfold ovl at h1
    rw [ceil_bad h] at h1
    have h2 : 0 ≤ (stpV s mA want).x * (stpV s mA want).x := by rw [← Int.natAbs_mul_self]; exact Int.natCast_nonneg _
    have h3 : 0 ≤ (stpV s mA want).y * (stpV s mA want).y := by rw [← Int.natAbs_mul_self]; exact Int.natCast_nonneg _
    have h4 : (stpV s mA want).x = 0 := by have := Int.mul_eq_zero.1 (show (stpV s mA want).x * (stpV s mA want).x = 0 by omega); omega
    have h5 : (stpV s mA want).y = 0 := by have := Int.mul_eq_zero.1 (show (stpV s mA want).y * (stpV s mA want).y = 0 by omega); omega
    generalize stpV s mA want = v at h4 h5
    cases v
    simp only at h4 h5
    rw [h4, h5]
theorem sta_late {to t : Int} (p : Pt) (hp : okP p) (h : to < t) (h0 : 0 ≤ to) : 0 < (staL to [⟨0, 1, 0, p⟩] t).length := by
  have hm : (1 : Int) ∈ lst [⟨0, 1, 0, p⟩] := (mem_lst (pok1 (ck := 1) (by decide) (by decide) hp (by decide)) 1).2 ⟨0, by simp, rfl⟩
  apply List.length_pos_of_mem (a := 1)
  unfold staL
  rw [List.mem_filter]
  refine ⟨hm, decide_eq_true ?_⟩
  by_cases ht : okT t
  · refine Or.inr ?_
    show to < age 0 t
    unfold age
    omega
  · exact Or.inl ht
theorem okN0 {l : Lm} {to : Int} (h : okL l ∧ okTm to) : SOk (newS l to) := ⟨h.1, h.2, (by decide : okT 0), (by decide : (1 : Int) ≤ 1 ∧ (1 : Int) ≤ 4), pok0 0⟩
abbrev seenS (l : Lm) (to al : Int) : Su := ⟨l, to, al, 1, 1, [⟨0, 1, 0, ⟨90000, 0⟩⟩]⟩
theorem okS {l : Lm} {to al : Int} (h : okL l ∧ okTm to) (ha : okT al) : SOk (seenS l to al) := ⟨h.1, h.2, ha, (by decide : (1 : Int) ≤ 1 ∧ (1 : Int) ≤ 4), pok1 (by decide) (by decide) (by decide) (Nat.lt_succ_self 0)⟩
theorem aliE_late {l : Lm} {to t : Int} (h1 : 0 ≤ to ∧ to ≤ 65535) (h2 : 0 ≤ t ∧ t ≤ 65535) : aliE (seenS l (1 + to) 0) (2 + to + t) = 0 := by
  unfold aliE
  rw [if_neg (not_not_intro (by unfold okT; omega)), if_neg (show ¬ 2 + to + t < 0 by omega)]
theorem aliS_late {l : Lm} {to t : Int} (h1 : 0 ≤ to ∧ to ≤ 65535) (h2 : 0 ≤ t ∧ t ≤ 65535) : aliS (seenS l (1 + to) 0) (2 + to + t) = seenS l (1 + to) (2 + to + t) := if_pos (aliE_late h1 h2)
theorem rH51mH0 {σ : List Sg} {H h' : List Fam} {v : T} {K : T → List Fam → Prop} {H' : List Fam} {v' : T} {N : Nat} (hk : K v' H') (hN : H.length = N := by (try simp only [↓List.length_cons, ↓List.length_nil, Nat.reduceAdd]) <;> rfl) (h : givesF σ N H σ h' = some H' := by (try simp (maxSteps := 1000000) only [givesF, setF, updF, Fam.zeroth, Fam.rk, Ck.rk, C.rk, E.rk, T.rk, key, List.map_cons, List.map_nil, List.cons_append, List.nil_append, List.length_cons, List.length_nil, Option.map_some, Option.bind_some, Nat.reduceAdd, Nat.zero_add, Nat.add_zero, Nat.add_sub_cancel_left, Int.toNat_natCast, reps, List.all_cons, List.all_nil, C.flat, List.append_eq, Bool.not_true, Bool.and_true, Bool.or_false, Bool.or_self, Bool.not_false, List.append_nil, Bool.and_self, encPt, encM, encL]) <;> rfl) (hv : v.rk σ N = v' := by (try simp only [givesF, setF, updF, Fam.zeroth, Fam.rk, Ck.rk, C.rk, E.rk, T.rk, key, List.map_cons, List.map_nil, List.cons_append, List.nil_append, List.length_cons, List.length_nil, Option.map_some, Option.bind_some, Nat.reduceAdd, Nat.zero_add, Nat.add_zero, Nat.add_sub_cancel_left, Int.toNat_natCast, reps, List.all_cons, List.all_nil, C.flat, List.append_eq, Bool.not_true, Bool.and_true, Bool.or_false, Bool.or_self, Bool.not_false, List.append_nil, Bool.and_self, encPt, encM, encL]) <;> rfl) : RetG σ H h' v K := ret_mk3 hN h hv hk
set_option maxRecDepth 10000 in
set_option maxHeartbeats 4000000 in
theorem csilent (l : Lm) (to t : Int) (sn : Bool) (x y : Int) (h1 : 0 ≤ to ∧ to ≤ 65535) (h2 : 0 ≤ t ∧ t ≤ 65535) :
    Ctr Try.prog 4 [.a (encL l), .a [.i .u16 to, .i .u16 t, .b sn, .i .i64 x, .i .i64 y]] [] fun v _ => v = .c .tt := by
  have wto : IntKind.i64.wrap to = to := by rw [IntKind.wrap_i64]; omega
  have wat : IntKind.i64.wrap t = t := by rw [IntKind.wrap_i64]; omega
  refine Ctr.mk' tbv mixed Try.func4 rfl rfl rfl (fun _ _ => by kernel_rfl) (by kernel_rfl) (by rfl) (by rfl) (by (repeat' first | refine And.intro ?_ ?_ | exact xeC | fail)) ?_
  repeat' (first | (fail_if_success (with_reducible refine xstp ?_)); first | ((with_reducible refine And.intro (fun (hb : _ = true) => ?_) (fun (hb : _ = false) => ?_)) <;> replace hb := xnC hb <;> (try first | exact xfC | exact bff hb (by assumption) | exact bff (by assumption) hb)) | (with_reducible refine Both.mk ?_ ?_) | ((with_reducible refine And.intro ?_ ?_); focus exact xoC) | ((with_reducible refine Or.inl ⟨?_, ?_, ?_⟩); (focus rfl); focus exact xaC) | ((with_reducible refine xwB ?_ ?_); focus exact xaC) | ((with_reducible refine xwC ?_ ?_); focus exact xaC) | ((with_reducible refine xwD ?_ ?_); focus exact xaC) | ((with_reducible refine xwE ?_ ?_); focus exact xaC) | (with_reducible intro hc; (try simp only [capsP, and_true] at hc); (try exact xfC)) | ((fail_if_success (with_reducible first | refine xgon ?_ | intro _)); (conv => whnf); (fail_if_success (fail_if_success (with_reducible first | refine xstp ?_ | refine Both.mk ?_ ?_ | refine xgon ?_ | intro _)))))
  refine xcal (σ := []) (nl := []) (cwithinL ⟨x, y⟩) ?_
  rintro v h' ⟨rfl, rfl⟩ hcaps
  refine rH51mH0 ?_
  repeat' (first | (fail_if_success (with_reducible refine xstp ?_)); first | ((with_reducible refine And.intro (fun (hb : _ = true) => ?_) (fun (hb : _ = false) => ?_)) <;> replace hb := xnC hb <;> (try first | exact xfC | exact bff hb (by assumption) | exact bff (by assumption) hb)) | (with_reducible refine Both.mk ?_ ?_) | ((with_reducible refine And.intro ?_ ?_); focus exact xoC) | ((with_reducible refine Or.inl ⟨?_, ?_, ?_⟩); (focus rfl); focus exact xaC) | ((with_reducible refine xwB ?_ ?_); focus exact xaC) | ((with_reducible refine xwC ?_ ?_); focus exact xaC) | ((with_reducible refine xwD ?_ ?_); focus exact xaC) | ((with_reducible refine xwE ?_ ?_); focus exact xaC) | (with_reducible intro hc; (try simp only [capsP, and_true] at hc); (try exact xfC)) | ((fail_if_success (with_reducible first | refine xgon ?_ | intro _)); (conv => whnf); (fail_if_success (fail_if_success (with_reducible first | refine xstp ?_ | refine Both.mk ?_ ?_ | refine xgon ?_ | intro _)))))
  · skip
    refine xcal (σ := []) (nl := []) (cawake) ?_
    rintro v h' ⟨rfl, rfl⟩ hcaps
    refine rH51mH0 ?_
    repeat' (first | (fail_if_success (with_reducible refine xstp ?_)); first | ((with_reducible refine And.intro (fun (hb : _ = true) => ?_) (fun (hb : _ = false) => ?_)) <;> replace hb := xnC hb <;> (try first | exact xfC | exact bff hb (by assumption) | exact bff (by assumption) hb)) | (with_reducible refine Both.mk ?_ ?_) | ((with_reducible refine And.intro ?_ ?_); focus exact xoC) | ((with_reducible refine Or.inl ⟨?_, ?_, ?_⟩); (focus rfl); focus exact xaC) | ((with_reducible refine xwB ?_ ?_); focus exact xaC) | ((with_reducible refine xwC ?_ ?_); focus exact xaC) | ((with_reducible refine xwD ?_ ?_); focus exact xaC) | ((with_reducible refine xwE ?_ ?_); focus exact xaC) | (with_reducible intro hc; (try simp only [capsP, and_true] at hc); (try exact xfC)) | ((fail_if_success (with_reducible first | refine xgon ?_ | intro _)); (conv => whnf); (fail_if_success (fail_if_success (with_reducible first | refine xstp ?_ | refine Both.mk ?_ ?_ | refine xgon ?_ | intro _)))))
    refine FinK.mk ⟨[], _, [], rfl, ?_⟩
    (repeat' first | refine And.intro ?_ ?_ | exact xeC | fail)
  rw [wto]
  repeat' (first | (fail_if_success (with_reducible refine xstp ?_)); first | ((with_reducible refine And.intro (fun (hb : _ = true) => ?_) (fun (hb : _ = false) => ?_)) <;> replace hb := xnC hb <;> (try first | exact xfC | exact bff hb (by assumption) | exact bff (by assumption) hb)) | (with_reducible refine Both.mk ?_ ?_) | ((with_reducible refine And.intro ?_ ?_); focus exact xoC) | ((with_reducible refine Or.inl ⟨?_, ?_, ?_⟩); (focus rfl); focus exact xaC) | ((with_reducible refine xwB ?_ ?_); focus exact xaC) | ((with_reducible refine xwC ?_ ?_); focus exact xaC) | ((with_reducible refine xwD ?_ ?_); focus exact xaC) | ((with_reducible refine xwE ?_ ?_); focus exact xaC) | (with_reducible intro hc; (try simp only [capsP, and_true] at hc); (try exact xfC)) | ((fail_if_success (with_reducible first | refine xgon ?_ | intro _)); (conv => whnf); (fail_if_success (fail_if_success (with_reducible first | refine xstp ?_ | refine Both.mk ?_ ?_ | refine xgon ?_ | intro _)))))
  by_cases hl : okL l ∧ okTm (1 + to)
  · refine xcal (σ := []) (nl := []) (cNewS l (1 + to) hl) ?_
    rintro v h' ⟨rfl, rfl⟩ hcaps
    refine rH51mH0 ?_
    repeat' (first | (fail_if_success (with_reducible refine xstp ?_)); first | ((with_reducible refine And.intro (fun (hb : _ = true) => ?_) (fun (hb : _ = false) => ?_)) <;> replace hb := xnC hb <;> (try first | exact xfC | exact bff hb (by assumption) | exact bff (by assumption) hb)) | (with_reducible refine Both.mk ?_ ?_) | ((with_reducible refine And.intro ?_ ?_); focus exact xoC) | ((with_reducible refine Or.inl ⟨?_, ?_, ?_⟩); (focus rfl); focus exact xaC) | ((with_reducible refine xwB ?_ ?_); focus exact xaC) | ((with_reducible refine xwC ?_ ?_); focus exact xaC) | ((with_reducible refine xwD ?_ ?_); focus exact xaC) | ((with_reducible refine xwE ?_ ?_); focus exact xaC) | (with_reducible intro hc; (try simp only [capsP, and_true] at hc); (try exact xfC)) | ((fail_if_success (with_reducible first | refine xgon ?_ | intro _)); (conv => whnf); (fail_if_success (fail_if_success (with_reducible first | refine xstp ?_ | refine Both.mk ?_ ?_ | refine xgon ?_ | intro _)))))
    · refine xcal (σ := [.whole 3, .whole 4, .whole 5]) (nl := []) (cSeeS (newS l (1 + to)) 1 0 ⟨90000, 0⟩ (okN0 hl)) ?_
      rw [show seeE (newS l (1 + to)).M 1 0 ⟨90000, 0⟩ = 0 from rfl, show seeM (newS l (1 + to)).M (newS l (1 + to)).ck 1 0 ⟨90000, 0⟩ = ([⟨0, 1, 0, ⟨90000, 0⟩⟩], 1) from rfl]
      rintro v h' ⟨rfl, rfl⟩ hcaps
      refine rH51mH0 ?_
      repeat' (first | (fail_if_success (with_reducible refine xstp ?_)); first | ((with_reducible refine And.intro (fun (hb : _ = true) => ?_) (fun (hb : _ = false) => ?_)) <;> replace hb := xnC hb <;> (try first | exact xfC | exact bff hb (by assumption) | exact bff (by assumption) hb)) | (with_reducible refine Both.mk ?_ ?_) | ((with_reducible refine And.intro ?_ ?_); focus exact xoC) | ((with_reducible refine Or.inl ⟨?_, ?_, ?_⟩); (focus rfl); focus exact xaC) | ((with_reducible refine xwB ?_ ?_); focus exact xaC) | ((with_reducible refine xwC ?_ ?_); focus exact xaC) | ((with_reducible refine xwD ?_ ?_); focus exact xaC) | ((with_reducible refine xwE ?_ ?_); focus exact xaC) | (with_reducible intro hc; (try simp only [capsP, and_true] at hc); (try exact xfC)) | ((fail_if_success (with_reducible first | refine xgon ?_ | intro _)); (conv => whnf); (fail_if_success (fail_if_success (with_reducible first | refine xstp ?_ | refine Both.mk ?_ ?_ | refine xgon ?_ | intro _)))))
      rw [wto, wat]
      refine xcal (σ := [.whole 3, .whole 4, .whole 5]) (nl := []) (cAliveS (seenS l (1 + to) 0) (2 + to + t)) ?_
      rw [aliS_late (h1 := h1) (h2 := h2)]
      rintro v h' ⟨rfl, rfl⟩ hcaps
      rw [show aliE (seenS l (1 + to) 0) (2 + to + t) = 0 from aliE_late h1 h2]
      refine rH51mH0 ?_
      repeat' (first | (fail_if_success (with_reducible refine xstp ?_)); first | ((with_reducible refine And.intro (fun (hb : _ = true) => ?_) (fun (hb : _ = false) => ?_)) <;> replace hb := xnC hb <;> (try first | exact xfC | exact bff hb (by assumption) | exact bff (by assumption) hb)) | (with_reducible refine Both.mk ?_ ?_) | ((with_reducible refine And.intro ?_ ?_); focus exact xoC) | ((with_reducible refine Or.inl ⟨?_, ?_, ?_⟩); (focus rfl); focus exact xaC) | ((with_reducible refine xwB ?_ ?_); focus exact xaC) | ((with_reducible refine xwC ?_ ?_); focus exact xaC) | ((with_reducible refine xwD ?_ ?_); focus exact xaC) | ((with_reducible refine xwE ?_ ?_); focus exact xaC) | (with_reducible intro hc; (try simp only [capsP, and_true] at hc); (try exact xfC)) | ((fail_if_success (with_reducible first | refine xgon ?_ | intro _)); (conv => whnf); (fail_if_success (fail_if_success (with_reducible first | refine xstp ?_ | refine Both.mk ?_ ?_ | refine xgon ?_ | intro _)))))
      all_goals (
        have hU : limU (seenS l (1 + to) (2 + to + t)) (2 + to + t) mA ⟨x, y⟩ = ⟨0, 0⟩ := lim_still (Or.inr (Or.inr (Or.inr (sta_late _ (by decide) (show 1 + to < 2 + to + t by omega) (show 0 ≤ 1 + to by omega)))))
        refine xcal (σ := [.whole 3, .whole 4, .whole 5]) (nl := []) (cLimit (seenS l (1 + to) (2 + to + t)) (2 + to + t) mA ⟨x, y⟩ (okS hl ⟨by omega, by omega⟩) (by unfold Pt.sm; decide)) ?_
        rw [hU]
        rintro v h' ⟨rfl, rfl⟩ hcaps
        refine rH51mH0 ?_
        repeat' (first | (fail_if_success (with_reducible refine xstp ?_)); first | ((with_reducible refine And.intro (fun (hb : _ = true) => ?_) (fun (hb : _ = false) => ?_)) <;> replace hb := xnC hb <;> (try first | exact xfC | exact bff hb (by assumption) | exact bff (by assumption) hb)) | (with_reducible refine Both.mk ?_ ?_) | ((with_reducible refine And.intro ?_ ?_); focus exact xoC) | ((with_reducible refine Or.inl ⟨?_, ?_, ?_⟩); (focus rfl); focus exact xaC) | ((with_reducible refine xwB ?_ ?_); focus exact xaC) | ((with_reducible refine xwC ?_ ?_); focus exact xaC) | ((with_reducible refine xwD ?_ ?_); focus exact xaC) | ((with_reducible refine xwE ?_ ?_); focus exact xaC) | (with_reducible intro hc; (try simp only [capsP, and_true] at hc); (try exact xfC)) | ((fail_if_success (with_reducible first | refine xgon ?_ | intro _)); (conv => whnf); (fail_if_success (fail_if_success (with_reducible first | refine xstp ?_ | refine Both.mk ?_ ?_ | refine xgon ?_ | intro _)))))
        refine xcal (σ := []) (nl := []) (cawake) ?_
        rintro v h' ⟨rfl, rfl⟩ hcaps
        refine rH51mH0 ?_
        repeat' (first | (fail_if_success (with_reducible refine xstp ?_)); first | ((with_reducible refine And.intro (fun (hb : _ = true) => ?_) (fun (hb : _ = false) => ?_)) <;> replace hb := xnC hb <;> (try first | exact xfC | exact bff hb (by assumption) | exact bff (by assumption) hb)) | (with_reducible refine Both.mk ?_ ?_) | ((with_reducible refine And.intro ?_ ?_); focus exact xoC) | ((with_reducible refine Or.inl ⟨?_, ?_, ?_⟩); (focus rfl); focus exact xaC) | ((with_reducible refine xwB ?_ ?_); focus exact xaC) | ((with_reducible refine xwC ?_ ?_); focus exact xaC) | ((with_reducible refine xwD ?_ ?_); focus exact xaC) | ((with_reducible refine xwE ?_ ?_); focus exact xaC) | (with_reducible intro hc; (try simp only [capsP, and_true] at hc); (try exact xfC)) | ((fail_if_success (with_reducible first | refine xgon ?_ | intro _)); (conv => whnf); (fail_if_success (fail_if_success (with_reducible first | refine xstp ?_ | refine Both.mk ?_ ?_ | refine xgon ?_ | intro _)))))
        refine FinK.mk ⟨[], _, [], rfl, ?_⟩
        (repeat' first | refine And.intro ?_ ?_ | exact xeC | fail)
        skip)
    · rw [wto, wat]
      have hU : limU (newS l (1 + to)) (2 + to + t) mA ⟨x, y⟩ = ⟨0, 0⟩ := lim_still (Or.inr (Or.inr (Or.inl (show 1 + to < 2 + to + t - 0 by omega))))
      refine xcal (σ := [.whole 3, .whole 4, .whole 5]) (nl := []) (cLimit (newS l (1 + to)) (2 + to + t) mA ⟨x, y⟩ (okN0 hl) (by unfold Pt.sm; decide)) ?_
      rw [hU]
      rintro v h' ⟨rfl, rfl⟩ hcaps
      refine rH51mH0 ?_
      repeat' (first | (fail_if_success (with_reducible refine xstp ?_)); first | ((with_reducible refine And.intro (fun (hb : _ = true) => ?_) (fun (hb : _ = false) => ?_)) <;> replace hb := xnC hb <;> (try first | exact xfC | exact bff hb (by assumption) | exact bff (by assumption) hb)) | (with_reducible refine Both.mk ?_ ?_) | ((with_reducible refine And.intro ?_ ?_); focus exact xoC) | ((with_reducible refine Or.inl ⟨?_, ?_, ?_⟩); (focus rfl); focus exact xaC) | ((with_reducible refine xwB ?_ ?_); focus exact xaC) | ((with_reducible refine xwC ?_ ?_); focus exact xaC) | ((with_reducible refine xwD ?_ ?_); focus exact xaC) | ((with_reducible refine xwE ?_ ?_); focus exact xaC) | (with_reducible intro hc; (try simp only [capsP, and_true] at hc); (try exact xfC)) | ((fail_if_success (with_reducible first | refine xgon ?_ | intro _)); (conv => whnf); (fail_if_success (fail_if_success (with_reducible first | refine xstp ?_ | refine Both.mk ?_ ?_ | refine xgon ?_ | intro _)))))
      refine xcal (σ := []) (nl := []) (cawake) ?_
      rintro v h' ⟨rfl, rfl⟩ hcaps
      refine rH51mH0 ?_
      repeat' (first | (fail_if_success (with_reducible refine xstp ?_)); first | ((with_reducible refine And.intro (fun (hb : _ = true) => ?_) (fun (hb : _ = false) => ?_)) <;> replace hb := xnC hb <;> (try first | exact xfC | exact bff hb (by assumption) | exact bff (by assumption) hb)) | (with_reducible refine Both.mk ?_ ?_) | ((with_reducible refine And.intro ?_ ?_); focus exact xoC) | ((with_reducible refine Or.inl ⟨?_, ?_, ?_⟩); (focus rfl); focus exact xaC) | ((with_reducible refine xwB ?_ ?_); focus exact xaC) | ((with_reducible refine xwC ?_ ?_); focus exact xaC) | ((with_reducible refine xwD ?_ ?_); focus exact xaC) | ((with_reducible refine xwE ?_ ?_); focus exact xaC) | (with_reducible intro hc; (try simp only [capsP, and_true] at hc); (try exact xfC)) | ((fail_if_success (with_reducible first | refine xgon ?_ | intro _)); (conv => whnf); (fail_if_success (fail_if_success (with_reducible first | refine xstp ?_ | refine Both.mk ?_ ?_ | refine xgon ?_ | intro _)))))
      refine FinK.mk ⟨[], _, [], rfl, ?_⟩
      (repeat' first | refine And.intro ?_ ?_ | exact xeC | fail)
  · refine xcal (σ := []) (nl := []) (cNewSn l (1 + to) hl) ?_
    rintro v h' ⟨rfl, rfl⟩ hcaps
    refine rH51mH0 ?_
    repeat' (first | (fail_if_success (with_reducible refine xstp ?_)); first | ((with_reducible refine And.intro (fun (hb : _ = true) => ?_) (fun (hb : _ = false) => ?_)) <;> replace hb := xnC hb <;> (try first | exact xfC | exact bff hb (by assumption) | exact bff (by assumption) hb)) | (with_reducible refine Both.mk ?_ ?_) | ((with_reducible refine And.intro ?_ ?_); focus exact xoC) | ((with_reducible refine Or.inl ⟨?_, ?_, ?_⟩); (focus rfl); focus exact xaC) | ((with_reducible refine xwB ?_ ?_); focus exact xaC) | ((with_reducible refine xwC ?_ ?_); focus exact xaC) | ((with_reducible refine xwD ?_ ?_); focus exact xaC) | ((with_reducible refine xwE ?_ ?_); focus exact xaC) | (with_reducible intro hc; (try simp only [capsP, and_true] at hc); (try exact xfC)) | ((fail_if_success (with_reducible first | refine xgon ?_ | intro _)); (conv => whnf); (fail_if_success (fail_if_success (with_reducible first | refine xstp ?_ | refine Both.mk ?_ ?_ | refine xgon ?_ | intro _)))))
    refine xcal (σ := []) (nl := []) (cawake) ?_
    rintro v h' ⟨rfl, rfl⟩ hcaps
    refine rH51mH0 ?_
    repeat' (first | (fail_if_success (with_reducible refine xstp ?_)); first | ((with_reducible refine And.intro (fun (hb : _ = true) => ?_) (fun (hb : _ = false) => ?_)) <;> replace hb := xnC hb <;> (try first | exact xfC | exact bff hb (by assumption) | exact bff (by assumption) hb)) | (with_reducible refine Both.mk ?_ ?_) | ((with_reducible refine And.intro ?_ ?_); focus exact xoC) | ((with_reducible refine Or.inl ⟨?_, ?_, ?_⟩); (focus rfl); focus exact xaC) | ((with_reducible refine xwB ?_ ?_); focus exact xaC) | ((with_reducible refine xwC ?_ ?_); focus exact xaC) | ((with_reducible refine xwD ?_ ?_); focus exact xaC) | ((with_reducible refine xwE ?_ ?_); focus exact xaC) | (with_reducible intro hc; (try simp only [capsP, and_true] at hc); (try exact xfC)) | ((fail_if_success (with_reducible first | refine xgon ?_ | intro _)); (conv => whnf); (fail_if_success (fail_if_success (with_reducible first | refine xstp ?_ | refine Both.mk ?_ ?_ | refine xgon ?_ | intro _)))))
    refine FinK.mk ⟨[], _, [], rfl, ?_⟩
    (repeat' first | refine And.intro ?_ ?_ | exact xeC | fail)
end Go.Proofs.Yteifgkldagnodaa

namespace Go.Proofs.Yteifgkldagnodaa
open Go.X
theorem mem_at {M : List Pn} {e : Pn} : e ∈ M ↔ ∃ i, i < M.length ∧ M.getD i default = e := by
  constructor
  · intro h
    obtain ⟨i, hi, rfl⟩ := List.mem_iff_getElem.1 h
    exact ⟨i, hi, getD_at hi⟩
  · rintro ⟨i, hi, rfl⟩
    rw [getD_at hi]; exact List.getElem_mem _
theorem fndP_mem {M : List Pn} {id : Int} {i : Nat} (h : fndP M id = some i) : M.getD i default ∈ M ∧ (M.getD i default).id = id := by
  obtain ⟨h1, h2⟩ := fndP_lt h
  exact ⟨mem_at.2 ⟨i, h1, rfl⟩, h2⟩
theorem POk.mk' {ck : Nat} {M : List Pn} (h1 : ∀ e ∈ M, (1 ≤ e.id ∧ e.id ≤ 8) ∧ okT e.t ∧ okP e.p ∧ e.s < ck) (h2 : M.Pairwise fun a b => a.id ≠ b.id ∧ a.s ≠ b.s) : POk ck M := by
  refine ⟨fun e he => (h1 e he).1, fun e he => (h1 e he).2.1, fun e he => (h1 e he).2.2.1, fun a b hab hb => ?_, fun a b hab hb => ?_, fun e he => (h1 e he).2.2.2⟩
  · rw [getD_at (by omega), getD_at hb]
    exact (List.pairwise_iff_getElem.1 h2 a b (by omega) hb hab).1
  · rw [getD_at (by omega), getD_at hb]
    exact (List.pairwise_iff_getElem.1 h2 a b (by omega) hb hab).2
theorem POk.pw {ck : Nat} {M : List Pn} (h : POk ck M) : M.Pairwise fun a b => a.id ≠ b.id ∧ a.s ≠ b.s := by
  rw [List.pairwise_iff_getElem]
  intro i j hi hj hij
  have h1 := h.ne i j hij hj
  have h2 := h.st i j hij hj
  rw [getD_at hi, getD_at hj] at h1 h2
  exact ⟨h1, h2⟩
theorem POk.all {ck : Nat} {M : List Pn} (h : POk ck M) : ∀ e ∈ M, (1 ≤ e.id ∧ e.id ≤ 8) ∧ okT e.t ∧ okP e.p ∧ e.s < ck := fun e he => ⟨h.id e he, h.t e he, h.p e he, h.lt e he⟩
theorem see_cond {M : List Pn} {id t : Int} {p : Pt} (h : seeE M id t p = 0) : (1 ≤ id ∧ id ≤ 8) ∧ okT t ∧ okP p := by
  unfold seeE at h
  split at h
  · exact absurd h (by decide)
  · rename_i h1
    exact Decidable.of_not_not h1
/-- What lies in the record behind See. -/
theorem mem_seeM {ck : Nat} {M : List Pn} (h : POk ck M) {id t : Int} {p : Pt} (h0 : seeE M id t p = 0) : (∃ s, s < (seeM M ck id t p).2 ∧ ∀ x, x ∈ (seeM M ck id t p).1 ↔ x = ⟨s, id, t, p⟩ ∨ (x ∈ M ∧ x.id ≠ id)) ∧ POk (seeM M ck id t p).2 (seeM M ck id t p).1 := by
  have hc := see_cond h0
  unfold seeM
  rw [if_neg (by rw [h0]; decide)]
  cases hf : fndP M id with
  | none =>
    have hno : ∀ e ∈ M, e.id ≠ id := fun e he e1 => by
      obtain ⟨i, hi, rfl⟩ := mem_at.1 he
      rw [fndP_some h.ne hi e1] at hf
      cases hf
    refine ⟨⟨ck, Nat.lt_succ_self _, fun x => ?_⟩, ?_⟩
    · simp only [List.mem_append, List.mem_singleton]
      constructor
      · rintro (hx | hx)
        · exact Or.inr ⟨hx, hno x hx⟩
        · exact Or.inl hx
      · rintro (hx | hx)
        · exact Or.inr hx
        · exact Or.inl hx.1
    · refine POk.mk' (fun e he => ?_) ?_
      · rcases List.mem_append.1 he with he | he
        · have := h.all e he
          exact ⟨this.1, this.2.1, this.2.2.1, Nat.lt_succ_of_lt this.2.2.2⟩
        · rw [List.mem_singleton.1 he]
          exact ⟨hc.1, hc.2.1, hc.2.2, Nat.lt_succ_self _⟩
      · rw [List.pairwise_append]
        refine ⟨h.pw, by simp, fun a ha b hb => ?_⟩
        rw [List.mem_singleton.1 hb]
        have := h.lt a ha
        exact ⟨hno a ha, by show a.s ≠ ck; omega⟩
  | some i =>
    obtain ⟨hi, hid⟩ := fndP_lt hf
    have hmi : M.getD i default ∈ M := mem_at.2 ⟨i, hi, rfl⟩
    have hget : ∀ j, (M.set i ⟨(M.getD i default).s, id, t, p⟩).getD j default = if j = i then ⟨(M.getD i default).s, id, t, p⟩ else M.getD j default := by
      intro j
      by_cases hj : j = i
      · subst hj
        rw [if_pos rfl]
        simp [List.getD, hi]
      · rw [if_neg hj]
        simp only [List.getD, List.getElem?_set_ne (Ne.symm hj)]
    refine ⟨⟨(M.getD i default).s, h.lt _ hmi, fun x => ?_⟩, ?_⟩
    · rw [mem_at]
      constructor
      · rintro ⟨j, hj, rfl⟩
        rw [List.length_set] at hj
        rw [hget]
        by_cases hji : j = i
        · rw [if_pos hji]; exact Or.inl rfl
        · rw [if_neg hji]
          refine Or.inr ⟨mem_at.2 ⟨j, hj, rfl⟩, ?_⟩
          rw [← hid]
          rcases (by omega : j < i ∨ i < j) with h1 | h1
          · exact h.ne j i h1 hi
          · exact fun e => h.ne i j h1 hj e.symm
      · rintro (hx | ⟨hx, hxn⟩)
        · exact ⟨i, by rw [List.length_set]; exact hi, by rw [hget, if_pos rfl]; exact hx.symm⟩
        · obtain ⟨j, hj, rfl⟩ := mem_at.1 hx
          have hji : j ≠ i := fun e => hxn (by rw [e]; exact hid)
          exact ⟨j, by rw [List.length_set]; exact hj, by rw [hget, if_neg hji]⟩
    · refine ⟨?_, ?_, ?_, fun a b hab hb => ?_, fun a b hab hb => ?_, ?_⟩
      · intro e he
        obtain ⟨j, hj, rfl⟩ := mem_at.1 he
        rw [List.length_set] at hj
        rw [hget]
        split
        · exact hc.1
        · exact h.id _ (mem_at.2 ⟨j, hj, rfl⟩)
      · intro e he
        obtain ⟨j, hj, rfl⟩ := mem_at.1 he
        rw [List.length_set] at hj
        rw [hget]
        split
        · exact hc.2.1
        · exact h.t _ (mem_at.2 ⟨j, hj, rfl⟩)
      · intro e he
        obtain ⟨j, hj, rfl⟩ := mem_at.1 he
        rw [List.length_set] at hj
        rw [hget]
        split
        · exact hc.2.2
        · exact h.p _ (mem_at.2 ⟨j, hj, rfl⟩)
      · rw [List.length_set] at hb
        have hids : ∀ j, ((M.set i ⟨(M.getD i default).s, id, t, p⟩).getD j default).id = (M.getD j default).id := fun j => by
          rw [hget]; split
          · rename_i e; rw [e, hid]
          · rfl
        rw [hids, hids]
        exact h.ne a b hab hb
      · rw [List.length_set] at hb
        have hss : ∀ j, ((M.set i ⟨(M.getD i default).s, id, t, p⟩).getD j default).s = (M.getD j default).s := fun j => by
          rw [hget]; split
          · rename_i e; rw [e]
          · rfl
        rw [hss, hss]
        exact h.st a b hab hb
      · intro e he
        obtain ⟨j, hj, rfl⟩ := mem_at.1 he
        rw [List.length_set] at hj
        rw [hget]
        split
        · exact h.lt (M.getD i default) hmi
        · exact h.lt _ (mem_at.2 ⟨j, hj, rfl⟩)
theorem see_pok {ck : Nat} {M : List Pn} (h : POk ck M) (id t : Int) (p : Pt) : POk (seeM M ck id t p).2 (seeM M ck id t p).1 := by
  by_cases h0 : seeE M id t p = 0
  · exact (mem_seeM h h0).2
  · rw [show seeM M ck id t p = (M, ck) from if_pos h0]; exact h
end Go.Proofs.Yteifgkldagnodaa

namespace Go.Proofs.Yteifgkldagnodaa
open Go.X
def sqI (p : Pt) : Int := p.x * p.x + p.y * p.y
theorem nat_sq (x : Int) : x * x = ((x.natAbs * x.natAbs : Nat) : Int) := (Int.natAbs_mul_self).symm
theorem sqI_nat (p : Pt) : sqI p = ((p.x.natAbs * p.x.natAbs + p.y.natAbs * p.y.natAbs : Nat) : Int) := by
  unfold sqI
  rw [nat_sq, nat_sq p.y]
  push_cast
  rfl
theorem sqI_mono {p q : Pt} (h1 : p.x.natAbs ≤ q.x.natAbs) (h2 : p.y.natAbs ≤ q.y.natAbs) : sqI p ≤ sqI q := by
  rw [sqI_nat, sqI_nat]
  have := Nat.mul_le_mul h1 h1
  have := Nat.mul_le_mul h2 h2
  omega
theorem sqI_sm {p : Pt} (h : p.sm) : sqI p = (sqP p : Nat) := (sqP_eq h).1
theorem upN_sq {x : Nat} (h : x ≤ 35184372088832) : x ≤ upN x * upN x := by
  have := isq_spec (n := x) (by omega)
  unfold upN
  split <;> omega
theorem scl_sq {p : Pt} {m : Int} (hp : p.sm) (hm : 0 ≤ m) : sqI (scl p m) ≤ m * m := by
  have h3 := sqP_eq hp
  unfold scl
  split
  · rename_i h
    rw [sqI_sm hp]
    exact h
  · rename_i hn
    have hu := upN_sq h3.2
    obtain ⟨k, rfl⟩ : ∃ k : Nat, m = (k : Int) := ⟨m.toNat, by omega⟩
    obtain ⟨u, hu0⟩ : ∃ u, u = upN (sqP p) := ⟨_, rfl⟩
    rw [← hu0] at hu ⊢
    obtain ⟨s, hs⟩ : ∃ s, s = sqP p := ⟨_, rfl⟩
    rw [← hs] at hu hn h3
    have hkk : ((k : Int) * (k : Int)) = ((k * k : Nat) : Int) := by push_cast; rfl
    rw [hkk] at hn ⊢
    have hspos : 0 < s := by omega
    have hup : 0 < u := by
      rcases Nat.eq_zero_or_pos u with h | h
      · subst h; omega
      · exact h
    rw [sqI_nat]
    simp only [Int.natAbs_tdiv, Int.natAbs_mul, Int.natAbs_natCast]
    have hsx : p.x.natAbs * p.x.natAbs + p.y.natAbs * p.y.natAbs = s := by
      have := h3.1
      rw [nat_sq, nat_sq p.y] at this
      omega
    obtain ⟨a, ha⟩ : ∃ a, a = (p.x.natAbs * k).div u := ⟨_, rfl⟩
    obtain ⟨b, hb⟩ : ∃ b, b = (p.y.natAbs * k).div u := ⟨_, rfl⟩
    rw [← ha, ← hb]
    have h1 : a * u ≤ p.x.natAbs * k := by rw [ha]; exact Nat.div_mul_le_self _ _
    have h2 : b * u ≤ p.y.natAbs * k := by rw [hb]; exact Nat.div_mul_le_self _ _
    have h4 := Nat.mul_le_mul h1 h1
    have h5 := Nat.mul_le_mul h2 h2
    have e1 : a * u * (a * u) = a * a * (u * u) := Nat.mul_mul_mul_comm a u a u
    have e2 : b * u * (b * u) = b * b * (u * u) := Nat.mul_mul_mul_comm b u b u
    have e3 : p.x.natAbs * k * (p.x.natAbs * k) = p.x.natAbs * p.x.natAbs * (k * k) := Nat.mul_mul_mul_comm _ _ _ _
    have e4 : p.y.natAbs * k * (p.y.natAbs * k) = p.y.natAbs * p.y.natAbs * (k * k) := Nat.mul_mul_mul_comm _ _ _ _
    have h6 : (a * a + b * b) * (u * u) ≤ (k * k) * (u * u) := by
      rw [Nat.add_mul]
      have h7 : s * (k * k) ≤ u * u * (k * k) := Nat.mul_le_mul_right _ hu
      rw [← hsx, Nat.add_mul] at h7
      rw [Nat.mul_comm (k * k)]
      omega
    have := Nat.le_of_mul_le_mul_right h6 (Nat.mul_pos hup hup)
    omega
theorem hvd_le (vel : Pt) (sp : Int) : ∀ (k : Nat) (d : Pt), (hvd vel sp k d).x.natAbs ≤ d.x.natAbs ∧ (hvd vel sp k d).y.natAbs ≤ d.y.natAbs
  | 0, d => ⟨Nat.le_refl _, Nat.le_refl _⟩
  | k + 1, d => by
    rw [hvd]
    split
    · rename_i h
      have h1 := half2_mag h.1
      have h2 := hvd_le vel sp k (half2 d)
      omega
    · exact ⟨Nat.le_refl _, Nat.le_refl _⟩
theorem hvd_sp {vel : Pt} {sp : Int} (hv : sqI vel ≤ sp * sp) : ∀ (k : Nat) (d : Pt), mag d ≤ k → sqI (vel.add (hvd vel sp k d)) ≤ sp * sp
  | 0, d, hk => by
    unfold mag at hk
    have h1 : d.x = 0 := by omega
    have h2 : d.y = 0 := by omega
    show sqI ⟨vel.x + d.x, vel.y + d.y⟩ ≤ _
    rw [h1, h2, Int.add_zero, Int.add_zero]
    exact hv
  | k + 1, d, hk => by
    rw [hvd]
    split
    · rename_i h
      have h1 := half2_mag h.1
      exact hvd_sp hv k (half2 d) (by omega)
    · rename_i h
      by_cases h1 : d.x ≠ 0 ∨ d.y ≠ 0
      · have : ¬ ovr vel d sp := fun e => h ⟨h1, e⟩
        unfold ovr at this
        unfold sqI
        omega
      · have h2 : d.x = 0 := by omega
        have h3 : d.y = 0 := by omega
        show sqI ⟨vel.x + d.x, vel.y + d.y⟩ ≤ _
        rw [h2, h3, Int.add_zero, Int.add_zero]
        exact hv
theorem wnt_sp {l : Lm} {vel want : Pt} (hv : sqI vel ≤ l.sp * l.sp) : sqI (wnt l vel want) ≤ l.sp * l.sp := hvd_sp hv _ _ (Nat.le_refl _)
theorem wnt_ac {l : Lm} {vel want : Pt} (hl : okL l) (hv : (-4096 ≤ vel.x ∧ vel.x ≤ 4096) ∧ (-4096 ≤ vel.y ∧ vel.y ≤ 4096)) : sqI ((wnt l vel want).sub vel) ≤ l.ac * l.ac := by
  unfold okL at hl
  have hcw := clP_sm want
  have hcl := clN_b want.x
  have hcl2 := clN_b want.y
  have hsw := scl_le hcw (m := l.sp) (by omega)
  have hwx : (scl (clP want) l.sp).x.natAbs ≤ 1048576 := Nat.le_trans hsw.1 (by show (clN want.x).natAbs ≤ _; omega)
  have hwy : (scl (clP want) l.sp).y.natAbs ≤ 1048576 := Nat.le_trans hsw.2 (by show (clN want.y).natAbs ≤ _; omega)
  have hds : ((scl (clP want) l.sp).sub vel).sm := by unfold Pt.sm Pt.sub; simp only; omega
  have h1 := scl_sq hds (m := l.ac) (by omega)
  have h2 := hvd_le vel l.sp (mag (scl ((scl (clP want) l.sp).sub vel) l.ac)) (scl ((scl (clP want) l.sp).sub vel) l.ac)
  have h3 := sqI_mono h2.1 h2.2
  have e : (wnt l vel want).sub vel = hvd vel l.sp (mag (scl ((scl (clP want) l.sp).sub vel) l.ac)) (scl ((scl (clP want) l.sp).sub vel) l.ac) := by
    unfold wnt Pt.add Pt.sub
    simp only
    generalize hvd _ _ _ _ = q
    cases q
    simp only [Pt.mk.injEq]
    omega
  rw [e]
  omega
theorem brv_sq {l : Lm} {vel : Pt} (hv : vel.sm) : sqI (brv l vel) ≤ max 0 ((ln vel : Nat) - l.br) * max 0 ((ln vel : Nat) - l.br) := scl_sq hv (by omega)
theorem brv_sp {l : Lm} {vel : Pt} (hl : okL l) (hv : (-4096 ≤ vel.x ∧ vel.x ≤ 4096) ∧ (-4096 ≤ vel.y ∧ vel.y ≤ 4096)) : sqI (brv l vel) ≤ sqI vel := by
  unfold okL at hl
  have hlv := ln_le hv
  have h := scl_le (p := vel) (m := max 0 ((ln vel : Nat) - l.br)) (by unfold Pt.sm; omega) (by omega)
  exact sqI_mono h.1 h.2
theorem sqI_b {p : Pt} {s : Int} (hs : 0 ≤ s ∧ s ≤ 4096) (h : sqI p ≤ s * s) : (-s ≤ p.x ∧ p.x ≤ s) ∧ (-s ≤ p.y ∧ p.y ≤ s) := by
  obtain ⟨k, rfl⟩ : ∃ k : Nat, s = (k : Int) := ⟨s.toNat, by omega⟩
  rw [sqI_nat, show ((k : Int) * (k : Int)) = ((k * k : Nat) : Int) by push_cast; rfl] at h
  have key : ∀ a : Nat, a * a ≤ k * k → a ≤ k := fun a ha => by
    by_cases hh : a ≤ k
    · exact hh
    · have : (k + 1) * (k + 1) ≤ a * a := Nat.mul_le_mul (by omega) (by omega)
      rw [Nat.add_mul, Nat.mul_add] at this
      omega
  have h1 := key p.x.natAbs (by omega)
  have h2 := key p.y.natAbs (by omega)
  omega
theorem clP_id {p : Pt} (h : (-1048576 ≤ p.x ∧ p.x ≤ 1048576) ∧ (-1048576 ≤ p.y ∧ p.y ≤ 1048576)) : clP p = p := by
  unfold clP clN
  rw [if_neg (by omega), if_neg (by omega), if_neg (by omega), if_neg (by omega)]
/-- A motion after t ticks. -/
structure MOk (l : Lm) (t : Nat) (m : Mo) : Prop where
  px : m.p.x.natAbs ≤ 4096 * t
  py : m.p.y.natAbs ≤ 4096 * t
  v : sqI m.v ≤ l.sp * l.sp
theorem MOk.vld {l : Lm} {t : Nat} {m : Mo} (hl : okL l) (h : MOk l t m) (ht : t ≤ 60) : vldM m l := by
  have hl2 := hl
  unfold okL at hl2
  have := sqI_b (s := l.sp) (by omega) h.v
  have h1 := h.px
  have h2 := h.py
  exact ⟨hl, this, h.v, clP_id (by omega)⟩
theorem lim_one {s : Su} {t : Int} {m : Mo} {want : Pt} (hv : vldM m s.l) : (limU s t m want = wnt s.l m.v want ∨ limU s t m want = brv s.l m.v) := by
  unfold limU
  split
  · exact Or.inr (if_pos hv)
  · refine Or.inl ?_
    unfold stpV stpM
    rw [if_pos hv]
    rfl
theorem lim_good {s : Su} {k : Nat} {t : Int} {m : Mo} {want : Pt} (hl : okL s.l) (h : MOk s.l k m) (hk : k ≤ 60) :
    sqI (limU s t m want) ≤ s.l.sp * s.l.sp ∧ (sqI ((limU s t m want).sub m.v) ≤ s.l.ac * s.l.ac ∨ sqI (limU s t m want) ≤ max 0 ((ln m.v : Nat) - s.l.br) * max 0 ((ln m.v : Nat) - s.l.br)) := by
  have hv := h.vld hl hk
  obtain ⟨_, b1, b2⟩ := vld_b hv
  rcases lim_one (t := t) (want := want) hv with e | e
  · rw [e]
    exact ⟨wnt_sp h.v, Or.inl (wnt_ac hl ⟨b1, b2⟩)⟩
  · rw [e]
    exact ⟨Int.le_trans (brv_sp hl ⟨b1, b2⟩) h.v, Or.inr (brv_sq (by unfold Pt.sm; omega))⟩
theorem MOk.next {l : Lm} {k : Nat} {m : Mo} {u : Pt} (hl : okL l) (h : MOk l k m) (hu : sqI u ≤ l.sp * l.sp) : MOk l (k + 1) ⟨m.p.add u, u⟩ := by
  unfold okL at hl
  have := sqI_b (s := l.sp) (by omega) hu
  have h1 := h.px
  have h2 := h.py
  refine ⟨?_, ?_, hu⟩
  · show (m.p.x + u.x).natAbs ≤ _; omega
  · show (m.p.y + u.y).natAbs ≤ _; omega
theorem ln_of {p : Pt} (h : p.sm) {w : Nat} (h1 : (w : Int) * w ≤ sqI p) (h2 : sqI p < (w + 1 : Nat) * (w + 1 : Nat)) : ln p = w := by
  have hs := sqP_eq h
  have e : sqI p = (sqP p : Nat) := hs.1
  have hq := isq_spec (n := sqP p) (by omega)
  rw [e] at h1 h2
  have h1' : w * w ≤ sqP p := by
    have : ((w * w : Nat) : Int) ≤ (sqP p : Nat) := by push_cast; exact h1
    omega
  have h2' : sqP p < (w + 1) * (w + 1) := by
    have : ((sqP p : Nat) : Int) < (((w + 1) * (w + 1) : Nat) : Int) := by push_cast at h2 ⊢; exact h2
    omega
  unfold ln
  rcases (by omega : isq (sqP p) < w ∨ w < isq (sqP p) ∨ isq (sqP p) = w) with h | h | h
  · have : (isq (sqP p) + 1) * (isq (sqP p) + 1) ≤ w * w := Nat.mul_le_mul (by omega) (by omega)
    omega
  · have : (w + 1) * (w + 1) ≤ isq (sqP p) * isq (sqP p) := Nat.mul_le_mul (by omega) (by omega)
    omega
  · exact h
end Go.Proofs.Yteifgkldagnodaa

namespace Go.Proofs.Yteifgkldagnodaa
open Go.X
set_option linter.unusedSimpArgs false
set_option linter.unusedVariables false
def seeS (s : Su) (id t : Int) (p : Pt) : Su := ⟨s.l, s.tmo, s.al, s.md, (seeM s.M s.ck id t p).2, (seeM s.M s.ck id t p).1⟩
theorem see_ok {s : Su} (h : SOk s) (id t : Int) (p : Pt) : SOk (seeS s id t p) := ⟨h.l, h.tmo, h.al, h.md, see_pok h.p id t p⟩
theorem lim_ok {s : Su} (h : SOk s) (t : Int) (m : Mo) (w : Pt) : SOk (limS s t m w) := by
  refine ⟨h.l, h.tmo, h.al, ?_, h.p⟩
  have := h.md
  show 1 ≤ limD s t m w ∧ limD s t m w ≤ 4
  unfold limD
  split
  · split <;> omega
  · split <;> omega
theorem sqI_nn (p : Pt) : 0 ≤ sqI p := by rw [sqI_nat]; exact Int.natCast_nonneg _
abbrev ptR (l : List Pt) (c : Nat) : Ck := .row false false 31 2 l.length c (rowOf encPt l)
set_option maxRecDepth 10000 in
theorem csquareL (p : Pt) (hp : p.sm) : Ctr Try.prog 11 [.a (encPt p)] [] fun v h => v = .c (.i .i64 (sqI p)) ∧ h = [] := by
  have h1 := sq_le hp.1
  have h2 := sq_le hp.2
  refine Ctr.mk' tbv mixed Try.func11 rfl rfl rfl (fun _ _ => by kernel_rfl) (by kernel_rfl) (by rfl) (by rfl) (by (repeat' first | refine And.intro ?_ ?_ | exact xeC | fail)) ?_
  repeat' (first | (fail_if_success (with_reducible refine xstp ?_)); first | ((with_reducible refine And.intro (fun (hb : _ = true) => ?_) (fun (hb : _ = false) => ?_)) <;> replace hb := xnC hb <;> (try first | exact xfC | exact bff hb (by assumption) | exact bff (by assumption) hb)) | (with_reducible refine Both.mk ?_ ?_) | ((with_reducible refine And.intro ?_ ?_); focus exact xoC) | ((with_reducible refine Or.inl ⟨?_, ?_, ?_⟩); (focus rfl); focus exact xaC) | ((with_reducible refine xwB ?_ ?_); focus exact xaC) | ((with_reducible refine xwC ?_ ?_); focus exact xaC) | ((with_reducible refine xwD ?_ ?_); focus exact xaC) | ((with_reducible refine xwE ?_ ?_); focus exact xaC) | (with_reducible intro hc; (try simp only [capsP, and_true] at hc); (try exact xfC)) | ((fail_if_success (with_reducible first | refine xgon ?_ | intro _)); (conv => whnf); (fail_if_success (fail_if_success (with_reducible first | refine xstp ?_ | refine Both.mk ?_ ?_ | refine xgon ?_ | intro _)))))
  all_goals (
    refine FinK.mk ⟨[], _, _, ⟨rfl, rfl⟩, ?_⟩; (repeat' first | refine And.intro ?_ ?_ | exact xeC | fail)
    try rfl)
theorem rH51mJ0 {σ : List Sg} {H h' : List Fam} {v : T} {K : T → List Fam → Prop} {H' : List Fam} {v' : T} {N : Nat} (hk : K v' H') (hN : H.length = N := by (try simp only [↓List.length_cons, ↓List.length_nil, Nat.reduceAdd]) <;> rfl) (h : givesF σ N H σ h' = some H' := by (try simp (maxSteps := 1000000) only [givesF, setF, updF, Fam.zeroth, Fam.rk, Ck.rk, C.rk, E.rk, T.rk, key, List.map_cons, List.map_nil, List.cons_append, List.nil_append, List.length_cons, List.length_nil, Option.map_some, Option.bind_some, Nat.reduceAdd, Nat.zero_add, Nat.add_zero, Nat.add_sub_cancel_left, Int.toNat_natCast, reps, List.all_cons, List.all_nil, C.flat, List.append_eq, Bool.not_true, Bool.and_true, Bool.or_false, Bool.or_self, Bool.not_false, List.append_nil, Bool.and_self, encPt, encM, encL]) <;> rfl) (hv : v.rk σ N = v' := by (try simp only [givesF, setF, updF, Fam.zeroth, Fam.rk, Ck.rk, C.rk, E.rk, T.rk, key, List.map_cons, List.map_nil, List.cons_append, List.nil_append, List.length_cons, List.length_nil, Option.map_some, Option.bind_some, Nat.reduceAdd, Nat.zero_add, Nat.add_zero, Nat.add_sub_cancel_left, Int.toNat_natCast, reps, List.all_cons, List.all_nil, C.flat, List.append_eq, Bool.not_true, Bool.and_true, Bool.or_false, Bool.or_self, Bool.not_false, List.append_nil, Bool.and_self, encPt, encM, encL]) <;> rfl) : RetG σ H h' v K := ret_mk3 hN h hv hk
set_option maxRecDepth 20000 in
set_option maxHeartbeats 4000000 in
theorem climits (l : Lm) (P R : List Pt) (c1 c2 : Nat) (hP : P.length ≤ 9223372036854775807) (hR : R.length ≤ 9223372036854775807) :
    Ctr Try.prog 3 [.a (encL l), .c (.sl 0 0 2 0 P.length c1), .c (.sl 1 0 2 0 R.length c2)] [.one (ptR P c1), .one (ptR R c2)] fun v _ => v = .c .tt := by
  refine Ctr.mk' tbv mixed Try.func3 rfl rfl rfl (fun _ _ => by kernel_rfl) (by kernel_rfl) (by rfl) (by rfl) (by (repeat' first | refine And.intro ?_ ?_ | exact xeC | fail)) ?_
  repeat' (first | (fail_if_success (with_reducible refine xstp ?_)); first | ((with_reducible refine And.intro (fun (hb : _ = true) => ?_) (fun (hb : _ = false) => ?_)) <;> replace hb := xnC hb <;> (try first | exact xfC | exact bff hb (by assumption) | exact bff (by assumption) hb)) | (with_reducible refine Both.mk ?_ ?_) | ((with_reducible refine And.intro ?_ ?_); focus exact xoC) | ((with_reducible refine Or.inl ⟨?_, ?_, ?_⟩); (focus rfl); focus exact xaC) | ((with_reducible refine xwB ?_ ?_); focus exact xaC) | ((with_reducible refine xwC ?_ ?_); focus exact xaC) | ((with_reducible refine xwD ?_ ?_); focus exact xaC) | ((with_reducible refine xwE ?_ ?_); focus exact xaC) | (with_reducible intro hc; (try simp only [capsP, and_true] at hc); (try exact xfC)) | ((fail_if_success (with_reducible first | refine xgon ?_ | intro _)); (conv => whnf); (fail_if_success (fail_if_success (with_reducible first | refine xstp ?_ | refine Both.mk ?_ ?_ | refine xgon ?_ | intro _)))))
  · skip
    refine xcal (σ := []) (nl := []) (cawake) ?_
    rintro v h' ⟨rfl, rfl⟩ hcaps
    refine rH51mJ0 ?_
    repeat' (first | (fail_if_success (with_reducible refine xstp ?_)); first | ((with_reducible refine And.intro (fun (hb : _ = true) => ?_) (fun (hb : _ = false) => ?_)) <;> replace hb := xnC hb <;> (try first | exact xfC | exact bff hb (by assumption) | exact bff (by assumption) hb)) | (with_reducible refine Both.mk ?_ ?_) | ((with_reducible refine And.intro ?_ ?_); focus exact xoC) | ((with_reducible refine Or.inl ⟨?_, ?_, ?_⟩); (focus rfl); focus exact xaC) | ((with_reducible refine xwB ?_ ?_); focus exact xaC) | ((with_reducible refine xwC ?_ ?_); focus exact xaC) | ((with_reducible refine xwD ?_ ?_); focus exact xaC) | ((with_reducible refine xwE ?_ ?_); focus exact xaC) | (with_reducible intro hc; (try simp only [capsP, and_true] at hc); (try exact xfC)) | ((fail_if_success (with_reducible first | refine xgon ?_ | intro _)); (conv => whnf); (fail_if_success (fail_if_success (with_reducible first | refine xstp ?_ | refine Both.mk ?_ ?_ | refine xgon ?_ | intro _)))))
    refine FinK.mk ⟨[0, 1], _, [.one .no, .one .no], rfl, ?_⟩
    (repeat' first | refine And.intro ?_ ?_ | exact xeC | fail)
  by_cases hl : okL l
  · refine xcal (σ := []) (nl := []) (cNewS l 30 ⟨hl, by decide⟩) ?_
    rintro v h' ⟨rfl, rfl⟩ hcaps
    refine rH51mJ0 ?_
    repeat' (first | (fail_if_success (with_reducible refine xstp ?_)); first | ((with_reducible refine And.intro (fun (hb : _ = true) => ?_) (fun (hb : _ = false) => ?_)) <;> replace hb := xnC hb <;> (try first | exact xfC | exact bff hb (by assumption) | exact bff (by assumption) hb)) | (with_reducible refine Both.mk ?_ ?_) | ((with_reducible refine And.intro ?_ ?_); focus exact xoC) | ((with_reducible refine Or.inl ⟨?_, ?_, ?_⟩); (focus rfl); focus exact xaC) | ((with_reducible refine xwB ?_ ?_); focus exact xaC) | ((with_reducible refine xwC ?_ ?_); focus exact xaC) | ((with_reducible refine xwD ?_ ?_); focus exact xaC) | ((with_reducible refine xwE ?_ ?_); focus exact xaC) | (with_reducible intro hc; (try simp only [capsP, and_true] at hc); (try exact xfC)) | ((fail_if_success (with_reducible first | refine xgon ?_ | intro _)); (conv => whnf); (fail_if_success (fail_if_success (with_reducible first | refine xstp ?_ | refine Both.mk ?_ ?_ | refine xgon ?_ | intro _)))))
    refine LoopK.mk' {q : Nat × Mo × Su // q.1 ≤ P.length ∧ MOk l q.1 q.2.1 ∧ SOk q.2.2 ∧ q.2.2.l = l}
      (fun ⟨(t, m, s), _⟩ => ⟨[(3, .c (.p 2 0 0)), (1, .c (.sl 0 0 2 0 P.length c1)), (2, .c (.sl 1 0 2 0 R.length c2)), (7, .c (.p 3 0 0)), (9, .c (.p 6 0 0)), (10, .c (.i .i64 (t : Nat)))],
        [.one (ptR P c1), .one (ptR R c2), .one (.cells true (encL l)), .one (.cells true [.i .i64 s.l.sp, .i .i64 s.l.ac, .i .i64 s.l.br, .i .i64 s.l.hu, .i .i64 s.l.mg, .p 4 0 0, .i .i64 s.tmo, .i .i64 s.al, .i .i64 s.md]), .one (.cells true [.i .i64 s.l.hu, .i .i64 s.tmo, .mp 5 0]), .one (mapC s.ck s.M), .one (.cells true (encM m))]⟩) (fun q => P.length - q.1.1)
      ⟨⟨(0, mA, newS l 30), Nat.zero_le _, ⟨Nat.le_refl _, Nat.le_refl _, by unfold okL at hl; show (0 : Int) ≤ _; exact Int.mul_nonneg (by omega) (by omega)⟩, okN0 ⟨hl, by decide⟩, rfl⟩, [0, 1, 2, 3, 4, 5, 6], ?_⟩ ?_
    · (repeat' first | refine And.intro ?_ ?_ | exact xeC | fail)
    rintro ⟨⟨t, m, s⟩, ht, hm, hs, hsl⟩
    simp only at ht hm hs hsl
    subst hsl
    have hvm := hm.vld hl
    have hpx := hm.px
    have hpy := hm.py
    have hvv := hm.v
    have hmod : (t : Int).tmod 8 = (t : Int) % 8 := Int.tmod_eq_emod_of_nonneg (by omega)
    have hl2 := hl
    unfold okL at hl2
    have hsp : 0 ≤ s.l.sp * s.l.sp ∧ s.l.sp * s.l.sp ≤ 17592186044416 := sq_le (by omega)
    have hsp4 : s.l.sp * s.l.sp ≤ 4096 * 4096 := Int.mul_le_mul (by omega) (by omega) (by omega) (by decide)
    have hac : 0 ≤ s.l.ac * s.l.ac ∧ s.l.ac * s.l.ac ≤ 17592186044416 := sq_le (by omega)
    repeat' (first | (fail_if_success (with_reducible refine xstp ?_)); first | ((with_reducible refine And.intro (fun (hb : _ = true) => ?_) (fun (hb : _ = false) => ?_)) <;> replace hb := xnC hb <;> (try first | exact xfC | exact bff hb (by assumption) | exact bff (by assumption) hb)) | (with_reducible refine Both.mk ?_ ?_) | ((with_reducible refine And.intro ?_ ?_); focus exact xoC) | ((with_reducible refine Or.inl ⟨?_, ?_, ?_⟩); (focus rfl); focus exact xaC) | ((with_reducible refine xwB ?_ ?_); focus exact xaC) | ((with_reducible refine xwC ?_ ?_); focus exact xaC) | ((with_reducible refine xwD ?_ ?_); focus exact xaC) | ((with_reducible refine xwE ?_ ?_); focus exact xaC) | (with_reducible intro hc; (try simp only [capsP, and_true] at hc); (try exact xfC)) | ((fail_if_success (with_reducible first | refine xgon ?_ | intro _)); (conv => whnf); (fail_if_success (fail_if_success (with_reducible first | refine xstp ?_ | refine Both.mk ?_ ?_ | refine xgon ?_ | intro _)))))
    · have hvm := hvm (by omega)
      obtain ⟨_, bv1, bv2⟩ := vld_b hvm
      refine xcal (σ := []) (nl := []) (cwithinL (P.getD t default)) ?_
      rintro v h' ⟨rfl, rfl⟩ hcaps
      refine rH51mJ0 ?_
      repeat' (first | (fail_if_success (with_reducible refine xstp ?_)); first | ((with_reducible refine And.intro (fun (hb : _ = true) => ?_) (fun (hb : _ = false) => ?_)) <;> replace hb := xnC hb <;> (try first | exact xfC | exact bff hb (by assumption) | exact bff (by assumption) hb)) | (with_reducible refine Both.mk ?_ ?_) | ((with_reducible refine And.intro ?_ ?_); focus exact xoC) | ((with_reducible refine Or.inl ⟨?_, ?_, ?_⟩); (focus rfl); focus exact xaC) | ((with_reducible refine xwB ?_ ?_); focus exact xaC) | ((with_reducible refine xwC ?_ ?_); focus exact xaC) | ((with_reducible refine xwD ?_ ?_); focus exact xaC) | ((with_reducible refine xwE ?_ ?_); focus exact xaC) | (with_reducible intro hc; (try simp only [capsP, and_true] at hc); (try exact xfC)) | ((fail_if_success (with_reducible first | refine xgon ?_ | intro _)); (conv => whnf); (fail_if_success (fail_if_success (with_reducible first | refine xstp ?_ | refine Both.mk ?_ ?_ | refine xgon ?_ | intro _)))))
      · skip
        refine xcal (σ := []) (nl := []) (cawake) ?_
        rintro v h' ⟨rfl, rfl⟩ hcaps
        refine rH51mJ0 ?_
        repeat' (first | (fail_if_success (with_reducible refine xstp ?_)); first | ((with_reducible refine And.intro (fun (hb : _ = true) => ?_) (fun (hb : _ = false) => ?_)) <;> replace hb := xnC hb <;> (try first | exact xfC | exact bff hb (by assumption) | exact bff (by assumption) hb)) | (with_reducible refine Both.mk ?_ ?_) | ((with_reducible refine And.intro ?_ ?_); focus exact xoC) | ((with_reducible refine Or.inl ⟨?_, ?_, ?_⟩); (focus rfl); focus exact xaC) | ((with_reducible refine xwB ?_ ?_); focus exact xaC) | ((with_reducible refine xwC ?_ ?_); focus exact xaC) | ((with_reducible refine xwD ?_ ?_); focus exact xaC) | ((with_reducible refine xwE ?_ ?_); focus exact xaC) | (with_reducible intro hc; (try simp only [capsP, and_true] at hc); (try exact xfC)) | ((fail_if_success (with_reducible first | refine xgon ?_ | intro _)); (conv => whnf); (fail_if_success (fail_if_success (with_reducible first | refine xstp ?_ | refine Both.mk ?_ ?_ | refine xgon ?_ | intro _)))))
        refine FinK.mk ⟨[0, 1], _, [.one .no, .one .no], rfl, ?_⟩
        (repeat' first | refine And.intro ?_ ?_ | exact xeC | fail)
      · rw [hmod]
        repeat' (first | (fail_if_success (with_reducible refine xstp ?_)); first | ((with_reducible refine And.intro (fun (hb : _ = true) => ?_) (fun (hb : _ = false) => ?_)) <;> replace hb := xnC hb <;> (try first | exact xfC | exact bff hb (by assumption) | exact bff (by assumption) hb)) | (with_reducible refine Both.mk ?_ ?_) | ((with_reducible refine And.intro ?_ ?_); focus exact xoC) | ((with_reducible refine Or.inl ⟨?_, ?_, ?_⟩); (focus rfl); focus exact xaC) | ((with_reducible refine xwB ?_ ?_); focus exact xaC) | ((with_reducible refine xwC ?_ ?_); focus exact xaC) | ((with_reducible refine xwD ?_ ?_); focus exact xaC) | ((with_reducible refine xwE ?_ ?_); focus exact xaC) | (with_reducible intro hc; (try simp only [capsP, and_true] at hc); (try exact xfC)) | ((fail_if_success (with_reducible first | refine xgon ?_ | intro _)); (conv => whnf); (fail_if_success (fail_if_success (with_reducible first | refine xstp ?_ | refine Both.mk ?_ ?_ | refine xgon ?_ | intro _)))))
        refine xcal (σ := [.whole 3, .whole 4, .whole 5]) (nl := []) (cSeeS s (1 + (t : Int) % 8) (t : Nat) (R.getD t default) hs) ?_
        have hs2 := see_ok hs (1 + (t : Int) % 8) (t : Nat) (R.getD t default)
        obtain ⟨s2, e2⟩ : ∃ s2, s2 = seeS s (1 + (t : Int) % 8) (t : Nat) (R.getD t default) := ⟨_, rfl⟩
        rw [show Su.mk s.l s.tmo s.al s.md (seeM s.M s.ck (1 + (t : Int) % 8) (t : Nat) (R.getD t default)).2 (seeM s.M s.ck (1 + (t : Int) % 8) (t : Nat) (R.getD t default)).1 = s2 from e2.symm]
        rw [← e2] at hs2
        have l2 : s2.l = s.l := by rw [e2]; rfl
        rintro v h' ⟨rfl, rfl⟩ hcaps
        refine rH51mJ0 ?_
        repeat' (first | (fail_if_success (with_reducible refine xstp ?_)); first | ((with_reducible refine And.intro (fun (hb : _ = true) => ?_) (fun (hb : _ = false) => ?_)) <;> replace hb := xnC hb <;> (try first | exact xfC | exact bff hb (by assumption) | exact bff (by assumption) hb)) | (with_reducible refine Both.mk ?_ ?_) | ((with_reducible refine And.intro ?_ ?_); focus exact xoC) | ((with_reducible refine Or.inl ⟨?_, ?_, ?_⟩); (focus rfl); focus exact xaC) | ((with_reducible refine xwB ?_ ?_); focus exact xaC) | ((with_reducible refine xwC ?_ ?_); focus exact xaC) | ((with_reducible refine xwD ?_ ?_); focus exact xaC) | ((with_reducible refine xwE ?_ ?_); focus exact xaC) | (with_reducible intro hc; (try simp only [capsP, and_true] at hc); (try exact xfC)) | ((fail_if_success (with_reducible first | refine xgon ?_ | intro _)); (conv => whnf); (fail_if_success (fail_if_success (with_reducible first | refine xstp ?_ | refine Both.mk ?_ ?_ | refine xgon ?_ | intro _)))))
        all_goals (
          refine xcal (σ := [.whole 3, .whole 4, .whole 5]) (nl := []) (cLimit (s2) (t : Nat) m (P.getD t default) (hs2) (by unfold Pt.sm; omega)) ?_
          have hsl9 : Su.l (s2) = s.l := l2
          have hst9 : SOk (s2) := hs2
          have hgd := lim_good (s := s2) (k := t) (t := (t : Nat)) (want := P.getD t default) (by rw [hsl9]; exact hl) (by rw [hsl9]; exact hm) (by omega)
          rw [hsl9] at hgd
          obtain ⟨u, hu⟩ : ∃ u, u = limU (s2) (t : Nat) m (P.getD t default) := ⟨_, rfl⟩
          rw [← hu] at hgd ⊢
          obtain ⟨s3, e3⟩ : ∃ s3, s3 = limS (s2) (t : Nat) m (P.getD t default) := ⟨_, rfl⟩
          have hs3 : SOk s3 := by rw [e3]; exact lim_ok hst9 _ _ _
          have l3 : s3.l = s.l := by rw [e3]; exact hsl9
          rw [← e3]
          clear e3
          obtain ⟨hg1, hg2⟩ := hgd
          have hub := sqI_b (by omega) hg1
          rintro v h' ⟨rfl, rfl⟩ hcaps
          refine rH51mJ0 ?_
          repeat' (first | (fail_if_success (with_reducible refine xstp ?_)); first | ((with_reducible refine And.intro (fun (hb : _ = true) => ?_) (fun (hb : _ = false) => ?_)) <;> replace hb := xnC hb <;> (try first | exact xfC | exact bff hb (by assumption) | exact bff (by assumption) hb)) | (with_reducible refine Both.mk ?_ ?_) | ((with_reducible refine And.intro ?_ ?_); focus exact xoC) | ((with_reducible refine Or.inl ⟨?_, ?_, ?_⟩); (focus rfl); focus exact xaC) | ((with_reducible refine xwB ?_ ?_); focus exact xaC) | ((with_reducible refine xwC ?_ ?_); focus exact xaC) | ((with_reducible refine xwD ?_ ?_); focus exact xaC) | ((with_reducible refine xwE ?_ ?_); focus exact xaC) | (with_reducible intro hc; (try simp only [capsP, and_true] at hc); (try exact xfC)) | ((fail_if_success (with_reducible first | refine xgon ?_ | intro _)); (conv => whnf); (fail_if_success (fail_if_success (with_reducible first | refine xstp ?_ | refine Both.mk ?_ ?_ | refine xgon ?_ | intro _)))))
          refine xcal (σ := []) (nl := []) (csquareL u (by unfold Pt.sm; omega)) ?_
          rintro v h' ⟨rfl, rfl⟩ hcaps
          refine rH51mJ0 ?_
          repeat' (first | (fail_if_success (with_reducible refine xstp ?_)); first | ((with_reducible refine And.intro (fun (hb : _ = true) => ?_) (fun (hb : _ = false) => ?_)) <;> replace hb := xnC hb <;> (try first | exact xfC | exact bff hb (by assumption) | exact bff (by assumption) hb)) | (with_reducible refine Both.mk ?_ ?_) | ((with_reducible refine And.intro ?_ ?_); focus exact xoC) | ((with_reducible refine Or.inl ⟨?_, ?_, ?_⟩); (focus rfl); focus exact xaC) | ((with_reducible refine xwB ?_ ?_); focus exact xaC) | ((with_reducible refine xwC ?_ ?_); focus exact xaC) | ((with_reducible refine xwD ?_ ?_); focus exact xaC) | ((with_reducible refine xwE ?_ ?_); focus exact xaC) | (with_reducible intro hc; (try simp only [capsP, and_true] at hc); (try exact xfC)) | ((fail_if_success (with_reducible first | refine xgon ?_ | intro _)); (conv => whnf); (fail_if_success (fail_if_success (with_reducible first | refine xstp ?_ | refine Both.mk ?_ ?_ | refine xgon ?_ | intro _)))))
          refine xcal (σ := []) (nl := []) (csquareL (u.sub m.v) (by unfold Pt.sm Pt.sub; simp only; omega)) ?_
          rintro v h' ⟨rfl, rfl⟩ hcaps
          refine rH51mJ0 ?_
          repeat' (first | (fail_if_success (with_reducible refine xstp ?_)); first | ((with_reducible refine And.intro (fun (hb : _ = true) => ?_) (fun (hb : _ = false) => ?_)) <;> replace hb := xnC hb <;> (try first | exact xfC | exact bff hb (by assumption) | exact bff (by assumption) hb)) | (with_reducible refine Both.mk ?_ ?_) | ((with_reducible refine And.intro ?_ ?_); focus exact xoC) | ((with_reducible refine Or.inl ⟨?_, ?_, ?_⟩); (focus rfl); focus exact xaC) | ((with_reducible refine xwB ?_ ?_); focus exact xaC) | ((with_reducible refine xwC ?_ ?_); focus exact xaC) | ((with_reducible refine xwD ?_ ?_); focus exact xaC) | ((with_reducible refine xwE ?_ ?_); focus exact xaC) | (with_reducible intro hc; (try simp only [capsP, and_true] at hc); (try exact xfC)) | ((fail_if_success (with_reducible first | refine xgon ?_ | intro _)); (conv => whnf); (fail_if_success (fail_if_success (with_reducible first | refine xstp ?_ | refine Both.mk ?_ ?_ | refine xgon ?_ | intro _)))))
          · have hg3 : sqI u ≤ max 0 ((ln m.v : Nat) - s.l.br) * max 0 ((ln m.v : Nat) - s.l.br) := by
              rcases hg2 with h | h
              · omega
              · exact h
            refine LoopK.mk' {w : Nat // (w : Int) * w ≤ sqI m.v ∧ w ≤ 4096}
              (fun ⟨w, _⟩ => ⟨[(3, .c (.p 2 0 0)), (1, .c (.sl 0 0 2 0 P.length c1)), (2, .c (.sl 1 0 2 0 R.length c2)), (7, .c (.p 3 0 0)), (9, .c (.p 6 0 0)), (10, .c (.i .i64 (t : Nat))), (11, .c (.p 7 0 0)), (13, .c (.i .i64 (w : Nat)))],
                [.one (ptR P c1), .one (ptR R c2), .one (.cells true (encL s.l)), .one (.cells true [.i .i64 s3.l.sp, .i .i64 s3.l.ac, .i .i64 s3.l.br, .i .i64 s3.l.hu, .i .i64 s3.l.mg, .p 4 0 0, .i .i64 s3.tmo, .i .i64 s3.al, .i .i64 s3.md]), .one (.cells true [.i .i64 s3.l.hu, .i .i64 s3.tmo, .mp 5 0]), .one (mapC s3.ck s3.M), .one (.cells true (encM m)), .one (.cells true (encPt u))]⟩) (fun q => 4096 - q.1)
              ⟨⟨0, by show (0 : Int) ≤ _; exact sqI_nn _, by decide⟩, [0, 1, 2, 3, 4, 5, 6, 7], ?_⟩ ?_
            · (repeat' first | refine And.intro ?_ ?_ | exact xeC | fail)
            rintro ⟨w, hw1, hw2⟩
            have hww : 0 ≤ ((w : Int) + 1) * ((w : Int) + 1) ∧ ((w : Int) + 1) * ((w : Int) + 1) ≤ 17592186044416 := sq_le (by omega)
            repeat' (first | (fail_if_success (with_reducible refine xstp ?_)); first | ((with_reducible refine And.intro (fun (hb : _ = true) => ?_) (fun (hb : _ = false) => ?_)) <;> replace hb := xnC hb <;> (try first | exact xfC | exact bff hb (by assumption) | exact bff (by assumption) hb)) | (with_reducible refine Both.mk ?_ ?_) | ((with_reducible refine And.intro ?_ ?_); focus exact xoC) | ((with_reducible refine Or.inl ⟨?_, ?_, ?_⟩); (focus rfl); focus exact xaC) | ((with_reducible refine xwB ?_ ?_); focus exact xaC) | ((with_reducible refine xwC ?_ ?_); focus exact xaC) | ((with_reducible refine xwD ?_ ?_); focus exact xaC) | ((with_reducible refine xwE ?_ ?_); focus exact xaC) | (with_reducible intro hc; (try simp only [capsP, and_true] at hc); (try exact xfC)) | ((fail_if_success (with_reducible first | refine xgon ?_ | intro _)); (conv => whnf); (fail_if_success (fail_if_success (with_reducible first | refine xstp ?_ | refine Both.mk ?_ ?_ | refine xgon ?_ | intro _)))))
            refine xcal (σ := []) (nl := []) (csquareL m.v (by unfold Pt.sm; omega)) ?_
            rintro v h' ⟨rfl, rfl⟩ hcaps
            refine rH51mJ0 ?_
            repeat' (first | (fail_if_success (with_reducible refine xstp ?_)); first | ((with_reducible refine And.intro (fun (hb : _ = true) => ?_) (fun (hb : _ = false) => ?_)) <;> replace hb := xnC hb <;> (try first | exact xfC | exact bff hb (by assumption) | exact bff (by assumption) hb)) | (with_reducible refine Both.mk ?_ ?_) | ((with_reducible refine And.intro ?_ ?_); focus exact xoC) | ((with_reducible refine Or.inl ⟨?_, ?_, ?_⟩); (focus rfl); focus exact xaC) | ((with_reducible refine xwB ?_ ?_); focus exact xaC) | ((with_reducible refine xwC ?_ ?_); focus exact xaC) | ((with_reducible refine xwD ?_ ?_); focus exact xaC) | ((with_reducible refine xwE ?_ ?_); focus exact xaC) | (with_reducible intro hc; (try simp only [capsP, and_true] at hc); (try exact xfC)) | ((fail_if_success (with_reducible first | refine xgon ?_ | intro _)); (conv => whnf); (fail_if_success (fail_if_success (with_reducible first | refine xstp ?_ | refine Both.mk ?_ ?_ | refine xgon ?_ | intro _)))))
            · have hw3 : w + 1 ≤ 4096 := by
                by_cases hh : w + 1 ≤ 4096
                · exact hh
                · have : (4097 : Int) * 4097 ≤ ((w : Int) + 1) * ((w : Int) + 1) := Int.mul_le_mul (by omega) (by omega) (by omega) (by omega)
                  omega
              refine ⟨⟨w + 1, by push_cast; omega, hw3⟩, [0, 1, 2, 3, 4, 5, 6, 7], by simp only; omega, ?_⟩
              (repeat' first | refine And.intro ?_ ?_ | exact xeC | fail)
            · have hln : ln m.v = w := ln_of (by unfold Pt.sm; omega) hw1 (by push_cast; omega)
              have hq : sqI u ≤ 0 * 0 := by
                rw [hln, show max 0 ((w : Int) - s.l.br) = 0 by omega] at hg3
                exact hg3
              refine xcal (σ := []) (nl := []) (csquareL u (by unfold Pt.sm; omega)) ?_
              rintro v h' ⟨rfl, rfl⟩ hcaps
              refine rH51mJ0 ?_
              repeat' (first | (fail_if_success (with_reducible refine xstp ?_)); first | ((with_reducible refine And.intro (fun (hb : _ = true) => ?_) (fun (hb : _ = false) => ?_)) <;> replace hb := xnC hb <;> (try first | exact xfC | exact bff hb (by assumption) | exact bff (by assumption) hb)) | (with_reducible refine Both.mk ?_ ?_) | ((with_reducible refine And.intro ?_ ?_); focus exact xoC) | ((with_reducible refine Or.inl ⟨?_, ?_, ?_⟩); (focus rfl); focus exact xaC) | ((with_reducible refine xwB ?_ ?_); focus exact xaC) | ((with_reducible refine xwC ?_ ?_); focus exact xaC) | ((with_reducible refine xwD ?_ ?_); focus exact xaC) | ((with_reducible refine xwE ?_ ?_); focus exact xaC) | (with_reducible intro hc; (try simp only [capsP, and_true] at hc); (try exact xfC)) | ((fail_if_success (with_reducible first | refine xgon ?_ | intro _)); (conv => whnf); (fail_if_success (fail_if_success (with_reducible first | refine xstp ?_ | refine Both.mk ?_ ?_ | refine xgon ?_ | intro _)))))
              refine ⟨⟨(t + 1, ⟨m.p.add u, u⟩, s3), by simp only; omega, MOk.next hl hm hg1, hs3, l3⟩, [0, 1, 2, 3, 4, 5, 6], by simp only; omega, ?_⟩
              (repeat' first | refine And.intro ?_ ?_ | exact xeC | fail)
            · have hln : ln m.v = w := ln_of (by unfold Pt.sm; omega) hw1 (by push_cast; omega)
              have hmm : 0 ≤ ((w : Int) - s.l.br) * ((w : Int) - s.l.br) ∧ ((w : Int) - s.l.br) * ((w : Int) - s.l.br) ≤ 17592186044416 := sq_le (by omega)
              have hq : sqI u ≤ ((w : Int) - s.l.br) * ((w : Int) - s.l.br) := by
                rw [hln, show max 0 ((w : Int) - s.l.br) = (w : Int) - s.l.br by omega] at hg3
                exact hg3
              refine xcal (σ := []) (nl := []) (csquareL u (by unfold Pt.sm; omega)) ?_
              rintro v h' ⟨rfl, rfl⟩ hcaps
              refine rH51mJ0 ?_
              repeat' (first | (fail_if_success (with_reducible refine xstp ?_)); first | ((with_reducible refine And.intro (fun (hb : _ = true) => ?_) (fun (hb : _ = false) => ?_)) <;> replace hb := xnC hb <;> (try first | exact xfC | exact bff hb (by assumption) | exact bff (by assumption) hb)) | (with_reducible refine Both.mk ?_ ?_) | ((with_reducible refine And.intro ?_ ?_); focus exact xoC) | ((with_reducible refine Or.inl ⟨?_, ?_, ?_⟩); (focus rfl); focus exact xaC) | ((with_reducible refine xwB ?_ ?_); focus exact xaC) | ((with_reducible refine xwC ?_ ?_); focus exact xaC) | ((with_reducible refine xwD ?_ ?_); focus exact xaC) | ((with_reducible refine xwE ?_ ?_); focus exact xaC) | (with_reducible intro hc; (try simp only [capsP, and_true] at hc); (try exact xfC)) | ((fail_if_success (with_reducible first | refine xgon ?_ | intro _)); (conv => whnf); (fail_if_success (fail_if_success (with_reducible first | refine xstp ?_ | refine Both.mk ?_ ?_ | refine xgon ?_ | intro _)))))
              refine ⟨⟨(t + 1, ⟨m.p.add u, u⟩, s3), by simp only; omega, MOk.next hl hm hg1, hs3, l3⟩, [0, 1, 2, 3, 4, 5, 6], by simp only; omega, ?_⟩
              (repeat' first | refine And.intro ?_ ?_ | exact xeC | fail)
          · skip
            refine ⟨⟨(t + 1, ⟨m.p.add u, u⟩, s3), by simp only; omega, MOk.next hl hm hg1, hs3, l3⟩, [0, 1, 2, 3, 4, 5, 6], by simp only; omega, ?_⟩
            (repeat' first | refine And.intro ?_ ?_ | exact xeC | fail)
          skip)
      all_goals (
        refine xcal (σ := [.whole 3, .whole 4, .whole 5]) (nl := []) (cLimit (s) (t : Nat) m (P.getD t default) (hs) (by unfold Pt.sm; omega)) ?_
        have hsl9 : Su.l (s) = s.l := rfl
        have hst9 : SOk (s) := hs
        have hgd := lim_good (s := s) (k := t) (t := (t : Nat)) (want := P.getD t default) (by rw [hsl9]; exact hl) (by rw [hsl9]; exact hm) (by omega)
        rw [hsl9] at hgd
        obtain ⟨u, hu⟩ : ∃ u, u = limU (s) (t : Nat) m (P.getD t default) := ⟨_, rfl⟩
        rw [← hu] at hgd ⊢
        obtain ⟨s3, e3⟩ : ∃ s3, s3 = limS (s) (t : Nat) m (P.getD t default) := ⟨_, rfl⟩
        have hs3 : SOk s3 := by rw [e3]; exact lim_ok hst9 _ _ _
        have l3 : s3.l = s.l := by rw [e3]; exact hsl9
        rw [← e3]
        clear e3
        obtain ⟨hg1, hg2⟩ := hgd
        have hub := sqI_b (by omega) hg1
        rintro v h' ⟨rfl, rfl⟩ hcaps
        refine rH51mJ0 ?_
        repeat' (first | (fail_if_success (with_reducible refine xstp ?_)); first | ((with_reducible refine And.intro (fun (hb : _ = true) => ?_) (fun (hb : _ = false) => ?_)) <;> replace hb := xnC hb <;> (try first | exact xfC | exact bff hb (by assumption) | exact bff (by assumption) hb)) | (with_reducible refine Both.mk ?_ ?_) | ((with_reducible refine And.intro ?_ ?_); focus exact xoC) | ((with_reducible refine Or.inl ⟨?_, ?_, ?_⟩); (focus rfl); focus exact xaC) | ((with_reducible refine xwB ?_ ?_); focus exact xaC) | ((with_reducible refine xwC ?_ ?_); focus exact xaC) | ((with_reducible refine xwD ?_ ?_); focus exact xaC) | ((with_reducible refine xwE ?_ ?_); focus exact xaC) | (with_reducible intro hc; (try simp only [capsP, and_true] at hc); (try exact xfC)) | ((fail_if_success (with_reducible first | refine xgon ?_ | intro _)); (conv => whnf); (fail_if_success (fail_if_success (with_reducible first | refine xstp ?_ | refine Both.mk ?_ ?_ | refine xgon ?_ | intro _)))))
        refine xcal (σ := []) (nl := []) (csquareL u (by unfold Pt.sm; omega)) ?_
        rintro v h' ⟨rfl, rfl⟩ hcaps
        refine rH51mJ0 ?_
        repeat' (first | (fail_if_success (with_reducible refine xstp ?_)); first | ((with_reducible refine And.intro (fun (hb : _ = true) => ?_) (fun (hb : _ = false) => ?_)) <;> replace hb := xnC hb <;> (try first | exact xfC | exact bff hb (by assumption) | exact bff (by assumption) hb)) | (with_reducible refine Both.mk ?_ ?_) | ((with_reducible refine And.intro ?_ ?_); focus exact xoC) | ((with_reducible refine Or.inl ⟨?_, ?_, ?_⟩); (focus rfl); focus exact xaC) | ((with_reducible refine xwB ?_ ?_); focus exact xaC) | ((with_reducible refine xwC ?_ ?_); focus exact xaC) | ((with_reducible refine xwD ?_ ?_); focus exact xaC) | ((with_reducible refine xwE ?_ ?_); focus exact xaC) | (with_reducible intro hc; (try simp only [capsP, and_true] at hc); (try exact xfC)) | ((fail_if_success (with_reducible first | refine xgon ?_ | intro _)); (conv => whnf); (fail_if_success (fail_if_success (with_reducible first | refine xstp ?_ | refine Both.mk ?_ ?_ | refine xgon ?_ | intro _)))))
        refine xcal (σ := []) (nl := []) (csquareL (u.sub m.v) (by unfold Pt.sm Pt.sub; simp only; omega)) ?_
        rintro v h' ⟨rfl, rfl⟩ hcaps
        refine rH51mJ0 ?_
        repeat' (first | (fail_if_success (with_reducible refine xstp ?_)); first | ((with_reducible refine And.intro (fun (hb : _ = true) => ?_) (fun (hb : _ = false) => ?_)) <;> replace hb := xnC hb <;> (try first | exact xfC | exact bff hb (by assumption) | exact bff (by assumption) hb)) | (with_reducible refine Both.mk ?_ ?_) | ((with_reducible refine And.intro ?_ ?_); focus exact xoC) | ((with_reducible refine Or.inl ⟨?_, ?_, ?_⟩); (focus rfl); focus exact xaC) | ((with_reducible refine xwB ?_ ?_); focus exact xaC) | ((with_reducible refine xwC ?_ ?_); focus exact xaC) | ((with_reducible refine xwD ?_ ?_); focus exact xaC) | ((with_reducible refine xwE ?_ ?_); focus exact xaC) | (with_reducible intro hc; (try simp only [capsP, and_true] at hc); (try exact xfC)) | ((fail_if_success (with_reducible first | refine xgon ?_ | intro _)); (conv => whnf); (fail_if_success (fail_if_success (with_reducible first | refine xstp ?_ | refine Both.mk ?_ ?_ | refine xgon ?_ | intro _)))))
        · have hg3 : sqI u ≤ max 0 ((ln m.v : Nat) - s.l.br) * max 0 ((ln m.v : Nat) - s.l.br) := by
            rcases hg2 with h | h
            · omega
            · exact h
          refine LoopK.mk' {w : Nat // (w : Int) * w ≤ sqI m.v ∧ w ≤ 4096}
            (fun ⟨w, _⟩ => ⟨[(3, .c (.p 2 0 0)), (1, .c (.sl 0 0 2 0 P.length c1)), (2, .c (.sl 1 0 2 0 R.length c2)), (7, .c (.p 3 0 0)), (9, .c (.p 6 0 0)), (10, .c (.i .i64 (t : Nat))), (11, .c (.p 7 0 0)), (13, .c (.i .i64 (w : Nat)))],
              [.one (ptR P c1), .one (ptR R c2), .one (.cells true (encL s.l)), .one (.cells true [.i .i64 s3.l.sp, .i .i64 s3.l.ac, .i .i64 s3.l.br, .i .i64 s3.l.hu, .i .i64 s3.l.mg, .p 4 0 0, .i .i64 s3.tmo, .i .i64 s3.al, .i .i64 s3.md]), .one (.cells true [.i .i64 s3.l.hu, .i .i64 s3.tmo, .mp 5 0]), .one (mapC s3.ck s3.M), .one (.cells true (encM m)), .one (.cells true (encPt u))]⟩) (fun q => 4096 - q.1)
            ⟨⟨0, by show (0 : Int) ≤ _; exact sqI_nn _, by decide⟩, [0, 1, 2, 3, 4, 5, 6, 7], ?_⟩ ?_
          · (repeat' first | refine And.intro ?_ ?_ | exact xeC | fail)
          rintro ⟨w, hw1, hw2⟩
          have hww : 0 ≤ ((w : Int) + 1) * ((w : Int) + 1) ∧ ((w : Int) + 1) * ((w : Int) + 1) ≤ 17592186044416 := sq_le (by omega)
          repeat' (first | (fail_if_success (with_reducible refine xstp ?_)); first | ((with_reducible refine And.intro (fun (hb : _ = true) => ?_) (fun (hb : _ = false) => ?_)) <;> replace hb := xnC hb <;> (try first | exact xfC | exact bff hb (by assumption) | exact bff (by assumption) hb)) | (with_reducible refine Both.mk ?_ ?_) | ((with_reducible refine And.intro ?_ ?_); focus exact xoC) | ((with_reducible refine Or.inl ⟨?_, ?_, ?_⟩); (focus rfl); focus exact xaC) | ((with_reducible refine xwB ?_ ?_); focus exact xaC) | ((with_reducible refine xwC ?_ ?_); focus exact xaC) | ((with_reducible refine xwD ?_ ?_); focus exact xaC) | ((with_reducible refine xwE ?_ ?_); focus exact xaC) | (with_reducible intro hc; (try simp only [capsP, and_true] at hc); (try exact xfC)) | ((fail_if_success (with_reducible first | refine xgon ?_ | intro _)); (conv => whnf); (fail_if_success (fail_if_success (with_reducible first | refine xstp ?_ | refine Both.mk ?_ ?_ | refine xgon ?_ | intro _)))))
          refine xcal (σ := []) (nl := []) (csquareL m.v (by unfold Pt.sm; omega)) ?_
          rintro v h' ⟨rfl, rfl⟩ hcaps
          refine rH51mJ0 ?_
          repeat' (first | (fail_if_success (with_reducible refine xstp ?_)); first | ((with_reducible refine And.intro (fun (hb : _ = true) => ?_) (fun (hb : _ = false) => ?_)) <;> replace hb := xnC hb <;> (try first | exact xfC | exact bff hb (by assumption) | exact bff (by assumption) hb)) | (with_reducible refine Both.mk ?_ ?_) | ((with_reducible refine And.intro ?_ ?_); focus exact xoC) | ((with_reducible refine Or.inl ⟨?_, ?_, ?_⟩); (focus rfl); focus exact xaC) | ((with_reducible refine xwB ?_ ?_); focus exact xaC) | ((with_reducible refine xwC ?_ ?_); focus exact xaC) | ((with_reducible refine xwD ?_ ?_); focus exact xaC) | ((with_reducible refine xwE ?_ ?_); focus exact xaC) | (with_reducible intro hc; (try simp only [capsP, and_true] at hc); (try exact xfC)) | ((fail_if_success (with_reducible first | refine xgon ?_ | intro _)); (conv => whnf); (fail_if_success (fail_if_success (with_reducible first | refine xstp ?_ | refine Both.mk ?_ ?_ | refine xgon ?_ | intro _)))))
          · have hw3 : w + 1 ≤ 4096 := by
              by_cases hh : w + 1 ≤ 4096
              · exact hh
              · have : (4097 : Int) * 4097 ≤ ((w : Int) + 1) * ((w : Int) + 1) := Int.mul_le_mul (by omega) (by omega) (by omega) (by omega)
                omega
            refine ⟨⟨w + 1, by push_cast; omega, hw3⟩, [0, 1, 2, 3, 4, 5, 6, 7], by simp only; omega, ?_⟩
            (repeat' first | refine And.intro ?_ ?_ | exact xeC | fail)
          · have hln : ln m.v = w := ln_of (by unfold Pt.sm; omega) hw1 (by push_cast; omega)
            have hq : sqI u ≤ 0 * 0 := by
              rw [hln, show max 0 ((w : Int) - s.l.br) = 0 by omega] at hg3
              exact hg3
            refine xcal (σ := []) (nl := []) (csquareL u (by unfold Pt.sm; omega)) ?_
            rintro v h' ⟨rfl, rfl⟩ hcaps
            refine rH51mJ0 ?_
            repeat' (first | (fail_if_success (with_reducible refine xstp ?_)); first | ((with_reducible refine And.intro (fun (hb : _ = true) => ?_) (fun (hb : _ = false) => ?_)) <;> replace hb := xnC hb <;> (try first | exact xfC | exact bff hb (by assumption) | exact bff (by assumption) hb)) | (with_reducible refine Both.mk ?_ ?_) | ((with_reducible refine And.intro ?_ ?_); focus exact xoC) | ((with_reducible refine Or.inl ⟨?_, ?_, ?_⟩); (focus rfl); focus exact xaC) | ((with_reducible refine xwB ?_ ?_); focus exact xaC) | ((with_reducible refine xwC ?_ ?_); focus exact xaC) | ((with_reducible refine xwD ?_ ?_); focus exact xaC) | ((with_reducible refine xwE ?_ ?_); focus exact xaC) | (with_reducible intro hc; (try simp only [capsP, and_true] at hc); (try exact xfC)) | ((fail_if_success (with_reducible first | refine xgon ?_ | intro _)); (conv => whnf); (fail_if_success (fail_if_success (with_reducible first | refine xstp ?_ | refine Both.mk ?_ ?_ | refine xgon ?_ | intro _)))))
            refine ⟨⟨(t + 1, ⟨m.p.add u, u⟩, s3), by simp only; omega, MOk.next hl hm hg1, hs3, l3⟩, [0, 1, 2, 3, 4, 5, 6], by simp only; omega, ?_⟩
            (repeat' first | refine And.intro ?_ ?_ | exact xeC | fail)
          · have hln : ln m.v = w := ln_of (by unfold Pt.sm; omega) hw1 (by push_cast; omega)
            have hmm : 0 ≤ ((w : Int) - s.l.br) * ((w : Int) - s.l.br) ∧ ((w : Int) - s.l.br) * ((w : Int) - s.l.br) ≤ 17592186044416 := sq_le (by omega)
            have hq : sqI u ≤ ((w : Int) - s.l.br) * ((w : Int) - s.l.br) := by
              rw [hln, show max 0 ((w : Int) - s.l.br) = (w : Int) - s.l.br by omega] at hg3
              exact hg3
            refine xcal (σ := []) (nl := []) (csquareL u (by unfold Pt.sm; omega)) ?_
            rintro v h' ⟨rfl, rfl⟩ hcaps
            refine rH51mJ0 ?_
            repeat' (first | (fail_if_success (with_reducible refine xstp ?_)); first | ((with_reducible refine And.intro (fun (hb : _ = true) => ?_) (fun (hb : _ = false) => ?_)) <;> replace hb := xnC hb <;> (try first | exact xfC | exact bff hb (by assumption) | exact bff (by assumption) hb)) | (with_reducible refine Both.mk ?_ ?_) | ((with_reducible refine And.intro ?_ ?_); focus exact xoC) | ((with_reducible refine Or.inl ⟨?_, ?_, ?_⟩); (focus rfl); focus exact xaC) | ((with_reducible refine xwB ?_ ?_); focus exact xaC) | ((with_reducible refine xwC ?_ ?_); focus exact xaC) | ((with_reducible refine xwD ?_ ?_); focus exact xaC) | ((with_reducible refine xwE ?_ ?_); focus exact xaC) | (with_reducible intro hc; (try simp only [capsP, and_true] at hc); (try exact xfC)) | ((fail_if_success (with_reducible first | refine xgon ?_ | intro _)); (conv => whnf); (fail_if_success (fail_if_success (with_reducible first | refine xstp ?_ | refine Both.mk ?_ ?_ | refine xgon ?_ | intro _)))))
            refine ⟨⟨(t + 1, ⟨m.p.add u, u⟩, s3), by simp only; omega, MOk.next hl hm hg1, hs3, l3⟩, [0, 1, 2, 3, 4, 5, 6], by simp only; omega, ?_⟩
            (repeat' first | refine And.intro ?_ ?_ | exact xeC | fail)
        · skip
          refine ⟨⟨(t + 1, ⟨m.p.add u, u⟩, s3), by simp only; omega, MOk.next hl hm hg1, hs3, l3⟩, [0, 1, 2, 3, 4, 5, 6], by simp only; omega, ?_⟩
          (repeat' first | refine And.intro ?_ ?_ | exact xeC | fail)
        skip)
    · skip
      refine xcal (σ := []) (nl := []) (cawake) ?_
      rintro v h' ⟨rfl, rfl⟩ hcaps
      refine rH51mJ0 ?_
      repeat' (first | (fail_if_success (with_reducible refine xstp ?_)); first | ((with_reducible refine And.intro (fun (hb : _ = true) => ?_) (fun (hb : _ = false) => ?_)) <;> replace hb := xnC hb <;> (try first | exact xfC | exact bff hb (by assumption) | exact bff (by assumption) hb)) | (with_reducible refine Both.mk ?_ ?_) | ((with_reducible refine And.intro ?_ ?_); focus exact xoC) | ((with_reducible refine Or.inl ⟨?_, ?_, ?_⟩); (focus rfl); focus exact xaC) | ((with_reducible refine xwB ?_ ?_); focus exact xaC) | ((with_reducible refine xwC ?_ ?_); focus exact xaC) | ((with_reducible refine xwD ?_ ?_); focus exact xaC) | ((with_reducible refine xwE ?_ ?_); focus exact xaC) | (with_reducible intro hc; (try simp only [capsP, and_true] at hc); (try exact xfC)) | ((fail_if_success (with_reducible first | refine xgon ?_ | intro _)); (conv => whnf); (fail_if_success (fail_if_success (with_reducible first | refine xstp ?_ | refine Both.mk ?_ ?_ | refine xgon ?_ | intro _)))))
      refine FinK.mk ⟨[0, 1], _, [.one .no, .one .no], rfl, ?_⟩
      (repeat' first | refine And.intro ?_ ?_ | exact xeC | fail)
  · refine xcal (σ := []) (nl := []) (cNewSn l 30 (fun h => hl h.1)) ?_
    rintro v h' ⟨rfl, rfl⟩ hcaps
    refine rH51mJ0 ?_
    repeat' (first | (fail_if_success (with_reducible refine xstp ?_)); first | ((with_reducible refine And.intro (fun (hb : _ = true) => ?_) (fun (hb : _ = false) => ?_)) <;> replace hb := xnC hb <;> (try first | exact xfC | exact bff hb (by assumption) | exact bff (by assumption) hb)) | (with_reducible refine Both.mk ?_ ?_) | ((with_reducible refine And.intro ?_ ?_); focus exact xoC) | ((with_reducible refine Or.inl ⟨?_, ?_, ?_⟩); (focus rfl); focus exact xaC) | ((with_reducible refine xwB ?_ ?_); focus exact xaC) | ((with_reducible refine xwC ?_ ?_); focus exact xaC) | ((with_reducible refine xwD ?_ ?_); focus exact xaC) | ((with_reducible refine xwE ?_ ?_); focus exact xaC) | (with_reducible intro hc; (try simp only [capsP, and_true] at hc); (try exact xfC)) | ((fail_if_success (with_reducible first | refine xgon ?_ | intro _)); (conv => whnf); (fail_if_success (fail_if_success (with_reducible first | refine xstp ?_ | refine Both.mk ?_ ?_ | refine xgon ?_ | intro _)))))
    refine xcal (σ := []) (nl := []) (cawake) ?_
    rintro v h' ⟨rfl, rfl⟩ hcaps
    refine rH51mJ0 ?_
    repeat' (first | (fail_if_success (with_reducible refine xstp ?_)); first | ((with_reducible refine And.intro (fun (hb : _ = true) => ?_) (fun (hb : _ = false) => ?_)) <;> replace hb := xnC hb <;> (try first | exact xfC | exact bff hb (by assumption) | exact bff (by assumption) hb)) | (with_reducible refine Both.mk ?_ ?_) | ((with_reducible refine And.intro ?_ ?_); focus exact xoC) | ((with_reducible refine Or.inl ⟨?_, ?_, ?_⟩); (focus rfl); focus exact xaC) | ((with_reducible refine xwB ?_ ?_); focus exact xaC) | ((with_reducible refine xwC ?_ ?_); focus exact xaC) | ((with_reducible refine xwD ?_ ?_); focus exact xaC) | ((with_reducible refine xwE ?_ ?_); focus exact xaC) | (with_reducible intro hc; (try simp only [capsP, and_true] at hc); (try exact xfC)) | ((fail_if_success (with_reducible first | refine xgon ?_ | intro _)); (conv => whnf); (fail_if_success (fail_if_success (with_reducible first | refine xstp ?_ | refine Both.mk ?_ ?_ | refine xgon ?_ | intro _)))))
    refine FinK.mk ⟨[0, 1], _, [.one .no, .one .no], rfl, ?_⟩
    (repeat' first | refine And.intro ?_ ?_ | exact xeC | fail)
end Go.Proofs.Yteifgkldagnodaa

namespace Go.Proofs.Yteifgkldagnodaa
open Go.X Go.RowKit
set_option linter.unusedVariables false
theorem nil_read (β : Nm) (W : World) : Fits β [] W ∧ ∀ f x, (Go.X.get [] f x).owned = false := by
  have h : ∀ f x, Go.X.get [] f x = .no := fun f x => by simp [Go.X.get]
  have hno : ∀ f x, (Go.X.get [] f x).owned = false := fun f x => by rw [h]; rfl
  exact ⟨fits_read (fun f x => by rw [h]; trivial) hno, hno⟩
theorem two_read {β : Nm} {W : World} {ck ck' : Ck} (h : ck.holds β W (β 0 0)) (ho : ck.owned = false) (h' : ck'.holds β W (β 1 0)) (ho' : ck'.owned = false) : Fits β [.one ck, .one ck'] W ∧ ∀ f x, (Go.X.get [.one ck, .one ck'] f x).owned = false := by
  have hno := get_ones_own (h := [ck, ck']) (by
    intro q hq
    rcases List.mem_cons.1 hq with rfl | hq
    · exact ho
    · rw [List.mem_singleton.1 hq]; exact ho')
  exact ⟨fits_read (get_ones (h := [ck, ck']) (fun f q hf => by
    match f, hf with
    | 0, hf => cases hf; exact h
    | 1, hf => cases hf; exact h'
    | f + 2, hf => simp at hf)) hno, hno⟩
abbrev kPt : List K := [.i .i64, .i .i64]
abbrev kLm : List K := [.i .i64, .i .i64, .i .i64, .i .i64, .i .i64]
abbrev kQt : List K := [.i .u16, .i .u16, .b, .i .i64, .i .i64]
theorem ft_Pt {l : List C} (h : FT kPt l) : ∃ x : Pt, l = encPt x ∧ True := by
  obtain ⟨a, _, rfl, _, h1⟩ := FT_i h
  obtain ⟨b, _, rfl, _, h2⟩ := FT_i h1
  obtain rfl := FT_nil h2
  exact ⟨⟨a, b⟩, rfl, trivial⟩
theorem ft_Lm {l : List C} (h : FT kLm l) : ∃ x : Lm, l = encL x := by
  obtain ⟨a, _, rfl, _, h1⟩ := FT_i h
  obtain ⟨b, _, rfl, _, h2⟩ := FT_i h1
  obtain ⟨c, _, rfl, _, h3⟩ := FT_i h2
  obtain ⟨d, _, rfl, _, h4⟩ := FT_i h3
  obtain ⟨e, _, rfl, _, h5⟩ := FT_i h4
  obtain rfl := FT_nil h5
  exact ⟨⟨a, b, c, d, e⟩, rfl⟩
theorem walk_SupervisorNil (W : World) (a0 : Int) (w0 : (Lit.int .i64 a0).wf = true) (a1 : Int) (w1 : (Lit.int .i64 a1).wf = true) (c2 : Array Value) (k2 : VKs W kPt c2.toList) :
    Calls Try.prog 5 #[.int .i64 a0, .int .i64 a1, .agg c2] W fun e W' => e = .returned (.bool true) ∧ Below W.heap.size W W' := by
  obtain ⟨l0, f0, r0, _, _⟩ := flat_view (by rfl) k2
  obtain ⟨p, rfl, _⟩ := ft_Pt f0
  obtain ⟨hf, hno⟩ := nil_read (fun _ _ => (0, 0, .nil)) W
  have := glue (cnil a0 a1 p.x p.y) hf hno
  have e0 : renL (fun _ _ => (0, 0, .nil)) [.i .i64 p.x, .i .i64 p.y] = c2 := by
    apply Array.toList_inj.1
    rw [← r0 (fun _ _ => (0, 0, .nil))]; rfl
  simp only [List.map_cons, List.map_nil, T.ren, e0] at this
  exact this
theorem walk_SupervisorSilent (W : World) (c0 : Array Value) (k0 : VKs W kLm c0.toList) (c1 : Array Value) (k1 : VKs W kQt c1.toList) :
    Calls Try.prog 4 #[.agg c0, .agg c1] W fun e W' => e = .returned (.bool true) ∧ Below W.heap.size W W' := by
  obtain ⟨l0, f0, r0, _, _⟩ := flat_view (by rfl) k0
  obtain ⟨l, rfl⟩ := ft_Lm f0
  obtain ⟨l1, f1, r1, _, _⟩ := flat_view (by rfl) k1
  obtain ⟨a, _, rfl, ha, h1⟩ := FT_i f1
  obtain ⟨b, _, rfl, hb, h2⟩ := FT_i h1
  obtain ⟨c, _, rfl, h3⟩ := FT_b h2
  obtain ⟨d, _, rfl, _, h4⟩ := FT_i h3
  obtain ⟨e, _, rfl, _, h5⟩ := FT_i h4
  obtain rfl := FT_nil h5
  obtain ⟨hf, hno⟩ := nil_read (fun _ _ => (0, 0, .nil)) W
  have := glue (csilent l a b c d e ha hb) hf hno
  have e0 : renL (fun _ _ => (0, 0, .nil)) (encL l) = c0 := by
    apply Array.toList_inj.1
    rw [← r0 (fun _ _ => (0, 0, .nil))]; rfl
  have e1 : renL (fun _ _ => (0, 0, .nil)) [.i .u16 a, .i .u16 b, .b c, .i .i64 d, .i .i64 e] = c1 := by
    apply Array.toList_inj.1
    rw [← r1 (fun _ _ => (0, 0, .nil))]; rfl
  simp only [List.map_cons, List.map_nil, T.ren, e0, e1] at this
  exact this
theorem walk_SupervisorLimits (W : World) (c0 : Array Value) (k0 : VKs W kLm c0.toList) (v1 : Value) (k1 : VK W (.sl kPt) v1) (e1 : ∀ a n c, v1 = .slice (some a) n c → a.spot = none) (v2 : Value) (k2 : VK W (.sl kPt) v2) (e2 : ∀ a n c, v2 = .slice (some a) n c → a.spot = none) :
    Calls Try.prog 3 #[.agg c0, v1, v2] W fun e W' => e = .returned (.bool true) ∧ Below W.heap.size W W' := by
  obtain ⟨l0, f0, r0, _, _⟩ := flat_view (by rfl) k0
  obtain ⟨l, rfl⟩ := ft_Lm f0
  obtain ⟨A1, n1, q1, g1, hv1, hh1, hn1, _, _, hg1⟩ := row_view (by rfl) k1 e1
  obtain ⟨P, hl1, hge1, _⟩ := list_of encPt (Pr := fun _ => True) (fun i hi => ft_Pt (hg1 i hi))
  obtain ⟨A2, n2, q2, g2, hv2, hh2, hn2, _, _, hg2⟩ := row_view (by rfl) k2 e2
  obtain ⟨R, hl2, hge2, _⟩ := list_of encPt (Pr := fun _ => True) (fun i hi => ft_Pt (hg2 i hi))
  subst hl1
  subst hl2
  obtain ⟨hf, hno⟩ := two_read (β := nmL [A1, A2]) (W := W) (ck := ptR P q1) (ck' := ptR R q2) (holds_row_congr (hh1 _ _) hge1) rfl (holds_row_congr (hh2 _ _) hge2) rfl
  have hv1' : C.ren (nmL [A1, A2]) (C.sl 0 0 2 0 P.length q1) = v1 := hv1 (nmL [A1, A2]) 0 0 rfl
  have hv2' : C.ren (nmL [A1, A2]) (C.sl 1 0 2 0 R.length q2) = v2 := hv2 (nmL [A1, A2]) 1 0 rfl
  have := glue (climits l P R q1 q2 (by unfold maxLen at hn1; omega) (by unfold maxLen at hn2; omega)) hf hno
  have e0 : renL (nmL [A1, A2]) (encL l) = c0 := by
    apply Array.toList_inj.1
    rw [← r0 (nmL [A1, A2])]; rfl
  simp only [List.map_cons, List.map_nil, T.ren, hv1', hv2', e0] at this
  exact this
end Go.Proofs.Yteifgkldagnodaa
