/- Part 6 of the texts that a walk of this program rests on: an abstract machine, its soundness, contracts of functions. No statement of the seat is proved in this file. -/
import Derived.Test.YtgaodeffbgppmaaZ5
namespace Go.Proofs.Ytgaodeffbgppmaa
open Go.X
set_option linter.unusedSimpArgs false
set_option linter.unusedVariables false
open P4
open P5
def frmL (f : Fg) : List UInt8 := venc f.id.toNat ++ (venc f.ix.toNat ++ (venc f.ct.toNat ++ textL f.d))
def frameL (f : Fg) : List UInt8 := if okF f then sealL (frmL f) else []
def fg0 : Fg := ⟨0, 0, 0, []⟩
def unfF (s : ByteArray) : Fg × Nat × Nat :=
  let a := rdS s 0 0 1099511627776
  let b := rdS s a.2.1 a.2.2 64
  let c := rdS s b.2.1 b.2.2 64
  let d := rdT s c.2.1 c.2.2 4000
  (⟨a.1, b.1, c.1, d.1⟩, d.2)
def unfS (s : ByteArray) : Fg × Nat :=
  if endV s (unfF s).2.1 (unfF s).2.2 ≠ 0 then (fg0, endV s (unfF s).2.1 (unfF s).2.2) else if ¬ okF (unfF s).1 then (fg0, 4) else ((unfF s).1, 0)
def unf (l : List UInt8) : Fg × Nat := if (openL l).2 ≠ 0 then (fg0, (openL l).2) else unfS (mkS (openL l).1)
theorem unfS_of {s : ByteArray} {x : Fg} {a e : Nat} (h : unfF s = (x, a, e)) : unfS s = if endV s a e ≠ 0 then (fg0, endV s a e) else if ¬ okF x then (fg0, 4) else (x, 0) := by
  unfold unfS; rw [h]
theorem openL_le (l : List UInt8) : (openL l).1.length ≤ l.length := by
  unfold openL
  repeat' split
  all_goals simp

set_option maxRecDepth 10000 in
theorem cvalidR (f : Fg) (hd : f.d.length ≤ 1000000) :
    Ctr Try.prog 29 [.a (encG f)] [] fun v h => v = .c (.b (decide (okF f))) ∧ h = [] := by
  have hz : (mkS f.d).size = f.d.length := rfl
  refine Ctr.mk' tbv mixed Try.func29 rfl rfl rfl (fun _ _ => by kernel_rfl) (by kernel_rfl) (by rfl) (by rfl) (by (repeat' first | refine And.intro ?_ ?_ | exact xeC | fail)) ?_
  repeat' (first | (fail_if_success (with_reducible refine xstp ?_)); first | ((with_reducible refine And.intro (fun (hb : _ = true) => ?_) (fun (hb : _ = false) => ?_)) <;> replace hb := xnC hb <;> (try first | exact xfC | exact bff hb (by assumption) | exact bff (by assumption) hb)) | (with_reducible refine Both.mk ?_ ?_) | ((with_reducible refine And.intro ?_ ?_); focus exact xoC) | ((with_reducible refine Or.inl ⟨?_, ?_, ?_⟩); (focus rfl); focus exact xaC) | ((with_reducible refine xwB ?_ ?_); focus exact xaC) | ((with_reducible refine xwC ?_ ?_); focus exact xaC) | ((with_reducible refine xwD ?_ ?_); focus exact xaC) | ((with_reducible refine xwE ?_ ?_); focus exact xaC) | (with_reducible intro hc; (try simp only [capsP, and_true] at hc); (try exact xfC)) | ((fail_if_success (with_reducible first | refine xgon ?_ | intro _)); (conv => whnf); (fail_if_success (fail_if_success (with_reducible first | refine xstp ?_ | refine Both.mk ?_ ?_ | refine xgon ?_ | intro _)))))
  all_goals (
    refine FinK.mk ⟨[], _, _, ⟨rfl, rfl⟩, ?_⟩; (repeat' first | refine And.intro ?_ ?_ | exact xeC | fail)
    all_goals (first | exact decide_eq_true (by unfold okF; omega) | exact decide_eq_false (by unfold okF; omega) | exact (decide_eq_true (by unfold okF; omega)).symm | exact (decide_eq_false (by unfold okF; omega)).symm | exact decide_eq_decide.2 (by unfold okF; omega)))

theorem rH15rA0 {σ : List Sg} {H h' : List Fam} {v : T} {K : T → List Fam → Prop} {H' : List Fam} {v' : T} {N : Nat} (hk : K v' H') (hN : H.length = N := by (try simp only [↓List.length_cons, ↓List.length_nil, Nat.reduceAdd]) <;> rfl) (h : givesF σ N H σ h' = some H' := by (try simp (maxSteps := 1000000) only [givesF, setF, updF, Fam.zeroth, Fam.rk, Ck.rk, C.rk, E.rk, T.rk, key, List.map_cons, List.map_nil, List.cons_append, List.nil_append, List.length_cons, List.length_nil, Option.map_some, Option.bind_some, Nat.reduceAdd, Nat.zero_add, Nat.add_zero, Nat.add_sub_cancel_left, Int.toNat_natCast, reps, List.all_cons, List.all_nil, C.flat, List.append_eq, Bool.not_true, Bool.and_true, Bool.or_false, Bool.or_self, Bool.not_false, List.append_nil, Bool.and_self, encG]) <;> rfl) (hv : v.rk σ N = v' := by (try simp only [givesF, setF, updF, Fam.zeroth, Fam.rk, Ck.rk, C.rk, E.rk, T.rk, key, List.map_cons, List.map_nil, List.cons_append, List.nil_append, List.length_cons, List.length_nil, Option.map_some, Option.bind_some, Nat.reduceAdd, Nat.zero_add, Nat.add_zero, Nat.add_sub_cancel_left, Int.toNat_natCast, reps, List.all_cons, List.all_nil, C.flat, List.append_eq, Bool.not_true, Bool.and_true, Bool.or_false, Bool.or_self, Bool.not_false, List.append_nil, Bool.and_self, encG]) <;> rfl) : RetG σ H h' v K := ret_mk3 hN h hv hk
set_option maxRecDepth 10000 in
theorem cFrame (f : Fg) (hd : f.d.length ≤ 1000000) :
    Ctr Try.prog 27 [.a (encG f)] [] fun v h => v = .c (.s (mkS (frameL f))) ∧ h = [] := by
  refine Ctr.mk' tbv mixed Try.func27 rfl rfl rfl (fun _ _ => by kernel_rfl) (by kernel_rfl) (by rfl) (by rfl) (by (repeat' first | refine And.intro ?_ ?_ | exact xeC | fail)) ?_
  repeat' (first | (fail_if_success (with_reducible refine xstp ?_)); first | ((with_reducible refine And.intro (fun (hb : _ = true) => ?_) (fun (hb : _ = false) => ?_)) <;> replace hb := xnC hb <;> (try first | exact xfC | exact bff hb (by assumption) | exact bff (by assumption) hb)) | (with_reducible refine Both.mk ?_ ?_) | ((with_reducible refine And.intro ?_ ?_); focus exact xoC) | ((with_reducible refine Or.inl ⟨?_, ?_, ?_⟩); (focus rfl); focus exact xaC) | ((with_reducible refine xwB ?_ ?_); focus exact xaC) | ((with_reducible refine xwC ?_ ?_); focus exact xaC) | ((with_reducible refine xwD ?_ ?_); focus exact xaC) | ((with_reducible refine xwE ?_ ?_); focus exact xaC) | (with_reducible intro hc; (try simp only [capsP, and_true] at hc); (try exact xfC)) | ((fail_if_success (with_reducible first | refine xgon ?_ | intro _)); (conv => whnf); (fail_if_success (fail_if_success (with_reducible first | refine xstp ?_ | refine Both.mk ?_ ?_ | refine xgon ?_ | intro _)))))
  refine xcal (σ := []) (nl := []) (cvalid f) ?_
  rintro v h' ⟨rfl, rfl⟩ hcaps
  refine rH15rA0 ?_
  repeat' (first | (fail_if_success (with_reducible refine xstp ?_)); first | ((with_reducible refine And.intro (fun (hb : _ = true) => ?_) (fun (hb : _ = false) => ?_)) <;> replace hb := xnC hb <;> (try first | exact xfC | exact bff hb (by assumption) | exact bff (by assumption) hb)) | (with_reducible refine Both.mk ?_ ?_) | ((with_reducible refine And.intro ?_ ?_); focus exact xoC) | ((with_reducible refine Or.inl ⟨?_, ?_, ?_⟩); (focus rfl); focus exact xaC) | ((with_reducible refine xwB ?_ ?_); focus exact xaC) | ((with_reducible refine xwC ?_ ?_); focus exact xaC) | ((with_reducible refine xwD ?_ ?_); focus exact xaC) | ((with_reducible refine xwE ?_ ?_); focus exact xaC) | (with_reducible intro hc; (try simp only [capsP, and_true] at hc); (try exact xfC)) | ((fail_if_success (with_reducible first | refine xgon ?_ | intro _)); (conv => whnf); (fail_if_success (fail_if_success (with_reducible first | refine xstp ?_ | refine Both.mk ?_ ?_ | refine xgon ?_ | intro _)))))
  · rw [show frameL f = [] from if_neg hb]
    refine FinK.mk ⟨[], _, _, ⟨rfl, rfl⟩, ?_⟩; (repeat' first | refine And.intro ?_ ?_ | exact xeC | fail)
  have hok := hb
  unfold okF at hok
  have h1 := venc_le f.id.toNat
  have h2 := venc_le f.ix.toNat
  have h3 := venc_le f.ct.toNat
  have h4 := venc_le f.d.length
  have z1 : (mkS (venc f.id.toNat)).size = (venc f.id.toNat).length := rfl
  have z2 : (mkS (venc f.ix.toNat)).size = (venc f.ix.toNat).length := rfl
  have z3 : (mkS (venc f.ct.toNat)).size = (venc f.ct.toNat).length := rfl
  have z4 : (mkS (textL f.d)).size = (venc f.d.length).length + f.d.length := by rw [mkS_size, textL, List.length_append]
  have z12 : (mkS (venc f.id.toNat) ++ mkS (venc f.ix.toNat)).size = (venc f.id.toNat).length + (venc f.ix.toNat).length := by rw [mkS_append, mkS_size, List.length_append]
  have z123 : (mkS (venc f.id.toNat) ++ mkS (venc f.ix.toNat) ++ mkS (venc f.ct.toNat)).size = (venc f.id.toNat).length + (venc f.ix.toNat).length + (venc f.ct.toNat).length := by rw [mkS_append, mkS_append, mkS_size, List.length_append, List.length_append]
  rw [u64nn (by omega) (by omega)]
  refine xcal (σ := []) (nl := []) (cUint (f.id).toNat (by omega)) ?_
  rintro v h' ⟨rfl, rfl⟩ hcaps
  refine rH15rA0 ?_
  repeat' (first | (fail_if_success (with_reducible refine xstp ?_)); first | ((with_reducible refine And.intro (fun (hb : _ = true) => ?_) (fun (hb : _ = false) => ?_)) <;> replace hb := xnC hb <;> (try first | exact xfC | exact bff hb (by assumption) | exact bff (by assumption) hb)) | (with_reducible refine Both.mk ?_ ?_) | ((with_reducible refine And.intro ?_ ?_); focus exact xoC) | ((with_reducible refine Or.inl ⟨?_, ?_, ?_⟩); (focus rfl); focus exact xaC) | ((with_reducible refine xwB ?_ ?_); focus exact xaC) | ((with_reducible refine xwC ?_ ?_); focus exact xaC) | ((with_reducible refine xwD ?_ ?_); focus exact xaC) | ((with_reducible refine xwE ?_ ?_); focus exact xaC) | (with_reducible intro hc; (try simp only [capsP, and_true] at hc); (try exact xfC)) | ((fail_if_success (with_reducible first | refine xgon ?_ | intro _)); (conv => whnf); (fail_if_success (fail_if_success (with_reducible first | refine xstp ?_ | refine Both.mk ?_ ?_ | refine xgon ?_ | intro _)))))
  rw [u64nn (by omega) (by omega)]
  refine xcal (σ := []) (nl := []) (cUint (f.ix).toNat (by omega)) ?_
  rintro v h' ⟨rfl, rfl⟩ hcaps
  refine rH15rA0 ?_
  repeat' (first | (fail_if_success (with_reducible refine xstp ?_)); first | ((with_reducible refine And.intro (fun (hb : _ = true) => ?_) (fun (hb : _ = false) => ?_)) <;> replace hb := xnC hb <;> (try first | exact xfC | exact bff hb (by assumption) | exact bff (by assumption) hb)) | (with_reducible refine Both.mk ?_ ?_) | ((with_reducible refine And.intro ?_ ?_); focus exact xoC) | ((with_reducible refine Or.inl ⟨?_, ?_, ?_⟩); (focus rfl); focus exact xaC) | ((with_reducible refine xwB ?_ ?_); focus exact xaC) | ((with_reducible refine xwC ?_ ?_); focus exact xaC) | ((with_reducible refine xwD ?_ ?_); focus exact xaC) | ((with_reducible refine xwE ?_ ?_); focus exact xaC) | (with_reducible intro hc; (try simp only [capsP, and_true] at hc); (try exact xfC)) | ((fail_if_success (with_reducible first | refine xgon ?_ | intro _)); (conv => whnf); (fail_if_success (fail_if_success (with_reducible first | refine xstp ?_ | refine Both.mk ?_ ?_ | refine xgon ?_ | intro _)))))
  rw [u64nn (by omega) (by omega)]
  refine xcal (σ := []) (nl := []) (cUint (f.ct).toNat (by omega)) ?_
  rintro v h' ⟨rfl, rfl⟩ hcaps
  refine rH15rA0 ?_
  repeat' (first | (fail_if_success (with_reducible refine xstp ?_)); first | ((with_reducible refine And.intro (fun (hb : _ = true) => ?_) (fun (hb : _ = false) => ?_)) <;> replace hb := xnC hb <;> (try first | exact xfC | exact bff hb (by assumption) | exact bff (by assumption) hb)) | (with_reducible refine Both.mk ?_ ?_) | ((with_reducible refine And.intro ?_ ?_); focus exact xoC) | ((with_reducible refine Or.inl ⟨?_, ?_, ?_⟩); (focus rfl); focus exact xaC) | ((with_reducible refine xwB ?_ ?_); focus exact xaC) | ((with_reducible refine xwC ?_ ?_); focus exact xaC) | ((with_reducible refine xwD ?_ ?_); focus exact xaC) | ((with_reducible refine xwE ?_ ?_); focus exact xaC) | (with_reducible intro hc; (try simp only [capsP, and_true] at hc); (try exact xfC)) | ((fail_if_success (with_reducible first | refine xgon ?_ | intro _)); (conv => whnf); (fail_if_success (fail_if_success (with_reducible first | refine xstp ?_ | refine Both.mk ?_ ?_ | refine xgon ?_ | intro _)))))
  refine xcal (σ := []) (nl := []) (cText f.d (by omega)) ?_
  rintro v h' ⟨rfl, rfl⟩ hcaps
  refine rH15rA0 ?_
  repeat' (first | (fail_if_success (with_reducible refine xstp ?_)); first | ((with_reducible refine And.intro (fun (hb : _ = true) => ?_) (fun (hb : _ = false) => ?_)) <;> replace hb := xnC hb <;> (try first | exact xfC | exact bff hb (by assumption) | exact bff (by assumption) hb)) | (with_reducible refine Both.mk ?_ ?_) | ((with_reducible refine And.intro ?_ ?_); focus exact xoC) | ((with_reducible refine Or.inl ⟨?_, ?_, ?_⟩); (focus rfl); focus exact xaC) | ((with_reducible refine xwB ?_ ?_); focus exact xaC) | ((with_reducible refine xwC ?_ ?_); focus exact xaC) | ((with_reducible refine xwD ?_ ?_); focus exact xaC) | ((with_reducible refine xwE ?_ ?_); focus exact xaC) | (with_reducible intro hc; (try simp only [capsP, and_true] at hc); (try exact xfC)) | ((fail_if_success (with_reducible first | refine xgon ?_ | intro _)); (conv => whnf); (fail_if_success (fail_if_success (with_reducible first | refine xstp ?_ | refine Both.mk ?_ ?_ | refine xgon ?_ | intro _)))))
  rw [mkS_append, mkS_append, mkS_append]
  have z5 : (mkS (venc f.id.toNat ++ venc f.ix.toNat ++ venc f.ct.toNat ++ textL f.d)).size ≤ 1000100 := by
    rw [mkS_size, textL]; simp only [List.length_append]; omega
  refine xcal (σ := []) (nl := []) (cSeal (mkS (venc f.id.toNat ++ venc f.ix.toNat ++ venc f.ct.toNat ++ textL f.d)) (by omega)) ?_
  rintro v h' ⟨rfl, rfl⟩ hcaps
  refine rH15rA0 ?_
  repeat' (first | (fail_if_success (with_reducible refine xstp ?_)); first | ((with_reducible refine And.intro (fun (hb : _ = true) => ?_) (fun (hb : _ = false) => ?_)) <;> replace hb := xnC hb <;> (try first | exact xfC | exact bff hb (by assumption) | exact bff (by assumption) hb)) | (with_reducible refine Both.mk ?_ ?_) | ((with_reducible refine And.intro ?_ ?_); focus exact xoC) | ((with_reducible refine Or.inl ⟨?_, ?_, ?_⟩); (focus rfl); focus exact xaC) | ((with_reducible refine xwB ?_ ?_); focus exact xaC) | ((with_reducible refine xwC ?_ ?_); focus exact xaC) | ((with_reducible refine xwD ?_ ?_); focus exact xaC) | ((with_reducible refine xwE ?_ ?_); focus exact xaC) | (with_reducible intro hc; (try simp only [capsP, and_true] at hc); (try exact xfC)) | ((fail_if_success (with_reducible first | refine xgon ?_ | intro _)); (conv => whnf); (fail_if_success (fail_if_success (with_reducible first | refine xstp ?_ | refine Both.mk ?_ ?_ | refine xgon ?_ | intro _)))))
  rw [mkS_list, show frameL f = sealL (venc f.id.toNat ++ venc f.ix.toNat ++ venc f.ct.toNat ++ textL f.d) by rw [frameL, if_pos hb, frmL]; simp only [List.append_assoc]]
  refine FinK.mk ⟨[], _, _, ⟨rfl, rfl⟩, ?_⟩; (repeat' first | refine And.intro ?_ ?_ | exact xeC | fail)

set_option maxRecDepth 10000 in
theorem cFrameR (f : Fg) (hd : f.d.length ≤ 1000000) :
    Ctr Try.prog 28 [.a (encG f)] [] fun v h => v = .c (.s (mkS (frameL f))) ∧ h = [] := by
  refine Ctr.mk' tbv mixed Try.func28 rfl rfl rfl (fun _ _ => by kernel_rfl) (by kernel_rfl) (by rfl) (by rfl) (by (repeat' first | refine And.intro ?_ ?_ | exact xeC | fail)) ?_
  repeat' (first | (fail_if_success (with_reducible refine xstp ?_)); first | ((with_reducible refine And.intro (fun (hb : _ = true) => ?_) (fun (hb : _ = false) => ?_)) <;> replace hb := xnC hb <;> (try first | exact xfC | exact bff hb (by assumption) | exact bff (by assumption) hb)) | (with_reducible refine Both.mk ?_ ?_) | ((with_reducible refine And.intro ?_ ?_); focus exact xoC) | ((with_reducible refine Or.inl ⟨?_, ?_, ?_⟩); (focus rfl); focus exact xaC) | ((with_reducible refine xwB ?_ ?_); focus exact xaC) | ((with_reducible refine xwC ?_ ?_); focus exact xaC) | ((with_reducible refine xwD ?_ ?_); focus exact xaC) | ((with_reducible refine xwE ?_ ?_); focus exact xaC) | (with_reducible intro hc; (try simp only [capsP, and_true] at hc); (try exact xfC)) | ((fail_if_success (with_reducible first | refine xgon ?_ | intro _)); (conv => whnf); (fail_if_success (fail_if_success (with_reducible first | refine xstp ?_ | refine Both.mk ?_ ?_ | refine xgon ?_ | intro _)))))
  refine xcal (σ := []) (nl := []) (cvalidR f hd) ?_
  rintro v h' ⟨rfl, rfl⟩ hcaps
  refine rH15rA0 ?_
  repeat' (first | (fail_if_success (with_reducible refine xstp ?_)); first | ((with_reducible refine And.intro (fun (hb : _ = true) => ?_) (fun (hb : _ = false) => ?_)) <;> replace hb := xnC hb <;> (try first | exact xfC | exact bff hb (by assumption) | exact bff (by assumption) hb)) | (with_reducible refine Both.mk ?_ ?_) | ((with_reducible refine And.intro ?_ ?_); focus exact xoC) | ((with_reducible refine Or.inl ⟨?_, ?_, ?_⟩); (focus rfl); focus exact xaC) | ((with_reducible refine xwB ?_ ?_); focus exact xaC) | ((with_reducible refine xwC ?_ ?_); focus exact xaC) | ((with_reducible refine xwD ?_ ?_); focus exact xaC) | ((with_reducible refine xwE ?_ ?_); focus exact xaC) | (with_reducible intro hc; (try simp only [capsP, and_true] at hc); (try exact xfC)) | ((fail_if_success (with_reducible first | refine xgon ?_ | intro _)); (conv => whnf); (fail_if_success (fail_if_success (with_reducible first | refine xstp ?_ | refine Both.mk ?_ ?_ | refine xgon ?_ | intro _)))))
  · rw [show frameL f = [] from if_neg hb]
    refine FinK.mk ⟨[], _, _, ⟨rfl, rfl⟩, ?_⟩; (repeat' first | refine And.intro ?_ ?_ | exact xeC | fail)
  have hok := hb
  unfold okF at hok
  have h1 := num_le f.id
  have h2 := num_le f.ix
  have h3 := num_le f.ct
  have h4 := venc_le f.d.length
  have z1 : (mkS (numsL [f.id])).size = (numsL [f.id]).length := rfl
  have z2 : (mkS (numsL [f.ix])).size = (numsL [f.ix]).length := rfl
  have z3 : (mkS (numsL [f.ct])).size = (numsL [f.ct]).length := rfl
  have z4 : (mkS (textL f.d)).size = (venc f.d.length).length + f.d.length := by rw [mkS_size, textL, List.length_append]
  have z12 : (mkS (numsL [f.id]) ++ mkS (numsL [f.ix])).size = (numsL [f.id]).length + (numsL [f.ix]).length := by rw [mkS_append, mkS_size, List.length_append]
  have z123 : (mkS (numsL [f.id]) ++ mkS (numsL [f.ix]) ++ mkS (numsL [f.ct])).size = (numsL [f.id]).length + (numsL [f.ix]).length + (numsL [f.ct]).length := by rw [mkS_append, mkS_append, mkS_size, List.length_append, List.length_append]
  refine xcal (σ := []) (nl := []) (cnumT (f.id) (by omega) (by omega)) ?_
  rintro v h' ⟨rfl, rfl⟩ hcaps
  refine rH15rA0 ?_
  repeat' (first | (fail_if_success (with_reducible refine xstp ?_)); first | ((with_reducible refine And.intro (fun (hb : _ = true) => ?_) (fun (hb : _ = false) => ?_)) <;> replace hb := xnC hb <;> (try first | exact xfC | exact bff hb (by assumption) | exact bff (by assumption) hb)) | (with_reducible refine Both.mk ?_ ?_) | ((with_reducible refine And.intro ?_ ?_); focus exact xoC) | ((with_reducible refine Or.inl ⟨?_, ?_, ?_⟩); (focus rfl); focus exact xaC) | ((with_reducible refine xwB ?_ ?_); focus exact xaC) | ((with_reducible refine xwC ?_ ?_); focus exact xaC) | ((with_reducible refine xwD ?_ ?_); focus exact xaC) | ((with_reducible refine xwE ?_ ?_); focus exact xaC) | (with_reducible intro hc; (try simp only [capsP, and_true] at hc); (try exact xfC)) | ((fail_if_success (with_reducible first | refine xgon ?_ | intro _)); (conv => whnf); (fail_if_success (fail_if_success (with_reducible first | refine xstp ?_ | refine Both.mk ?_ ?_ | refine xgon ?_ | intro _)))))
  refine xcal (σ := []) (nl := []) (cnumT (f.ix) (by omega) (by omega)) ?_
  rintro v h' ⟨rfl, rfl⟩ hcaps
  refine rH15rA0 ?_
  repeat' (first | (fail_if_success (with_reducible refine xstp ?_)); first | ((with_reducible refine And.intro (fun (hb : _ = true) => ?_) (fun (hb : _ = false) => ?_)) <;> replace hb := xnC hb <;> (try first | exact xfC | exact bff hb (by assumption) | exact bff (by assumption) hb)) | (with_reducible refine Both.mk ?_ ?_) | ((with_reducible refine And.intro ?_ ?_); focus exact xoC) | ((with_reducible refine Or.inl ⟨?_, ?_, ?_⟩); (focus rfl); focus exact xaC) | ((with_reducible refine xwB ?_ ?_); focus exact xaC) | ((with_reducible refine xwC ?_ ?_); focus exact xaC) | ((with_reducible refine xwD ?_ ?_); focus exact xaC) | ((with_reducible refine xwE ?_ ?_); focus exact xaC) | (with_reducible intro hc; (try simp only [capsP, and_true] at hc); (try exact xfC)) | ((fail_if_success (with_reducible first | refine xgon ?_ | intro _)); (conv => whnf); (fail_if_success (fail_if_success (with_reducible first | refine xstp ?_ | refine Both.mk ?_ ?_ | refine xgon ?_ | intro _)))))
  refine xcal (σ := []) (nl := []) (cnumT (f.ct) (by omega) (by omega)) ?_
  rintro v h' ⟨rfl, rfl⟩ hcaps
  refine rH15rA0 ?_
  repeat' (first | (fail_if_success (with_reducible refine xstp ?_)); first | ((with_reducible refine And.intro (fun (hb : _ = true) => ?_) (fun (hb : _ = false) => ?_)) <;> replace hb := xnC hb <;> (try first | exact xfC | exact bff hb (by assumption) | exact bff (by assumption) hb)) | (with_reducible refine Both.mk ?_ ?_) | ((with_reducible refine And.intro ?_ ?_); focus exact xoC) | ((with_reducible refine Or.inl ⟨?_, ?_, ?_⟩); (focus rfl); focus exact xaC) | ((with_reducible refine xwB ?_ ?_); focus exact xaC) | ((with_reducible refine xwC ?_ ?_); focus exact xaC) | ((with_reducible refine xwD ?_ ?_); focus exact xaC) | ((with_reducible refine xwE ?_ ?_); focus exact xaC) | (with_reducible intro hc; (try simp only [capsP, and_true] at hc); (try exact xfC)) | ((fail_if_success (with_reducible first | refine xgon ?_ | intro _)); (conv => whnf); (fail_if_success (fail_if_success (with_reducible first | refine xstp ?_ | refine Both.mk ?_ ?_ | refine xgon ?_ | intro _)))))
  refine xcal (σ := []) (nl := []) (cTextR f.d (by omega)) ?_
  rintro v h' ⟨rfl, rfl⟩ hcaps
  refine rH15rA0 ?_
  repeat' (first | (fail_if_success (with_reducible refine xstp ?_)); first | ((with_reducible refine And.intro (fun (hb : _ = true) => ?_) (fun (hb : _ = false) => ?_)) <;> replace hb := xnC hb <;> (try first | exact xfC | exact bff hb (by assumption) | exact bff (by assumption) hb)) | (with_reducible refine Both.mk ?_ ?_) | ((with_reducible refine And.intro ?_ ?_); focus exact xoC) | ((with_reducible refine Or.inl ⟨?_, ?_, ?_⟩); (focus rfl); focus exact xaC) | ((with_reducible refine xwB ?_ ?_); focus exact xaC) | ((with_reducible refine xwC ?_ ?_); focus exact xaC) | ((with_reducible refine xwD ?_ ?_); focus exact xaC) | ((with_reducible refine xwE ?_ ?_); focus exact xaC) | (with_reducible intro hc; (try simp only [capsP, and_true] at hc); (try exact xfC)) | ((fail_if_success (with_reducible first | refine xgon ?_ | intro _)); (conv => whnf); (fail_if_success (fail_if_success (with_reducible first | refine xstp ?_ | refine Both.mk ?_ ?_ | refine xgon ?_ | intro _)))))
  rw [mkS_append, mkS_append, mkS_append]
  have z5 : (mkS (numsL [f.id] ++ numsL [f.ix] ++ numsL [f.ct] ++ textL f.d)).size ≤ 1000100 := by
    rw [mkS_size, textL]; simp only [List.length_append]; omega
  refine xcal (σ := []) (nl := []) (cSealR (mkS (numsL [f.id] ++ numsL [f.ix] ++ numsL [f.ct] ++ textL f.d)) (by omega)) ?_
  rintro v h' ⟨rfl, rfl⟩ hcaps
  refine rH15rA0 ?_
  repeat' (first | (fail_if_success (with_reducible refine xstp ?_)); first | ((with_reducible refine And.intro (fun (hb : _ = true) => ?_) (fun (hb : _ = false) => ?_)) <;> replace hb := xnC hb <;> (try first | exact xfC | exact bff hb (by assumption) | exact bff (by assumption) hb)) | (with_reducible refine Both.mk ?_ ?_) | ((with_reducible refine And.intro ?_ ?_); focus exact xoC) | ((with_reducible refine Or.inl ⟨?_, ?_, ?_⟩); (focus rfl); focus exact xaC) | ((with_reducible refine xwB ?_ ?_); focus exact xaC) | ((with_reducible refine xwC ?_ ?_); focus exact xaC) | ((with_reducible refine xwD ?_ ?_); focus exact xaC) | ((with_reducible refine xwE ?_ ?_); focus exact xaC) | (with_reducible intro hc; (try simp only [capsP, and_true] at hc); (try exact xfC)) | ((fail_if_success (with_reducible first | refine xgon ?_ | intro _)); (conv => whnf); (fail_if_success (fail_if_success (with_reducible first | refine xstp ?_ | refine Both.mk ?_ ?_ | refine xgon ?_ | intro _)))))
  rw [mkS_list, show frameL f = sealL (numsL [f.id] ++ numsL [f.ix] ++ numsL [f.ct] ++ textL f.d) by rw [frameL, if_pos hb, frmL]; simp [numsL]]
  refine FinK.mk ⟨[], _, _, ⟨rfl, rfl⟩, ?_⟩; (repeat' first | refine And.intro ?_ ?_ | exact xeC | fail)

set_option maxRecDepth 10000 in
theorem cUnframe (l : List UInt8) (hl : l.length ≤ 1000000) :
    Ctr Try.prog 25 [.c (.s (mkS l))] [] fun v h => v = .t [.a (encG (unf l).1), .c (.i .i64 ((unf l).2 : Nat))] ∧ h = [] := by
  refine Ctr.mk' tbv mixed Try.func25 rfl rfl rfl (fun _ _ => by kernel_rfl) (by kernel_rfl) (by rfl) (by rfl) (by (repeat' first | refine And.intro ?_ ?_ | exact xeC | fail)) ?_
  repeat' (first | (fail_if_success (with_reducible refine xstp ?_)); first | ((with_reducible refine And.intro (fun (hb : _ = true) => ?_) (fun (hb : _ = false) => ?_)) <;> replace hb := xnC hb <;> (try first | exact xfC | exact bff hb (by assumption) | exact bff (by assumption) hb)) | (with_reducible refine Both.mk ?_ ?_) | ((with_reducible refine And.intro ?_ ?_); focus exact xoC) | ((with_reducible refine Or.inl ⟨?_, ?_, ?_⟩); (focus rfl); focus exact xaC) | ((with_reducible refine xwB ?_ ?_); focus exact xaC) | ((with_reducible refine xwC ?_ ?_); focus exact xaC) | ((with_reducible refine xwD ?_ ?_); focus exact xaC) | ((with_reducible refine xwE ?_ ?_); focus exact xaC) | (with_reducible intro hc; (try simp only [capsP, and_true] at hc); (try exact xfC)) | ((fail_if_success (with_reducible first | refine xgon ?_ | intro _)); (conv => whnf); (fail_if_success (fail_if_success (with_reducible first | refine xstp ?_ | refine Both.mk ?_ ?_ | refine xgon ?_ | intro _)))))
  refine xcal (σ := []) (nl := []) (cOpen l (by omega)) ?_
  rintro v h' ⟨rfl, rfl⟩ hcaps
  refine rH15rA0 ?_
  repeat' (first | (fail_if_success (with_reducible refine xstp ?_)); first | ((with_reducible refine And.intro (fun (hb : _ = true) => ?_) (fun (hb : _ = false) => ?_)) <;> replace hb := xnC hb <;> (try first | exact xfC | exact bff hb (by assumption) | exact bff (by assumption) hb)) | (with_reducible refine Both.mk ?_ ?_) | ((with_reducible refine And.intro ?_ ?_); focus exact xoC) | ((with_reducible refine Or.inl ⟨?_, ?_, ?_⟩); (focus rfl); focus exact xaC) | ((with_reducible refine xwB ?_ ?_); focus exact xaC) | ((with_reducible refine xwC ?_ ?_); focus exact xaC) | ((with_reducible refine xwD ?_ ?_); focus exact xaC) | ((with_reducible refine xwE ?_ ?_); focus exact xaC) | (with_reducible intro hc; (try simp only [capsP, and_true] at hc); (try exact xfC)) | ((fail_if_success (with_reducible first | refine xgon ?_ | intro _)); (conv => whnf); (fail_if_success (fail_if_success (with_reducible first | refine xstp ?_ | refine Both.mk ?_ ?_ | refine xgon ?_ | intro _)))))
  · rw [show unf l = (fg0, (openL l).2) from if_pos (by omega)]
    refine FinK.mk ⟨[], _, _, ⟨rfl, rfl⟩, ?_⟩; (repeat' first | refine And.intro ?_ ?_ | exact xeC | fail)
  have hu : unf l = unfS (mkS (openL l).1) := if_neg (by omega)
  rw [hu]
  have hs6 : (mkS (openL l).1).size ≤ 1000000 := by have := openL_le l; rw [mkS_size]; omega
  generalize mkS (openL l).1 = s at *
  have hs : s.size ≤ 140737488355328 := by omega
  refine xcal (σ := []) (nl := []) (cNew s) ?_
  rintro v h' ⟨rfl, rfl⟩ hcaps
  refine rH15rA0 ?_
  repeat' (first | (fail_if_success (with_reducible refine xstp ?_)); first | ((with_reducible refine And.intro (fun (hb : _ = true) => ?_) (fun (hb : _ = false) => ?_)) <;> replace hb := xnC hb <;> (try first | exact xfC | exact bff hb (by assumption) | exact bff (by assumption) hb)) | (with_reducible refine Both.mk ?_ ?_) | ((with_reducible refine And.intro ?_ ?_); focus exact xoC) | ((with_reducible refine Or.inl ⟨?_, ?_, ?_⟩); (focus rfl); focus exact xaC) | ((with_reducible refine xwB ?_ ?_); focus exact xaC) | ((with_reducible refine xwC ?_ ?_); focus exact xaC) | ((with_reducible refine xwD ?_ ?_); focus exact xaC) | ((with_reducible refine xwE ?_ ?_); focus exact xaC) | (with_reducible intro hc; (try simp only [capsP, and_true] at hc); (try exact xfC)) | ((fail_if_success (with_reducible first | refine xgon ?_ | intro _)); (conv => whnf); (fail_if_success (fail_if_success (with_reducible first | refine xstp ?_ | refine Both.mk ?_ ?_ | refine xgon ?_ | intro _)))))
  refine xcal (σ := [.whole 1]) (nl := []) (crSmall s (0) (0) 1099511627776 (by omega) hs (by decide)) ?_
  rintro v h' ⟨rfl, rfl⟩ hcaps
  have la := rdS_le (s := s) (a := 0) (e := 0) (m := 1099511627776) (by omega)
  generalize ea : rdS s (0) (0) 1099511627776 = a at *
  refine rH15rA0 ?_
  repeat' (first | (fail_if_success (with_reducible refine xstp ?_)); first | ((with_reducible refine And.intro (fun (hb : _ = true) => ?_) (fun (hb : _ = false) => ?_)) <;> replace hb := xnC hb <;> (try first | exact xfC | exact bff hb (by assumption) | exact bff (by assumption) hb)) | (with_reducible refine Both.mk ?_ ?_) | ((with_reducible refine And.intro ?_ ?_); focus exact xoC) | ((with_reducible refine Or.inl ⟨?_, ?_, ?_⟩); (focus rfl); focus exact xaC) | ((with_reducible refine xwB ?_ ?_); focus exact xaC) | ((with_reducible refine xwC ?_ ?_); focus exact xaC) | ((with_reducible refine xwD ?_ ?_); focus exact xaC) | ((with_reducible refine xwE ?_ ?_); focus exact xaC) | (with_reducible intro hc; (try simp only [capsP, and_true] at hc); (try exact xfC)) | ((fail_if_success (with_reducible first | refine xgon ?_ | intro _)); (conv => whnf); (fail_if_success (fail_if_success (with_reducible first | refine xstp ?_ | refine Both.mk ?_ ?_ | refine xgon ?_ | intro _)))))
  refine xcal (σ := [.whole 1]) (nl := []) (crSmall s (a.2.1) (a.2.2) 64 (by omega) hs (by decide)) ?_
  rintro v h' ⟨rfl, rfl⟩ hcaps
  have lb := rdS_le (s := s) (a := a.2.1) (e := a.2.2) (m := 64) (by omega)
  generalize eb : rdS s (a.2.1) (a.2.2) 64 = b at *
  refine rH15rA0 ?_
  repeat' (first | (fail_if_success (with_reducible refine xstp ?_)); first | ((with_reducible refine And.intro (fun (hb : _ = true) => ?_) (fun (hb : _ = false) => ?_)) <;> replace hb := xnC hb <;> (try first | exact xfC | exact bff hb (by assumption) | exact bff (by assumption) hb)) | (with_reducible refine Both.mk ?_ ?_) | ((with_reducible refine And.intro ?_ ?_); focus exact xoC) | ((with_reducible refine Or.inl ⟨?_, ?_, ?_⟩); (focus rfl); focus exact xaC) | ((with_reducible refine xwB ?_ ?_); focus exact xaC) | ((with_reducible refine xwC ?_ ?_); focus exact xaC) | ((with_reducible refine xwD ?_ ?_); focus exact xaC) | ((with_reducible refine xwE ?_ ?_); focus exact xaC) | (with_reducible intro hc; (try simp only [capsP, and_true] at hc); (try exact xfC)) | ((fail_if_success (with_reducible first | refine xgon ?_ | intro _)); (conv => whnf); (fail_if_success (fail_if_success (with_reducible first | refine xstp ?_ | refine Both.mk ?_ ?_ | refine xgon ?_ | intro _)))))
  refine xcal (σ := [.whole 1]) (nl := []) (crSmall s (b.2.1) (b.2.2) 64 (by omega) hs (by decide)) ?_
  rintro v h' ⟨rfl, rfl⟩ hcaps
  have lc := rdS_le (s := s) (a := b.2.1) (e := b.2.2) (m := 64) (by omega)
  generalize ec : rdS s (b.2.1) (b.2.2) 64 = c at *
  refine rH15rA0 ?_
  repeat' (first | (fail_if_success (with_reducible refine xstp ?_)); first | ((with_reducible refine And.intro (fun (hb : _ = true) => ?_) (fun (hb : _ = false) => ?_)) <;> replace hb := xnC hb <;> (try first | exact xfC | exact bff hb (by assumption) | exact bff (by assumption) hb)) | (with_reducible refine Both.mk ?_ ?_) | ((with_reducible refine And.intro ?_ ?_); focus exact xoC) | ((with_reducible refine Or.inl ⟨?_, ?_, ?_⟩); (focus rfl); focus exact xaC) | ((with_reducible refine xwB ?_ ?_); focus exact xaC) | ((with_reducible refine xwC ?_ ?_); focus exact xaC) | ((with_reducible refine xwD ?_ ?_); focus exact xaC) | ((with_reducible refine xwE ?_ ?_); focus exact xaC) | (with_reducible intro hc; (try simp only [capsP, and_true] at hc); (try exact xfC)) | ((fail_if_success (with_reducible first | refine xgon ?_ | intro _)); (conv => whnf); (fail_if_success (fail_if_success (with_reducible first | refine xstp ?_ | refine Both.mk ?_ ?_ | refine xgon ?_ | intro _)))))
  refine xcal (σ := [.whole 1]) (nl := []) (crText s c.2.1 c.2.2 4000 (by omega) hs (by decide)) ?_
  rintro v h' ⟨rfl, rfl⟩ hcaps
  have lp := rdT_le (s := s) (a := c.2.1) (e := c.2.2) (m := 4000) (by omega)
  have hpl := rdT_len s c.2.1 c.2.2 4000
  generalize ep : rdT s c.2.1 c.2.2 4000 = p at *
  refine rH15rA0 ?_
  repeat' (first | (fail_if_success (with_reducible refine xstp ?_)); first | ((with_reducible refine And.intro (fun (hb : _ = true) => ?_) (fun (hb : _ = false) => ?_)) <;> replace hb := xnC hb <;> (try first | exact xfC | exact bff hb (by assumption) | exact bff (by assumption) hb)) | (with_reducible refine Both.mk ?_ ?_) | ((with_reducible refine And.intro ?_ ?_); focus exact xoC) | ((with_reducible refine Or.inl ⟨?_, ?_, ?_⟩); (focus rfl); focus exact xaC) | ((with_reducible refine xwB ?_ ?_); focus exact xaC) | ((with_reducible refine xwC ?_ ?_); focus exact xaC) | ((with_reducible refine xwD ?_ ?_); focus exact xaC) | ((with_reducible refine xwE ?_ ?_); focus exact xaC) | (with_reducible intro hc; (try simp only [capsP, and_true] at hc); (try exact xfC)) | ((fail_if_success (with_reducible first | refine xgon ?_ | intro _)); (conv => whnf); (fail_if_success (fail_if_success (with_reducible first | refine xstp ?_ | refine Both.mk ?_ ?_ | refine xgon ?_ | intro _)))))
  have hD := unfS_of (s := s) (x := ⟨a.1, b.1, c.1, p.1⟩) (a := p.2.1) (e := p.2.2) (by simp only [unfF, ea, eb, ec, ep])
  refine xcal (σ := [.whole 1]) (nl := []) (cEnd s p.2.1 p.2.2 (by omega) hs) ?_
  rintro v h' ⟨rfl, rfl⟩ hcaps
  generalize endV s p.2.1 p.2.2 = z at *
  refine rH15rA0 ?_
  repeat' (first | (fail_if_success (with_reducible refine xstp ?_)); first | ((with_reducible refine And.intro (fun (hb : _ = true) => ?_) (fun (hb : _ = false) => ?_)) <;> replace hb := xnC hb <;> (try first | exact xfC | exact bff hb (by assumption) | exact bff (by assumption) hb)) | (with_reducible refine Both.mk ?_ ?_) | ((with_reducible refine And.intro ?_ ?_); focus exact xoC) | ((with_reducible refine Or.inl ⟨?_, ?_, ?_⟩); (focus rfl); focus exact xaC) | ((with_reducible refine xwB ?_ ?_); focus exact xaC) | ((with_reducible refine xwC ?_ ?_); focus exact xaC) | ((with_reducible refine xwD ?_ ?_); focus exact xaC) | ((with_reducible refine xwE ?_ ?_); focus exact xaC) | (with_reducible intro hc; (try simp only [capsP, and_true] at hc); (try exact xfC)) | ((fail_if_success (with_reducible first | refine xgon ?_ | intro _)); (conv => whnf); (fail_if_success (fail_if_success (with_reducible first | refine xstp ?_ | refine Both.mk ?_ ?_ | refine xgon ?_ | intro _)))))
  · rw [if_neg (by omega)] at hD
    refine xcal (σ := []) (nl := []) (cvalid ⟨a.1, b.1, c.1, p.1⟩) ?_
    rintro v h' ⟨rfl, rfl⟩ hcaps
    refine rH15rA0 ?_
    repeat' (first | (fail_if_success (with_reducible refine xstp ?_)); first | ((with_reducible refine And.intro (fun (hb : _ = true) => ?_) (fun (hb : _ = false) => ?_)) <;> replace hb := xnC hb <;> (try first | exact xfC | exact bff hb (by assumption) | exact bff (by assumption) hb)) | (with_reducible refine Both.mk ?_ ?_) | ((with_reducible refine And.intro ?_ ?_); focus exact xoC) | ((with_reducible refine Or.inl ⟨?_, ?_, ?_⟩); (focus rfl); focus exact xaC) | ((with_reducible refine xwB ?_ ?_); focus exact xaC) | ((with_reducible refine xwC ?_ ?_); focus exact xaC) | ((with_reducible refine xwD ?_ ?_); focus exact xaC) | ((with_reducible refine xwE ?_ ?_); focus exact xaC) | (with_reducible intro hc; (try simp only [capsP, and_true] at hc); (try exact xfC)) | ((fail_if_success (with_reducible first | refine xgon ?_ | intro _)); (conv => whnf); (fail_if_success (fail_if_success (with_reducible first | refine xstp ?_ | refine Both.mk ?_ ?_ | refine xgon ?_ | intro _)))))
    · rw [if_pos (show ¬ okF ⟨a.1, b.1, c.1, p.1⟩ by assumption)] at hD
      rw [hD]
      refine FinK.mk ⟨[], _, _, ⟨rfl, rfl⟩, ?_⟩; (repeat' first | refine And.intro ?_ ?_ | exact xeC | fail)
    · rw [if_neg (not_not_intro (show okF ⟨a.1, b.1, c.1, p.1⟩ by assumption))] at hD
      rw [hD]
      refine FinK.mk ⟨[], _, _, ⟨rfl, rfl⟩, ?_⟩; (repeat' first | refine And.intro ?_ ?_ | exact xeC | fail)
  · rw [if_pos (by omega)] at hD
    rw [hD]
    refine FinK.mk ⟨[], _, _, ⟨rfl, rfl⟩, ?_⟩; (repeat' first | refine And.intro ?_ ?_ | exact xeC | fail)

set_option maxRecDepth 10000 in
theorem cUnframeR (l : List UInt8) (hl : l.length ≤ 1000000) :
    Ctr Try.prog 26 [.c (.s (mkS l))] [] fun v h => v = .t [.a (encG (unf l).1), .c (.i .i64 ((unf l).2 : Nat))] ∧ h = [] := by
  refine Ctr.mk' tbv mixed Try.func26 rfl rfl rfl (fun _ _ => by kernel_rfl) (by kernel_rfl) (by rfl) (by rfl) (by (repeat' first | refine And.intro ?_ ?_ | exact xeC | fail)) ?_
  repeat' (first | (fail_if_success (with_reducible refine xstp ?_)); first | ((with_reducible refine And.intro (fun (hb : _ = true) => ?_) (fun (hb : _ = false) => ?_)) <;> replace hb := xnC hb <;> (try first | exact xfC | exact bff hb (by assumption) | exact bff (by assumption) hb)) | (with_reducible refine Both.mk ?_ ?_) | ((with_reducible refine And.intro ?_ ?_); focus exact xoC) | ((with_reducible refine Or.inl ⟨?_, ?_, ?_⟩); (focus rfl); focus exact xaC) | ((with_reducible refine xwB ?_ ?_); focus exact xaC) | ((with_reducible refine xwC ?_ ?_); focus exact xaC) | ((with_reducible refine xwD ?_ ?_); focus exact xaC) | ((with_reducible refine xwE ?_ ?_); focus exact xaC) | (with_reducible intro hc; (try simp only [capsP, and_true] at hc); (try exact xfC)) | ((fail_if_success (with_reducible first | refine xgon ?_ | intro _)); (conv => whnf); (fail_if_success (fail_if_success (with_reducible first | refine xstp ?_ | refine Both.mk ?_ ?_ | refine xgon ?_ | intro _)))))
  refine xcal (σ := []) (nl := []) (cOpenR l (by omega)) ?_
  rintro v h' ⟨rfl, rfl⟩ hcaps
  refine rH15rA0 ?_
  repeat' (first | (fail_if_success (with_reducible refine xstp ?_)); first | ((with_reducible refine And.intro (fun (hb : _ = true) => ?_) (fun (hb : _ = false) => ?_)) <;> replace hb := xnC hb <;> (try first | exact xfC | exact bff hb (by assumption) | exact bff (by assumption) hb)) | (with_reducible refine Both.mk ?_ ?_) | ((with_reducible refine And.intro ?_ ?_); focus exact xoC) | ((with_reducible refine Or.inl ⟨?_, ?_, ?_⟩); (focus rfl); focus exact xaC) | ((with_reducible refine xwB ?_ ?_); focus exact xaC) | ((with_reducible refine xwC ?_ ?_); focus exact xaC) | ((with_reducible refine xwD ?_ ?_); focus exact xaC) | ((with_reducible refine xwE ?_ ?_); focus exact xaC) | (with_reducible intro hc; (try simp only [capsP, and_true] at hc); (try exact xfC)) | ((fail_if_success (with_reducible first | refine xgon ?_ | intro _)); (conv => whnf); (fail_if_success (fail_if_success (with_reducible first | refine xstp ?_ | refine Both.mk ?_ ?_ | refine xgon ?_ | intro _)))))
  · rw [show unf l = (fg0, (openL l).2) from if_pos (by omega)]
    refine FinK.mk ⟨[], _, _, ⟨rfl, rfl⟩, ?_⟩; (repeat' first | refine And.intro ?_ ?_ | exact xeC | fail)
  have hu : unf l = unfS (mkS (openL l).1) := if_neg (by omega)
  rw [hu]
  have hs6 : (mkS (openL l).1).size ≤ 1000000 := by have := openL_le l; rw [mkS_size]; omega
  generalize mkS (openL l).1 = s at *
  have hs : s.size ≤ 140737488355328 := by omega
  refine xcal (σ := []) (nl := []) (cRSmall s (0) (0) 1099511627776 (by omega) hs (by decide)) ?_
  rintro v h' ⟨rfl, rfl⟩ hcaps
  have la := rdS_le (s := s) (a := 0) (e := 0) (m := 1099511627776) (by omega)
  generalize ea : rdS s (0) (0) 1099511627776 = a at *
  refine rH15rA0 ?_
  repeat' (first | (fail_if_success (with_reducible refine xstp ?_)); first | ((with_reducible refine And.intro (fun (hb : _ = true) => ?_) (fun (hb : _ = false) => ?_)) <;> replace hb := xnC hb <;> (try first | exact xfC | exact bff hb (by assumption) | exact bff (by assumption) hb)) | (with_reducible refine Both.mk ?_ ?_) | ((with_reducible refine And.intro ?_ ?_); focus exact xoC) | ((with_reducible refine Or.inl ⟨?_, ?_, ?_⟩); (focus rfl); focus exact xaC) | ((with_reducible refine xwB ?_ ?_); focus exact xaC) | ((with_reducible refine xwC ?_ ?_); focus exact xaC) | ((with_reducible refine xwD ?_ ?_); focus exact xaC) | ((with_reducible refine xwE ?_ ?_); focus exact xaC) | (with_reducible intro hc; (try simp only [capsP, and_true] at hc); (try exact xfC)) | ((fail_if_success (with_reducible first | refine xgon ?_ | intro _)); (conv => whnf); (fail_if_success (fail_if_success (with_reducible first | refine xstp ?_ | refine Both.mk ?_ ?_ | refine xgon ?_ | intro _)))))
  refine xcal (σ := []) (nl := []) (cRSmall s (a.2.1) (a.2.2) 64 (by omega) hs (by decide)) ?_
  rintro v h' ⟨rfl, rfl⟩ hcaps
  have lb := rdS_le (s := s) (a := a.2.1) (e := a.2.2) (m := 64) (by omega)
  generalize eb : rdS s (a.2.1) (a.2.2) 64 = b at *
  refine rH15rA0 ?_
  repeat' (first | (fail_if_success (with_reducible refine xstp ?_)); first | ((with_reducible refine And.intro (fun (hb : _ = true) => ?_) (fun (hb : _ = false) => ?_)) <;> replace hb := xnC hb <;> (try first | exact xfC | exact bff hb (by assumption) | exact bff (by assumption) hb)) | (with_reducible refine Both.mk ?_ ?_) | ((with_reducible refine And.intro ?_ ?_); focus exact xoC) | ((with_reducible refine Or.inl ⟨?_, ?_, ?_⟩); (focus rfl); focus exact xaC) | ((with_reducible refine xwB ?_ ?_); focus exact xaC) | ((with_reducible refine xwC ?_ ?_); focus exact xaC) | ((with_reducible refine xwD ?_ ?_); focus exact xaC) | ((with_reducible refine xwE ?_ ?_); focus exact xaC) | (with_reducible intro hc; (try simp only [capsP, and_true] at hc); (try exact xfC)) | ((fail_if_success (with_reducible first | refine xgon ?_ | intro _)); (conv => whnf); (fail_if_success (fail_if_success (with_reducible first | refine xstp ?_ | refine Both.mk ?_ ?_ | refine xgon ?_ | intro _)))))
  refine xcal (σ := []) (nl := []) (cRSmall s (b.2.1) (b.2.2) 64 (by omega) hs (by decide)) ?_
  rintro v h' ⟨rfl, rfl⟩ hcaps
  have lc := rdS_le (s := s) (a := b.2.1) (e := b.2.2) (m := 64) (by omega)
  generalize ec : rdS s (b.2.1) (b.2.2) 64 = c at *
  refine rH15rA0 ?_
  repeat' (first | (fail_if_success (with_reducible refine xstp ?_)); first | ((with_reducible refine And.intro (fun (hb : _ = true) => ?_) (fun (hb : _ = false) => ?_)) <;> replace hb := xnC hb <;> (try first | exact xfC | exact bff hb (by assumption) | exact bff (by assumption) hb)) | (with_reducible refine Both.mk ?_ ?_) | ((with_reducible refine And.intro ?_ ?_); focus exact xoC) | ((with_reducible refine Or.inl ⟨?_, ?_, ?_⟩); (focus rfl); focus exact xaC) | ((with_reducible refine xwB ?_ ?_); focus exact xaC) | ((with_reducible refine xwC ?_ ?_); focus exact xaC) | ((with_reducible refine xwD ?_ ?_); focus exact xaC) | ((with_reducible refine xwE ?_ ?_); focus exact xaC) | (with_reducible intro hc; (try simp only [capsP, and_true] at hc); (try exact xfC)) | ((fail_if_success (with_reducible first | refine xgon ?_ | intro _)); (conv => whnf); (fail_if_success (fail_if_success (with_reducible first | refine xstp ?_ | refine Both.mk ?_ ?_ | refine xgon ?_ | intro _)))))
  refine xcal (σ := []) (nl := []) (cRText s c.2.1 c.2.2 4000 (by omega) hs (by decide)) ?_
  rintro v h' ⟨rfl, rfl⟩ hcaps
  have lp := rdT_le (s := s) (a := c.2.1) (e := c.2.2) (m := 4000) (by omega)
  have hpl := rdT_len s c.2.1 c.2.2 4000
  generalize ep : rdT s c.2.1 c.2.2 4000 = p at *
  refine rH15rA0 ?_
  repeat' (first | (fail_if_success (with_reducible refine xstp ?_)); first | ((with_reducible refine And.intro (fun (hb : _ = true) => ?_) (fun (hb : _ = false) => ?_)) <;> replace hb := xnC hb <;> (try first | exact xfC | exact bff hb (by assumption) | exact bff (by assumption) hb)) | (with_reducible refine Both.mk ?_ ?_) | ((with_reducible refine And.intro ?_ ?_); focus exact xoC) | ((with_reducible refine Or.inl ⟨?_, ?_, ?_⟩); (focus rfl); focus exact xaC) | ((with_reducible refine xwB ?_ ?_); focus exact xaC) | ((with_reducible refine xwC ?_ ?_); focus exact xaC) | ((with_reducible refine xwD ?_ ?_); focus exact xaC) | ((with_reducible refine xwE ?_ ?_); focus exact xaC) | (with_reducible intro hc; (try simp only [capsP, and_true] at hc); (try exact xfC)) | ((fail_if_success (with_reducible first | refine xgon ?_ | intro _)); (conv => whnf); (fail_if_success (fail_if_success (with_reducible first | refine xstp ?_ | refine Both.mk ?_ ?_ | refine xgon ?_ | intro _)))))
  have hD := unfS_of (s := s) (x := ⟨a.1, b.1, c.1, p.1⟩) (a := p.2.1) (e := p.2.2) (by simp only [unfF, ea, eb, ec, ep])
  refine xcal (σ := []) (nl := []) (cREnd s p.2.1 p.2.2) ?_
  rintro v h' ⟨rfl, rfl⟩ hcaps
  generalize endV s p.2.1 p.2.2 = z at *
  refine rH15rA0 ?_
  repeat' (first | (fail_if_success (with_reducible refine xstp ?_)); first | ((with_reducible refine And.intro (fun (hb : _ = true) => ?_) (fun (hb : _ = false) => ?_)) <;> replace hb := xnC hb <;> (try first | exact xfC | exact bff hb (by assumption) | exact bff (by assumption) hb)) | (with_reducible refine Both.mk ?_ ?_) | ((with_reducible refine And.intro ?_ ?_); focus exact xoC) | ((with_reducible refine Or.inl ⟨?_, ?_, ?_⟩); (focus rfl); focus exact xaC) | ((with_reducible refine xwB ?_ ?_); focus exact xaC) | ((with_reducible refine xwC ?_ ?_); focus exact xaC) | ((with_reducible refine xwD ?_ ?_); focus exact xaC) | ((with_reducible refine xwE ?_ ?_); focus exact xaC) | (with_reducible intro hc; (try simp only [capsP, and_true] at hc); (try exact xfC)) | ((fail_if_success (with_reducible first | refine xgon ?_ | intro _)); (conv => whnf); (fail_if_success (fail_if_success (with_reducible first | refine xstp ?_ | refine Both.mk ?_ ?_ | refine xgon ?_ | intro _)))))
  · rw [if_pos (by omega)] at hD
    rw [hD]
    refine FinK.mk ⟨[], _, _, ⟨rfl, rfl⟩, ?_⟩; (repeat' first | refine And.intro ?_ ?_ | exact xeC | fail)
  · rw [if_neg (by omega)] at hD
    refine xcal (σ := []) (nl := []) (cvalidR ⟨a.1, b.1, c.1, p.1⟩ (by simp only; omega)) ?_
    rintro v h' ⟨rfl, rfl⟩ hcaps
    refine rH15rA0 ?_
    repeat' (first | (fail_if_success (with_reducible refine xstp ?_)); first | ((with_reducible refine And.intro (fun (hb : _ = true) => ?_) (fun (hb : _ = false) => ?_)) <;> replace hb := xnC hb <;> (try first | exact xfC | exact bff hb (by assumption) | exact bff (by assumption) hb)) | (with_reducible refine Both.mk ?_ ?_) | ((with_reducible refine And.intro ?_ ?_); focus exact xoC) | ((with_reducible refine Or.inl ⟨?_, ?_, ?_⟩); (focus rfl); focus exact xaC) | ((with_reducible refine xwB ?_ ?_); focus exact xaC) | ((with_reducible refine xwC ?_ ?_); focus exact xaC) | ((with_reducible refine xwD ?_ ?_); focus exact xaC) | ((with_reducible refine xwE ?_ ?_); focus exact xaC) | (with_reducible intro hc; (try simp only [capsP, and_true] at hc); (try exact xfC)) | ((fail_if_success (with_reducible first | refine xgon ?_ | intro _)); (conv => whnf); (fail_if_success (fail_if_success (with_reducible first | refine xstp ?_ | refine Both.mk ?_ ?_ | refine xgon ?_ | intro _)))))
    · rw [if_pos hb] at hD
      rw [hD]
      refine FinK.mk ⟨[], _, _, ⟨rfl, rfl⟩, ?_⟩; (repeat' first | refine And.intro ?_ ?_ | exact xeC | fail)
    · rw [if_neg (by simpa using hb)] at hD
      rw [hD]
      refine FinK.mk ⟨[], _, _, ⟨rfl, rfl⟩, ?_⟩; (repeat' first | refine And.intro ?_ ?_ | exact xeC | fail)
end Go.Proofs.Ytgaodeffbgppmaa

namespace Go.Proofs.Ytgaodeffbgppmaa
open Go.X
set_option linter.unusedSimpArgs false
set_option linter.unusedVariables false
open P4
open P5
def aw : Pk := ⟨4, 0, 1, 2, 3, 0, 1, 4, 0, [], []⟩
theorem aok0 {mo : Int} {N : Nat} (h : 1 ≤ mo) (h2 : mo ≤ 256) : AOk mo N [] [] [] := ⟨h, h2, by simp only [List.length_nil]; omega, by simp, by simp [idsOf], by simp, by simp, by simp, by simp, by simp, by simp, by simp, by simp⟩
theorem rH15sA0 {σ : List Sg} {H h' : List Fam} {v : T} {K : T → List Fam → Prop} {H' : List Fam} {v' : T} {N : Nat} (hk : K v' H') (hN : H.length = N := by (try simp only [↓List.length_cons, ↓List.length_nil, Nat.reduceAdd]) <;> rfl) (h : givesF σ N H σ h' = some H' := by (try simp (maxSteps := 1000000) only [givesF, setF, updF, Fam.zeroth, Fam.rk, Ck.rk, C.rk, E.rk, T.rk, key, List.map_cons, List.map_nil, List.cons_append, List.nil_append, List.length_cons, List.length_nil, Option.map_some, Option.bind_some, Nat.reduceAdd, Nat.zero_add, Nat.add_zero, Nat.add_sub_cancel_left, Int.toNat_natCast, reps, List.all_cons, List.all_nil, C.flat, List.append_eq, Bool.not_true, Bool.and_true, Bool.or_false, Bool.or_self, Bool.not_false, List.append_nil, Bool.and_self, ↓mtG_rk, ↓winO_rk, encP]) <;> rfl) (hv : v.rk σ N = v' := by (try simp only [givesF, setF, updF, Fam.zeroth, Fam.rk, Ck.rk, C.rk, E.rk, T.rk, key, List.map_cons, List.map_nil, List.cons_append, List.nil_append, List.length_cons, List.length_nil, Option.map_some, Option.bind_some, Nat.reduceAdd, Nat.zero_add, Nat.add_zero, Nat.add_sub_cancel_left, Int.toNat_natCast, reps, List.all_cons, List.all_nil, C.flat, List.append_eq, Bool.not_true, Bool.and_true, Bool.or_false, Bool.or_self, Bool.not_false, List.append_nil, Bool.and_self, ↓mtG_rk, ↓winO_rk, encP]) <;> rfl) : RetG σ H h' v K := ret_mk3 hN h hv hk
theorem rH15sA1 {σ : List Sg} {H h' : List Fam} {v : T} {K : T → List Fam → Prop} {H' : List Fam} {v' : T} {N : Nat} (hk : K v' H') (hN : H.length = N := by (try simp only [↓List.length_cons, ↓List.length_nil, Nat.reduceAdd]) <;> rfl) (h : givesF σ N H σ h' = some H' := by (try simp (maxSteps := 1000000) only [givesF, setF, updF, Fam.zeroth, Fam.rk, Ck.rk, C.rk, E.rk, T.rk, key, List.map_cons, List.map_nil, List.cons_append, List.nil_append, List.length_cons, List.length_nil, Option.map_some, Option.bind_some, Nat.reduceAdd, Nat.zero_add, Nat.add_zero, Nat.add_sub_cancel_left, Int.toNat_natCast, reps, List.all_cons, List.all_nil, C.flat, List.append_eq, Bool.not_true, Bool.and_true, Bool.or_false, Bool.or_self, Bool.not_false, List.append_nil, Bool.and_self, ↓mtG_rk, ↓winO_rk]) <;> rfl) (hv : v.rk σ N = v' := by (try simp only [givesF, setF, updF, Fam.zeroth, Fam.rk, Ck.rk, C.rk, E.rk, T.rk, key, List.map_cons, List.map_nil, List.cons_append, List.nil_append, List.length_cons, List.length_nil, Option.map_some, Option.bind_some, Nat.reduceAdd, Nat.zero_add, Nat.add_zero, Nat.add_sub_cancel_left, Int.toNat_natCast, reps, List.all_cons, List.all_nil, C.flat, List.append_eq, Bool.not_true, Bool.and_true, Bool.or_false, Bool.or_self, Bool.not_false, List.append_nil, Bool.and_self, ↓mtG_rk, ↓winO_rk]) <;> rfl) : RetG σ H h' v K := ret_mk3 hN h hv hk
theorem rH15sA2 {σ : List Sg} {H h' : List Fam} {v : T} {K : T → List Fam → Prop} {H' : List Fam} {v' : T} {N : Nat} (hk : K v' H') (hN : H.length = N := by (try simp only [↓List.length_cons, ↓List.length_nil, Nat.reduceAdd]) <;> rfl) (h : givesF σ N H σ h' = some H' := by (try simp (maxSteps := 1000000) only [givesF, setF, updF, Fam.zeroth, Fam.rk, Ck.rk, C.rk, E.rk, T.rk, key, List.map_cons, List.map_nil, List.cons_append, List.nil_append, List.length_cons, List.length_nil, Option.map_some, Option.bind_some, Nat.reduceAdd, Nat.zero_add, Nat.add_zero, Nat.add_sub_cancel_left, Int.toNat_natCast, reps, List.all_cons, List.all_nil, C.flat, List.append_eq, Bool.not_true, Bool.and_true, Bool.or_false, Bool.or_self, Bool.not_false, List.append_nil, Bool.and_self, ↓mtG_rk, ↓winO_rk, encG]) <;> rfl) (hv : v.rk σ N = v' := by (try simp only [givesF, setF, updF, Fam.zeroth, Fam.rk, Ck.rk, C.rk, E.rk, T.rk, key, List.map_cons, List.map_nil, List.cons_append, List.nil_append, List.length_cons, List.length_nil, Option.map_some, Option.bind_some, Nat.reduceAdd, Nat.zero_add, Nat.add_zero, Nat.add_sub_cancel_left, Int.toNat_natCast, reps, List.all_cons, List.all_nil, C.flat, List.append_eq, Bool.not_true, Bool.and_true, Bool.or_false, Bool.or_self, Bool.not_false, List.append_nil, Bool.and_self, ↓mtG_rk, ↓winO_rk, encG]) <;> rfl) : RetG σ H h' v K := ret_mk3 hN h hv hk
theorem cH15sA3 {P : Program} {F : Nat} {args : List T} {H : List Fam} {K : T → List Fam → Prop} {σ : List Sg} {nl : List Fam} {args0 : List T} {h0 : List Fam} {Q : T → List Fam → Prop} {H2 H1 : List Fam} {N n : Nat} (hc : Ctr P F args0 h0 Q) (hk : ∀ v h', Q v h' → capsP h' → RetG σ H2 h' v K) (hap : apart σ = true := by rfl) (hnl : nl.all nilB = true := by rfl) (h1 : H ++ nl = H1 := by first | exact List.append_nil _ | ((try simp only [List.cons_append, List.nil_append]) <;> rfl)) (hN : H1.length = N := by (try simp only [↓List.length_cons, ↓List.length_nil, Nat.reduceAdd]) <;> rfl) (hn : H.length = n := by (try simp only [↓List.length_cons, ↓List.length_nil, Nat.reduceAdd]) <;> rfl) (hH : givesF σ N H1 σ h0 = some H2 := by (try simp (maxSteps := 1000000) only [givesF, setF, updF, Fam.zeroth, Fam.rk, Ck.rk, C.rk, E.rk, T.rk, key, List.map_cons, List.map_nil, List.cons_append, List.nil_append, List.length_cons, List.length_nil, Option.map_some, Option.bind_some, Nat.reduceAdd, Nat.zero_add, Nat.add_zero, Nat.add_sub_cancel_left, Int.toNat_natCast, reps, List.all_cons, List.all_nil, C.flat, List.append_eq, Bool.not_true, Bool.and_true, Bool.or_false, Bool.or_self, Bool.not_false, List.append_nil, Bool.and_self, ↓mtG_rk, ↓winO_rk]) <;> rfl) (hle : leS n H1 σ N σ h0 (belsK N (h0.map (Fam.rk σ N)) (argsK n args (args0.map (T.rk σ N)) True)) := by repeat' first | refine And.intro ?_ ?_ | exact xeC | fail) : CallK P F args H K := CallK.mk3 hc hap hnl h1 hN hn hH hle hk
set_option maxRecDepth 10000 in
theorem cawake : Ctr Try.prog 10 [] [] fun v h => v = .c .tt ∧ h = [] := by
  refine Ctr.mk' tbv mixed Try.func10 rfl rfl rfl (fun _ _ => by kernel_rfl) (by kernel_rfl) (by rfl) (by rfl) (by (repeat' first | refine And.intro ?_ ?_ | exact xeC | fail) <;> (exact xmC)) ?_
  repeat' (first | (fail_if_success (with_reducible refine xstp ?_)); first | ((with_reducible refine And.intro (fun (hb : _ = true) => ?_) (fun (hb : _ = false) => ?_)) <;> replace hb := xnC hb <;> (try first | exact xfC | exact bff hb (by assumption) | exact bff (by assumption) hb)) | (with_reducible refine Both.mk ?_ ?_) | ((with_reducible refine And.intro ?_ ?_); focus exact xoC) | ((with_reducible refine Or.inl ⟨?_, ?_, ?_⟩); (focus rfl); focus exact xaC) | ((with_reducible refine xwB ?_ ?_); focus exact xaC) | ((with_reducible refine xwC ?_ ?_); focus exact xaC) | ((with_reducible refine xwD ?_ ?_); focus exact xaC) | ((with_reducible refine xwE ?_ ?_); focus exact xaC) | (with_reducible intro hc; (try simp only [capsP, and_true] at hc); (try exact xfC)) | ((fail_if_success (with_reducible first | refine xgon ?_ | intro _)); (conv => whnf); (fail_if_success (fail_if_success (with_reducible first | refine xstp ?_ | refine Both.mk ?_ ?_ | refine xgon ?_ | intro _)))))
  refine cH15sA3 (σ := [.whole 0]) (nl := [.one (ints true noI 0)]) (cEncode aw true 0 (by decide) (by decide)) ?_
  rintro v h' ⟨rfl, rfl⟩ hcaps
  rw [show chk aw = 0 by decide, if_pos rfl, show encL aw = [4, 0, 1, 2, 3, 0, 1, 4, 0] by decide]
  refine rH15sA0 ?_
  repeat' (first | (fail_if_success (with_reducible refine xstp ?_)); first | ((with_reducible refine And.intro (fun (hb : _ = true) => ?_) (fun (hb : _ = false) => ?_)) <;> replace hb := xnC hb <;> (try first | exact xfC | exact bff hb (by assumption) | exact bff (by assumption) hb)) | (with_reducible refine Both.mk ?_ ?_) | ((with_reducible refine And.intro ?_ ?_); focus exact xoC) | ((with_reducible refine Or.inl ⟨?_, ?_, ?_⟩); (focus rfl); focus exact xaC) | ((with_reducible refine xwB ?_ ?_); focus exact xaC) | ((with_reducible refine xwC ?_ ?_); focus exact xaC) | ((with_reducible refine xwD ?_ ?_); focus exact xaC) | ((with_reducible refine xwE ?_ ?_); focus exact xaC) | (with_reducible intro hc; (try simp only [capsP, and_true] at hc); (try exact xfC)) | ((fail_if_success (with_reducible first | refine xgon ?_ | intro _)); (conv => whnf); (fail_if_success (fail_if_success (with_reducible first | refine xstp ?_ | refine Both.mk ?_ ?_ | refine xgon ?_ | intro _)))))
  refine cH15sA3 (σ := []) (nl := []) (cNewA 2) ?_
  rintro v h' ⟨rfl, rfl⟩ hcaps
  refine rH15sA1 ?_
  repeat' (first | (fail_if_success (with_reducible refine xstp ?_)); first | ((with_reducible refine And.intro (fun (hb : _ = true) => ?_) (fun (hb : _ = false) => ?_)) <;> replace hb := xnC hb <;> (try first | exact xfC | exact bff hb (by assumption) | exact bff (by assumption) hb)) | (with_reducible refine Both.mk ?_ ?_) | ((with_reducible refine And.intro ?_ ?_); focus exact xoC) | ((with_reducible refine Or.inl ⟨?_, ?_, ?_⟩); (focus rfl); focus exact xaC) | ((with_reducible refine xwB ?_ ?_); focus exact xaC) | ((with_reducible refine xwC ?_ ?_); focus exact xaC) | ((with_reducible refine xwD ?_ ?_); focus exact xaC) | ((with_reducible refine xwE ?_ ?_); focus exact xaC) | (with_reducible intro hc; (try simp only [capsP, and_true] at hc); (try exact xfC)) | ((fail_if_success (with_reducible first | refine xgon ?_ | intro _)); (conv => whnf); (fail_if_success (fail_if_success (with_reducible first | refine xstp ?_ | refine Both.mk ?_ ?_ | refine xgon ?_ | intro _)))))
  refine cH15sA3 (σ := [.whole 1, .whole 2, .whole 3, .whole 4, .whole 5]) (nl := []) (cAdd (max 1 (min 256 2)) 0 [] [] [] 0 0 1 ⟨5, 0, 1, [97, 98]⟩ (aok0 (by decide) (by decide))) ?_ (hle := by (repeat' first | refine And.intro ?_ ?_ | exact xeC | fail) <;> (exact xmC))
  rintro v h' ⟨J', c', cd', _, _, rfl, rfl⟩ hcaps
  rw [show addA (max 1 (min 256 2)) 0 [] [] 1 ⟨5, 0, 1, [97, 98]⟩ = ([], [(1, 5)], [97, 98], true, 0) by simp [addA, okF, fnd, remD, cntD]]
  refine rH15sA2 ?_
  repeat' (first | (fail_if_success (with_reducible refine xstp ?_)); first | ((with_reducible refine And.intro (fun (hb : _ = true) => ?_) (fun (hb : _ = false) => ?_)) <;> replace hb := xnC hb <;> (try first | exact xfC | exact bff hb (by assumption) | exact bff (by assumption) hb)) | (with_reducible refine Both.mk ?_ ?_) | ((with_reducible refine And.intro ?_ ?_); focus exact xoC) | ((with_reducible refine Or.inl ⟨?_, ?_, ?_⟩); (focus rfl); focus exact xaC) | ((with_reducible refine xwB ?_ ?_); focus exact xaC) | ((with_reducible refine xwC ?_ ?_); focus exact xaC) | ((with_reducible refine xwD ?_ ?_); focus exact xaC) | ((with_reducible refine xwE ?_ ?_); focus exact xaC) | (with_reducible intro hc; (try simp only [capsP, and_true] at hc); (try exact xfC)) | ((fail_if_success (with_reducible first | refine xgon ?_ | intro _)); (conv => whnf); (fail_if_success (fail_if_success (with_reducible first | refine xstp ?_ | refine Both.mk ?_ ?_ | refine xgon ?_ | intro _)))))
  refine FinK.mk ⟨[], _, _, ⟨rfl, rfl⟩, ?_⟩; (repeat' first | refine And.intro ?_ ?_ | exact xeC | fail)
end Go.Proofs.Ytgaodeffbgppmaa

namespace Go.Proofs.Ytgaodeffbgppmaa
open Go.X
open P4
open P5
abbrev rem (s : ByteArray) (a : Nat) : List UInt8 := s.data.toList.drop a
theorem rem_step {s : ByteArray} {a k : Nat} {x r : List UInt8} (h : rem s a = x ++ r) (hk : k = x.length) : rem s (a + k) = r := by
  subst hk
  unfold rem at *
  rw [← List.drop_drop, h, List.drop_append_of_le_length (Nat.le_refl _), List.drop_of_length_le (Nat.le_refl _), List.nil_append]
theorem rdS_fw {s : ByteArray} {a n : Nat} {r : List UInt8} {m : Int} (hn : n < 18446744073709551616) (hm : (n : Int) ≤ m) (h : rem s a = venc n ++ r) : ∃ a', rdS s a 0 m = (n, a', 0) ∧ rem s a' = r := by
  refine ⟨a + (venc n).length, ?_, rem_step h rfl⟩
  rw [rdS_U, rdU, if_pos rfl]
  unfold rem at h
  rw [h, vdec_enc n r hn, if_pos rfl, if_neg (by simp only; omega)]
theorem rdT_fw {s : ByteArray} {a : Nat} {x r : List UInt8} {m : Int} (hn : x.length < 18446744073709551616) (hm : (x.length : Int) ≤ m) (h : rem s a = textL x ++ r) : ∃ a', rdT s a 0 m = (x, a', 0) ∧ rem s a' = r := by
  have h1 : rem s a = venc x.length ++ (x ++ r) := by rw [h, textL, List.append_assoc]
  have h2 : rem s (a + (venc x.length).length) = x ++ r := rem_step h1 rfl
  refine ⟨a + (textL x).length, ?_, rem_step h rfl⟩
  have h3 := congrArg List.length h2
  unfold rem at h1 h2 h3
  rw [List.length_drop, size_len, List.length_append] at h3
  rw [rdT_U, rdU, if_pos rfl, h1, vdec_enc _ _ hn, if_pos rfl, if_neg (by simp only; omega), if_neg (by simp only; omega)]
  simp only [h2, List.take_append_of_le_length (Nat.le_refl _), List.take_length, textL, List.length_append, Nat.add_assoc]
theorem rdL_fw {s : ByteArray} : ∀ {l : List Int} {a : Nat} {r : List UInt8}, (∀ n ∈ l, 0 ≤ n ∧ n ≤ 1099511627776) → rem s a = numsL l ++ r → ∃ a', rdL s l.length a 0 = (l, a', 0) ∧ rem s a' = r
  | [], a, r, _, h => ⟨a, rfl, by simpa [numsL] using h⟩
  | n :: l, a, r, hl, h => by
    have hn := hl n (List.mem_cons_self ..)
    have h' : rem s a = venc n.toNat ++ (numsL l ++ r) := by rw [h]; simp [numsL]
    obtain ⟨b, e1, h1⟩ := rdS_fw (m := 1099511627776) (by omega) (by omega) h'
    obtain ⟨d, e2, h2⟩ := rdL_fw (fun x hx => hl x (List.mem_cons_of_mem _ hx)) h1
    refine ⟨d, ?_, h2⟩
    rw [List.length_cons, rdL, e1]
    simp only [e2, Int.toNat_of_nonneg hn.1]
theorem endV_fw {s : ByteArray} {a : Nat} (h : rem s a = []) : endV s a 0 = 0 := by
  have h1 := congrArg List.length h
  unfold rem at h1
  rw [List.length_drop, size_len, List.length_nil] at h1
  unfold endV
  rw [if_pos rfl, if_neg (by omega)]
theorem rdS_bw {s : ByteArray} {a e n b : Nat} {m : Int} (h : rdS s a e m = (n, b, 0)) : e = 0 ∧ rem s a = venc n ++ rem s b := by
  rw [rdS_U] at h
  have hz : (rdU s a e).2.2 = 0 := by
    by_cases h0 : (rdU s a e).2.2 = 0
    · exact h0
    · rw [if_neg h0] at h
      exact absurd (Prod.mk.inj (Prod.mk.inj h).2).2 h0
  rw [if_pos hz] at h
  split at h
  · exact absurd (Prod.mk.inj (Prod.mk.inj h).2).2 (by decide)
  · unfold rdU at h hz
    split at h
    · rename_i h0
      rw [if_pos h0] at hz
      simp only at hz
      obtain ⟨e1, e2⟩ := Prod.mk.inj h
      obtain ⟨e3, e4⟩ := Prod.mk.inj e2
      have hv : vdec (s.data.toList.drop a) = (n, (vdec (s.data.toList.drop a)).2.1, 0) := by rw [← e1, ← hz]
      obtain ⟨_, h2, h3, h4, _⟩ := vdec_ok hv
      refine ⟨h0, ?_⟩
      unfold rem
      rw [← h4, ← e3, ← List.drop_drop, List.take_append_drop]
    · rename_i h0
      rw [if_neg h0] at hz
      exact absurd hz h0
theorem rdT_bw {s : ByteArray} {a e b : Nat} {x : List UInt8} {m : Int} (h : rdT s a e m = (x, b, 0)) : e = 0 ∧ rem s a = textL x ++ rem s b := by
  rw [rdT_U] at h
  have hz : (rdU s a e).2.2 = 0 := by
    by_cases h0 : (rdU s a e).2.2 = 0
    · exact h0
    · rw [if_neg h0] at h
      exact absurd (Prod.mk.inj (Prod.mk.inj h).2).2 h0
  rw [if_pos hz] at h
  split at h
  · exact absurd (Prod.mk.inj (Prod.mk.inj h).2).2 (by decide)
  split at h
  · exact absurd (Prod.mk.inj (Prod.mk.inj h).2).2 (by decide)
  rename_i h5
  unfold rdU at h hz h5
  by_cases h0 : e = 0
  · rw [if_pos h0] at hz h h5
    simp only at hz h h5
    obtain ⟨e1, e2⟩ := Prod.mk.inj h
    obtain ⟨e3, e4⟩ := Prod.mk.inj e2
    generalize hA : s.data.toList.drop a = A at *
    have hv : vdec A = ((vdec A).1, (vdec A).2.1, 0) := by rw [← hz]
    obtain ⟨_, h2, h3, h4, _⟩ := vdec_ok hv
    refine ⟨h0, ?_⟩
    have hd : s.data.toList.drop (a + (vdec A).2.1) = A.drop (vdec A).2.1 := by rw [← hA, List.drop_drop]
    have hs := congrArg List.length hA
    rw [List.length_drop, size_len] at hs
    rw [hd] at e1
    have hx : x.length = (vdec A).1 := by rw [← e1, List.length_take, List.length_drop]; omega
    unfold rem
    rw [hA, ← e3, ← List.drop_drop, hd, textL, hx, ← h4, ← e1, List.append_assoc, List.take_append_drop, List.take_append_drop]
  · rw [if_neg h0] at hz
    exact absurd hz h0
theorem rdL_bw {s : ByteArray} : ∀ {n : Nat} {a e b : Nat} {l : List Int}, rdL s n a e = (l, b, 0) → (e = 0) ∧ l.length = n ∧ rem s a = numsL l ++ rem s b
  | 0, a, e, b, l, h => by
    rw [rdL] at h
    obtain ⟨e1, e2⟩ := Prod.mk.inj h
    obtain ⟨e3, e4⟩ := Prod.mk.inj e2
    subst e1; subst e3
    exact ⟨e4, rfl, by simp [numsL]⟩
  | n + 1, a, e, b, l, h => by
    rw [rdL] at h
    obtain ⟨e1, e2⟩ := Prod.mk.inj h
    obtain ⟨h3, h4, h5⟩ := rdL_bw (l := (rdL s n (rdS s a e 1099511627776).2.1 (rdS s a e 1099511627776).2.2).1) (show rdL s n _ _ = (_, b, 0) by rw [← e2])
    obtain ⟨h6, h7⟩ := rdS_bw (show rdS s a e 1099511627776 = (_, _, 0) by rw [← h3])
    subst e1
    refine ⟨h6, by rw [List.length_cons, h4], ?_⟩
    rw [h7, h5]
    simp [numsL]
theorem endV_bw {s : ByteArray} {a e : Nat} (h : endV s a e = 0) : e = 0 ∧ rem s a = [] := by
  unfold endV at h
  split at h
  · rename_i h0
    split at h
    · omega
    · refine ⟨h0, ?_⟩
      unfold rem
      rw [List.drop_eq_nil_iff, size_len]
      omega
  · rename_i h0
    exact absurd h h0
end Go.Proofs.Ytgaodeffbgppmaa

namespace Go.Proofs.Ytgaodeffbgppmaa
open Go.X
open P4
open P5
theorem tri_eta {α : Type} {x : α × Nat × Nat} (h : x.2.2 = 0) : x = (x.1, x.2.1, 0) := by
  obtain ⟨a, b, c⟩ := x
  simp only at h
  rw [h]
theorem pdec_fw (x : Pk) (h : chk x = 0) : dec (mkS (encL x)) = (x, 0) := by
  obtain ⟨hr, hp, hm, hun, _⟩ := enc_le x h
  have hem := enc_m h
  have d0 : rem (mkS (encL x)) 0 = encL x ++ [] := by simp [rem]
  have hck := h
  generalize hs : mkS (encL x) = s at d0 ⊢
  obtain ⟨k, fr, to, w, r, q, f, la, t, m, p⟩ := x
  unfold rngP at hr
  unfold unuP at hun
  simp only at hr hun hp hm hem
  have d1 : rem s 0 = venc k.toNat ++ (venc fr.toNat ++ (venc to.toNat ++ (venc w.toNat ++ (venc r.toNat ++ ((if k = 1 ∨ k = 4 ∨ k = 5 then venc q.toNat else []) ++ ((if k = 2 ∨ k = 3 ∨ k = 4 then venc f.toNat ++ venc la.toNat else []) ++
    (venc t.toNat ++ ((if k = 3 then venc m.length ++ numsL m else []) ++ ((if k = 1 ∨ k = 5 then textL p else []) ++ []))))))))) := by
    rw [d0]
    simp [encL, numsL]
  obtain ⟨a1, e1, d2⟩ := rdS_fw (m := 5) (by omega) (by omega) d1
  obtain ⟨a2, e2, d3⟩ := rdS_fw (m := 1099511627776) (by omega) (by omega) d2
  obtain ⟨a3, e3, d4⟩ := rdS_fw (m := 1099511627776) (by omega) (by omega) d3
  obtain ⟨a4, e4, d5⟩ := rdS_fw (m := 1099511627776) (by omega) (by omega) d4
  obtain ⟨a5, e5, d6⟩ := rdS_fw (m := 1099511627776) (by omega) (by omega) d5
  have hq : ∃ a, st s (k.toNat = 1 ∨ k.toNat = 4 ∨ k.toNat = 5) (a5, 0) = (q.toNat, a, 0) ∧ rem s a = ((if k = 2 ∨ k = 3 ∨ k = 4 then venc f.toNat ++ venc la.toNat else []) ++
    (venc t.toNat ++ ((if k = 3 then venc m.length ++ numsL m else []) ++ ((if k = 1 ∨ k = 5 then textL p else []) ++ [])))) := by
    unfold st
    by_cases hk : k = 1 ∨ k = 4 ∨ k = 5
    · rw [if_pos (by omega)]
      rw [if_pos hk] at d6
      exact rdS_fw (by omega) (by omega) d6
    · rw [if_neg (by omega)]
      rw [if_neg hk] at d6
      exact ⟨a5, by rw [show q = 0 by omega]; rfl, d6⟩
  obtain ⟨a6, e6, d7⟩ := hq
  have hf : ∃ a b, st s (k.toNat = 2 ∨ k.toNat = 3 ∨ k.toNat = 4) (a6, 0) = (f.toNat, a, 0) ∧ st s (k.toNat = 2 ∨ k.toNat = 3 ∨ k.toNat = 4) (a, 0) = (la.toNat, b, 0) ∧ rem s b =
    (venc t.toNat ++ ((if k = 3 then venc m.length ++ numsL m else []) ++ ((if k = 1 ∨ k = 5 then textL p else []) ++ []))) := by
    unfold st
    by_cases hk : k = 2 ∨ k = 3 ∨ k = 4
    · rw [if_pos hk, List.append_assoc] at d7
      obtain ⟨a, e, d⟩ := rdS_fw (m := 1099511627776) (by omega) (by omega) d7
      obtain ⟨b, e', d'⟩ := rdS_fw (m := 1099511627776) (by omega) (by omega) d
      exact ⟨a, b, by rw [if_pos (by omega)]; exact e, by rw [if_pos (by omega)]; exact e', d'⟩
    · rw [if_neg hk] at d7
      exact ⟨a6, a6, by rw [if_neg (by omega), show f = 0 by omega]; rfl, by rw [if_neg (by omega), show la = 0 by omega]; rfl, d7⟩
  obtain ⟨a7, a8, e7, e8, d8⟩ := hf
  obtain ⟨a9, e9, d9⟩ := rdS_fw (m := 1099511627776) (by omega) (by omega) d8
  have hm : ∃ n a b, (if k.toNat = 3 then rdS s a9 0 32 else (0, a9, 0)) = (n, a, 0) ∧ rdL s n a 0 = (m, b, 0) ∧ rem s b = ((if k = 1 ∨ k = 5 then textL p else []) ++ []) := by
    by_cases hk : k = 3
    · rw [if_pos hk, List.append_assoc] at d9
      obtain ⟨a, e, d⟩ := rdS_fw (m := 32) (by omega) (by omega) d9
      obtain ⟨b, e', d'⟩ := rdL_fw hem d
      exact ⟨m.length, a, b, by rw [if_pos (by omega)]; exact e, e', d'⟩
    · rw [if_neg hk] at d9
      have hm0 : m = [] := List.length_eq_zero_iff.1 (by omega)
      subst hm0
      exact ⟨0, a9, a9, by rw [if_neg (by omega)], rfl, d9⟩
  obtain ⟨n, a10, a11, e10, e11, d10⟩ := hm
  have ht : ∃ a, (if k.toNat = 1 ∨ k.toNat = 5 then rdT s a11 0 2000 else ([], a11, 0)) = (p, a, 0) ∧ rem s a = [] := by
    by_cases hk : k = 1 ∨ k = 5
    · rw [if_pos hk] at d10
      rw [if_pos (by omega)]
      exact rdT_fw (by omega) (by omega) d10
    · rw [if_neg hk] at d10
      rw [if_neg (by omega)]
      have hp0 : p = [] := Decidable.byContradiction fun hne => hun (by right; right; right; exact ⟨by omega, hne⟩)
      exact ⟨a11, by rw [hp0], d10⟩
  obtain ⟨a12, e12, d11⟩ := ht
  have hF : decF s k.toNat (a1, 0) = (⟨k, fr, to, w, r, q, f, la, t, m, p⟩, a12, 0) := by
    unfold decF
    simp only [e2, e3, e4, e5, e6, e7, e8, e9, e10, e11, e12]
    congr 1
    simp only [Pk.mk.injEq, and_true]
    omega
  rw [dec_of e1 rfl (by simp only; omega) hF, endV_fw d11, if_neg (by decide), if_neg (by simpa using hck)]

theorem pdec_bw (s : ByteArray) (h : (dec s).2 = 0) : s = mkS (encL (dec s).1) ∧ chk (dec s).1 = 0 := by
  unfold dec at h ⊢
  split at h
  · rename_i h0; exact absurd h h0
  rename_i h0
  rw [if_neg h0]
  split at h
  · exact absurd h (by decide)
  rename_i h1
  rw [if_neg h1]
  split at h
  · rename_i h2; exact absurd h h2
  rename_i h2
  rw [if_neg h2]
  split at h
  · rename_i h3; exact absurd h h3
  rename_i h3
  rw [if_neg h3]
  have hc : chk (decF s (rdS s 0 0 5).1 (rdS s 0 0 5).2).1 = 0 := by simpa using h3
  refine ⟨?_, hc⟩
  have h2 : endV s (decF s (rdS s 0 0 5).1 (rdS s 0 0 5).2).2.1 (decF s (rdS s 0 0 5).1 (rdS s 0 0 5).2).2.2 = 0 := by simpa using h2
  have h0 : (rdS s 0 0 5).2.2 = 0 := by simpa using h0
  obtain ⟨_, r0⟩ := rdS_bw (s := s) (a := 0) (e := 0) (m := 5) (n := (rdS s 0 0 5).1) (b := (rdS s 0 0 5).2.1) (tri_eta h0)
  have hx := rdS_max s 0 0 5 (by decide)
  have hk : (decF s (rdS s 0 0 5).1 (rdS s 0 0 5).2).1.k = ((rdS s 0 0 5).1 : Int) := rfl
  generalize hR : rdS s 0 0 5 = R at *
  obtain ⟨k, a0, e0⟩ := R
  simp only at *
  subst h0
  obtain ⟨z1, z2⟩ := endV_bw h2
  unfold decF at *
  simp only at *
  generalize g1 : rdS s a0 0 1099511627776 = v1 at *
  obtain ⟨fr, a1, e1⟩ := v1
  simp only at *
  generalize g2 : rdS s a1 e1 1099511627776 = v2 at *
  obtain ⟨to, a2, e2⟩ := v2
  simp only at *
  generalize g3 : rdS s a2 e2 1099511627776 = v3 at *
  obtain ⟨w, a3, e3⟩ := v3
  simp only at *
  generalize g4 : rdS s a3 e3 1099511627776 = v4 at *
  obtain ⟨r, a4, e4⟩ := v4
  simp only at *
  generalize g5 : st s (k = 1 ∨ k = 4 ∨ k = 5) (a4, e4) = v5 at *
  obtain ⟨q, a5, e5⟩ := v5
  simp only at *
  generalize g6 : st s (k = 2 ∨ k = 3 ∨ k = 4) (a5, e5) = v6 at *
  obtain ⟨f, a6, e6⟩ := v6
  simp only at *
  generalize g7 : st s (k = 2 ∨ k = 3 ∨ k = 4) (a6, e6) = v7 at *
  obtain ⟨la, a7, e7⟩ := v7
  simp only at *
  generalize g8 : rdS s a7 e7 1099511627776 = v8 at *
  obtain ⟨t, a8, e8⟩ := v8
  simp only at *
  generalize g9 : (if k = 3 then rdS s a8 e8 32 else (0, a8, e8)) = v9 at *
  obtain ⟨n, a9, e9⟩ := v9
  simp only at *
  generalize g10 : rdL s n a9 e9 = v10 at *
  obtain ⟨m, a10, e10⟩ := v10
  simp only at *
  generalize g11 : (if k = 1 ∨ k = 5 then rdT s a10 e10 2000 else ([], a10, e10)) = v11 at *
  obtain ⟨p, a11, e11⟩ := v11
  simp only at *
  subst z1
  have r11 : e10 = 0 ∧ rem s a10 = (if k = 1 ∨ k = 5 then textL p else []) ++ rem s a11 := by
    split at g11
    · rw [if_pos (by assumption)]; exact rdT_bw g11
    · rw [if_neg (by assumption)]; cases g11; exact ⟨rfl, rfl⟩
  obtain ⟨rfl, r11⟩ := r11
  obtain ⟨rfl, hmn, r10⟩ := rdL_bw g10
  have r9 : e8 = 0 ∧ rem s a8 = (if k = 3 then venc n else []) ++ rem s a9 ∧ (k ≠ 3 → n = 0) := by
    split at g9
    · rw [if_pos (by assumption)]; have := rdS_bw g9; exact ⟨this.1, this.2, fun h => absurd (by assumption) h⟩
    · rw [if_neg (by assumption)]; cases g9; exact ⟨rfl, rfl, fun _ => rfl⟩
  obtain ⟨rfl, r9, hn0⟩ := r9
  obtain ⟨rfl, r8⟩ := rdS_bw g8
  have r7 : e6 = 0 ∧ rem s a6 = (if k = 2 ∨ k = 3 ∨ k = 4 then venc la else []) ++ rem s a7 := by
    unfold st at g7
    split at g7
    · rw [if_pos (by assumption)]; exact rdS_bw g7
    · rw [if_neg (by assumption)]; cases g7; exact ⟨rfl, rfl⟩
  obtain ⟨rfl, r7⟩ := r7
  have r6 : e5 = 0 ∧ rem s a5 = (if k = 2 ∨ k = 3 ∨ k = 4 then venc f else []) ++ rem s a6 := by
    unfold st at g6
    split at g6
    · rw [if_pos (by assumption)]; exact rdS_bw g6
    · rw [if_neg (by assumption)]; cases g6; exact ⟨rfl, rfl⟩
  obtain ⟨rfl, r6⟩ := r6
  have r5 : e4 = 0 ∧ rem s a4 = (if k = 1 ∨ k = 4 ∨ k = 5 then venc q else []) ++ rem s a5 := by
    unfold st at g5
    split at g5
    · rw [if_pos (by assumption)]; exact rdS_bw g5
    · rw [if_neg (by assumption)]; cases g5; exact ⟨rfl, rfl⟩
  obtain ⟨rfl, r5⟩ := r5
  obtain ⟨rfl, r4⟩ := rdS_bw g4
  obtain ⟨rfl, r3⟩ := rdS_bw g3
  obtain ⟨rfl, r2⟩ := rdS_bw g2
  obtain ⟨_, r1⟩ := rdS_bw g1
  have hs : s.data.toList = encL ⟨k, fr, to, w, r, q, f, la, t, m, p⟩ := by
    have : s.data.toList = rem s 0 := by simp [rem]
    rw [this, r0, r1, r2, r3, r4, r5, r6, r7, r8, r9, r10, r11, z2]
    unfold encL
    simp only [numsL, List.flatMap_cons, List.flatMap_nil, Int.toNat_natCast, List.append_assoc, List.append_nil, hmn]
    rcases (by omega : k = 1 ∨ k = 2 ∨ k = 3 ∨ k = 4 ∨ k = 5) with rfl | rfl | rfl | rfl | rfl
    · have : m = [] := List.length_eq_zero_iff.1 (by rw [hmn]; exact hn0 (by decide))
      subst this; simp
    · have : m = [] := List.length_eq_zero_iff.1 (by rw [hmn]; exact hn0 (by decide))
      subst this; simp
    · simp
    · have : m = [] := List.length_eq_zero_iff.1 (by rw [hmn]; exact hn0 (by decide))
      subst this; simp
    · have : m = [] := List.length_eq_zero_iff.1 (by rw [hmn]; exact hn0 (by decide))
      subst this; simp
  rw [← hs, mkS_of]
end Go.Proofs.Ytgaodeffbgppmaa

namespace Go.Proofs.Ytgaodeffbgppmaa
open Go.X
open P4
open P5
theorem open_seal (b : List UInt8) : openL (sealL b) = (b, 0) := by
  have h : (sealL b).drop 4 = b := by
    unfold sealL
    rw [List.drop_append_of_le_length (by rw [le_length]; exact Nat.le_refl _), List.drop_of_length_le (by rw [le_length]; exact Nat.le_refl _), List.nil_append]
  have h4 : ¬ (sealL b).length < 4 := by
    unfold sealL
    rw [List.length_append, le_length]
    omega
  unfold openL
  rw [if_neg h4, h, if_pos rfl]
theorem open_bw {l : List UInt8} (h : (openL l).2 = 0) : sealL (openL l).1 = l := by
  unfold openL at h ⊢
  split at h
  · exact absurd h (by decide)
  rename_i h1
  rw [if_neg h1]
  split at h
  · rename_i h2
    rw [if_pos h2]
    exact h2
  · exact absurd h (by decide)
theorem unf_fw {f : Fg} (h : okF f) : unf (frameL f) = (f, 0) := by
  have hf : frameL f = sealL (frmL f) := if_pos h
  unfold unf
  rw [hf, open_seal]
  simp only [ne_eq, not_true_eq_false, if_false]
  have hk := h
  unfold okF at h
  have d0 : rem (mkS (frmL f)) 0 = venc f.id.toNat ++ (venc f.ix.toNat ++ (venc f.ct.toNat ++ (textL f.d ++ []))) := by simp [rem, frmL]
  generalize mkS (frmL f) = s at d0 ⊢
  obtain ⟨a1, e1, d1⟩ := rdS_fw (m := 1099511627776) (by omega) (by omega) d0
  obtain ⟨a2, e2, d2⟩ := rdS_fw (m := 64) (by omega) (by omega) d1
  obtain ⟨a3, e3, d3⟩ := rdS_fw (m := 64) (by omega) (by omega) d2
  obtain ⟨a4, e4, d4⟩ := rdT_fw (m := 4000) (by omega) (by omega) d3
  have hF : unfF s = (f, a4, 0) := by
    unfold unfF
    simp only [e1, e2, e3, e4]
    rw [Int.toNat_of_nonneg (by omega), Int.toNat_of_nonneg (by omega), Int.toNat_of_nonneg (by omega)]
  rw [unfS_of hF, endV_fw d4, if_neg (by decide), if_neg (by simpa using hk)]
theorem unf_bw {l : List UInt8} (h : (unf l).2 = 0) : frameL (unf l).1 = l ∧ okF (unf l).1 := by
  unfold unf at h ⊢
  split at h
  · rename_i h0
    exact absurd h h0
  rename_i h0
  rw [if_neg h0]
  have h0 : (openL l).2 = 0 := by simpa using h0
  have hl := open_bw h0
  generalize (openL l).1 = b at *
  unfold unfS at h ⊢
  split at h
  · rename_i h1
    exact absurd h h1
  rename_i h1
  rw [if_neg h1]
  split at h
  · exact absurd h (by decide)
  rename_i h2
  rw [if_neg h2]
  have h2 : okF (unfF (mkS b)).1 := by simpa using h2
  have h1 : endV (mkS b) (unfF (mkS b)).2.1 (unfF (mkS b)).2.2 = 0 := by simpa using h1
  obtain ⟨z1, z2⟩ := endV_bw h1
  refine ⟨?_, h2⟩
  unfold frameL
  rw [if_pos h2]
  rw [← hl]
  congr 1
  have hb : b = rem (mkS b) 0 := by simp [rem]
  generalize hs : mkS b = s at *
  unfold unfF at *
  simp only at *
  generalize g1 : rdS s 0 0 1099511627776 = v1 at *
  obtain ⟨a, a1, e1⟩ := v1
  simp only at *
  generalize g2 : rdS s a1 e1 64 = v2 at *
  obtain ⟨c, a2, e2⟩ := v2
  simp only at *
  generalize g3 : rdS s a2 e2 64 = v3 at *
  obtain ⟨d, a3, e3⟩ := v3
  simp only at *
  generalize g4 : rdT s a3 e3 4000 = v4 at *
  obtain ⟨t, a4, e4⟩ := v4
  simp only at *
  subst z1
  obtain ⟨rfl, r3⟩ := rdT_bw g4
  obtain ⟨rfl, r2⟩ := rdS_bw g3
  obtain ⟨rfl, r1⟩ := rdS_bw g2
  obtain ⟨_, r0⟩ := rdS_bw g1
  rw [hb, r0, r1, r2, r3, z2, frmL]
  simp
end Go.Proofs.Ytgaodeffbgppmaa

namespace Go.Proofs.Ytgaodeffbgppmaa
open Go.X
set_option linter.unusedSimpArgs false
set_option linter.unusedVariables false
open P4
open P5
set_option maxRecDepth 10000 in
theorem cSame (x y : Pk) (wa wb : Bool) (c c' : Nat) (hl : x.m.length ≤ 1000000) :
    Ctr Try.prog 24 [.a (encP (.sl 0 0 1 0 x.m.length c) x), .a (encP (.sl 1 0 1 0 y.m.length c') y)] [.one (ints wa x.m c), .one (ints wb y.m c')]
      fun v h => v = .c (.b (decide (x = y))) ∧ h = [.one (ints wa x.m c), .one (ints wb y.m c')] := by
  refine Ctr.mk' tbv mixed Try.func24 rfl rfl rfl (fun _ _ => by kernel_rfl) (by kernel_rfl) (by rfl) (by rfl) (by (repeat' first | refine And.intro ?_ ?_ | exact xeC | fail)) ?_
  repeat' (first | (fail_if_success (with_reducible refine xstp ?_)); first | ((with_reducible refine And.intro (fun (hb : _ = true) => ?_) (fun (hb : _ = false) => ?_)) <;> replace hb := xnC hb <;> (try first | exact xfC | exact bff hb (by assumption) | exact bff (by assumption) hb)) | (with_reducible refine Both.mk ?_ ?_) | ((with_reducible refine And.intro ?_ ?_); focus exact xoC) | ((with_reducible refine Or.inl ⟨?_, ?_, ?_⟩); (focus rfl); focus exact xaC) | ((with_reducible refine xwB ?_ ?_); focus exact xaC) | ((with_reducible refine xwC ?_ ?_); focus exact xaC) | ((with_reducible refine xwD ?_ ?_); focus exact xaC) | ((with_reducible refine xwE ?_ ?_); focus exact xaC) | (with_reducible intro hc; (try simp only [capsP, and_true] at hc); (try exact xfC)) | ((fail_if_success (with_reducible first | refine xgon ?_ | intro _)); (conv => whnf); (fail_if_success (fail_if_success (with_reducible first | refine xstp ?_ | refine Both.mk ?_ ?_ | refine xgon ?_ | intro _)))))
  · rw [show decide (x = y) = false from decide_eq_false (fun e => by rw [e] at hb; exact hb rfl)]
    refine FinK.mk ⟨[0, 1], _, _, ⟨rfl, rfl⟩, ?_⟩; (repeat' first | refine And.intro ?_ ?_ | exact xeC | fail)
  have hm := hb
  refine LoopK.mk' {i : Nat // i ≤ x.m.length ∧ ∀ j, j < i → x.m.getD j default = y.m.getD j default}
    (fun ⟨i, _⟩ => ⟨[(2, .c (.p 2 0 0)), (3, .c (.p 3 0 0)), (5, .c (.i .i64 (i : Nat)))], [.one (ints wa x.m c), .one (ints wb y.m c'), .one (.cells true (encP (.sl 0 0 1 0 x.m.length c) x)), .one (.cells true (encP (.sl 1 0 1 0 y.m.length c') y))]⟩) (fun k => x.m.length - k.1)
    ⟨⟨0, Nat.zero_le _, by intro j h; omega⟩, [0, 1, 2, 3], ?_⟩ ?_
  · (repeat' first | refine And.intro ?_ ?_ | exact xeC | fail)
  rintro ⟨i, hi, hno⟩
  repeat' (first | (fail_if_success (with_reducible refine xstp ?_)); first | ((with_reducible refine And.intro (fun (hb : _ = true) => ?_) (fun (hb : _ = false) => ?_)) <;> replace hb := xnC hb <;> (try first | exact xfC | exact bff hb (by assumption) | exact bff (by assumption) hb)) | (with_reducible refine Both.mk ?_ ?_) | ((with_reducible refine And.intro ?_ ?_); focus exact xoC) | ((with_reducible refine Or.inl ⟨?_, ?_, ?_⟩); (focus rfl); focus exact xaC) | ((with_reducible refine xwB ?_ ?_); focus exact xaC) | ((with_reducible refine xwC ?_ ?_); focus exact xaC) | ((with_reducible refine xwD ?_ ?_); focus exact xaC) | ((with_reducible refine xwE ?_ ?_); focus exact xaC) | (with_reducible intro hc; (try simp only [capsP, and_true] at hc); (try exact xfC)) | ((fail_if_success (with_reducible first | refine xgon ?_ | intro _)); (conv => whnf); (fail_if_success (fail_if_success (with_reducible first | refine xstp ?_ | refine Both.mk ?_ ?_ | refine xgon ?_ | intro _)))))
  all_goals first
    | (rw [show decide (x = y) = false from decide_eq_false (fun e => by subst e; first | exact hb rfl | exact absurd rfl ‹¬ _›)]
       refine FinK.mk ⟨[0, 1], _, _, ⟨rfl, rfl⟩, ?_⟩; (repeat' first | refine And.intro ?_ ?_ | exact xeC | fail)
       done)
    | (refine ⟨⟨i + 1, by omega, fun j hj => ?_⟩, [0, 1, 2, 3], by simp only; omega, ?_⟩
       · rcases (by omega : j < i ∨ j = i) with h | rfl
         · exact hno j h
         · exact hb
       · (repeat' first | refine And.intro ?_ ?_ | exact xeC | fail)
       done)
    | skip
  have hmm : x.m = y.m := by
    apply List.ext_getElem (by omega)
    intro j h1 h2
    have := hno j (by omega)
    rwa [getD_at h1, getD_at h2] at this
  have he : decide (mkS x.p = mkS y.p) = decide (x = y) := by
    by_cases h : x.p = y.p
    · rw [decide_eq_true (by rw [h]), decide_eq_true]
      cases x; cases y
      simp only [Pk.mk.injEq] at *
      exact ⟨by assumption, by assumption, by assumption, by assumption, by assumption, by assumption, by assumption, by assumption, by assumption, hmm, h⟩
    · rw [decide_eq_false (fun e => h (mkS_inj.1 e)), decide_eq_false (fun e => h (by rw [e]))]
  rw [he]
  refine FinK.mk ⟨[0, 1], _, _, ⟨rfl, rfl⟩, ?_⟩; (repeat' first | refine And.intro ?_ ?_ | exact xeC | fail)

theorem dec_no {s : ByteArray} (h : (dec s).2 ≠ 0) : (dec s).1 = pk0 := by
  unfold dec at h ⊢
  split
  · rfl
  rename_i h0
  rw [if_neg h0] at h
  split
  · rfl
  rename_i h1
  rw [if_neg h1] at h
  split
  · rfl
  rename_i h2
  rw [if_neg h2] at h
  split
  · rfl
  rename_i h3
  rw [if_neg h3] at h
  exact absurd rfl h
theorem dec_m (s : ByteArray) : (dec s).1.m.length ≤ 32 := by
  by_cases h : (dec s).2 = 0
  · exact (enc_le _ (pdec_bw s h).2).2.2.1
  · rw [dec_no h]
    exact Nat.zero_le _
theorem enc_len (x : Pk) (h : chk x = 0) : (encL x).length ≤ 3000 := by
  obtain ⟨_, hp, hm, _, _⟩ := enc_le x h
  have h1 := numsL_le [x.k, x.fr, x.to, x.w, x.r]
  have h2 := numsL_le [x.q]
  have h3 := numsL_le [x.f, x.la]
  have h4 := numsL_le [x.at']
  have h5 := numsL_le [(x.m.length : Nat)]
  have h6 := numsL_le x.m
  have h7 := venc_le x.p.length
  simp only [List.length_cons, List.length_nil] at h1 h2 h3 h4 h5
  unfold encL textL
  simp only [List.length_append]
  have e1 : (if x.k = 1 ∨ x.k = 4 ∨ x.k = 5 then numsL [x.q] else []).length ≤ 10 := by split <;> first | omega | exact Nat.zero_le _
  have e2 : (if x.k = 2 ∨ x.k = 3 ∨ x.k = 4 then numsL [x.f, x.la] else []).length ≤ 20 := by split <;> first | omega | exact Nat.zero_le _
  have e3 : (if x.k = 3 then numsL [(x.m.length : Nat)] ++ numsL x.m else []).length ≤ 330 := by
    split
    · rw [List.length_append]; omega
    · exact Nat.zero_le _
  have e4 : (if x.k = 1 ∨ x.k = 5 then venc x.p.length ++ x.p else []).length ≤ 2010 := by
    split
    · rw [List.length_append]; omega
    · exact Nat.zero_le _
  omega

theorem rH15sB0 {σ : List Sg} {H h' : List Fam} {v : T} {K : T → List Fam → Prop} {H' : List Fam} {v' : T} {N : Nat} (hk : K v' H') (hN : H.length = N := by (try simp only [↓List.length_cons, ↓List.length_nil, Nat.reduceAdd]) <;> rfl) (h : givesF σ N H σ h' = some H' := by (try simp (maxSteps := 1000000) only [givesF, setF, updF, Fam.zeroth, Fam.rk, Ck.rk, C.rk, E.rk, T.rk, key, List.map_cons, List.map_nil, List.cons_append, List.nil_append, List.length_cons, List.length_nil, Option.map_some, Option.bind_some, Nat.reduceAdd, Nat.zero_add, Nat.add_zero, Nat.add_sub_cancel_left, Int.toNat_natCast, reps, List.all_cons, List.all_nil, C.flat, List.append_eq, Bool.not_true, Bool.and_true, Bool.or_false, Bool.or_self, Bool.not_false, List.append_nil, Bool.and_self, encP, encG]) <;> rfl) (hv : v.rk σ N = v' := by (try simp only [givesF, setF, updF, Fam.zeroth, Fam.rk, Ck.rk, C.rk, E.rk, T.rk, key, List.map_cons, List.map_nil, List.cons_append, List.nil_append, List.length_cons, List.length_nil, Option.map_some, Option.bind_some, Nat.reduceAdd, Nat.zero_add, Nat.add_zero, Nat.add_sub_cancel_left, Int.toNat_natCast, reps, List.all_cons, List.all_nil, C.flat, List.append_eq, Bool.not_true, Bool.and_true, Bool.or_false, Bool.or_self, Bool.not_false, List.append_nil, Bool.and_self, encP, encG]) <;> rfl) : RetG σ H h' v K := ret_mk3 hN h hv hk
theorem rH15sB1 {σ : List Sg} {H h' : List Fam} {v : T} {K : T → List Fam → Prop} {H' : List Fam} {v' : T} {N : Nat} (hk : K v' H') (hN : H.length = N := by (try simp only [↓List.length_cons, ↓List.length_nil, Nat.reduceAdd]) <;> rfl) (h : givesF σ N H σ h' = some H' := by (try simp (maxSteps := 1000000) only [givesF, setF, updF, Fam.zeroth, Fam.rk, Ck.rk, C.rk, E.rk, T.rk, key, List.map_cons, List.map_nil, List.cons_append, List.nil_append, List.length_cons, List.length_nil, Option.map_some, Option.bind_some, Nat.reduceAdd, Nat.zero_add, Nat.add_zero, Nat.add_sub_cancel_left, Int.toNat_natCast, reps, List.all_cons, List.all_nil, C.flat, List.append_eq, Bool.not_true, Bool.and_true, Bool.or_false, Bool.or_self, Bool.not_false, List.append_nil, Bool.and_self, encP]) <;> rfl) (hv : v.rk σ N = v' := by (try simp only [givesF, setF, updF, Fam.zeroth, Fam.rk, Ck.rk, C.rk, E.rk, T.rk, key, List.map_cons, List.map_nil, List.cons_append, List.nil_append, List.length_cons, List.length_nil, Option.map_some, Option.bind_some, Nat.reduceAdd, Nat.zero_add, Nat.add_zero, Nat.add_sub_cancel_left, Int.toNat_natCast, reps, List.all_cons, List.all_nil, C.flat, List.append_eq, Bool.not_true, Bool.and_true, Bool.or_false, Bool.or_self, Bool.not_false, List.append_nil, Bool.and_self, encP]) <;> rfl) : RetG σ H h' v K := ret_mk3 hN h hv hk
set_option maxRecDepth 20000 in
set_option maxHeartbeats 4000000 in
theorem ccodes (x : Pk) (c : Nat) (l : List UInt8) (hm : x.m.length ≤ 9223372036854775807) (hp : x.p.length ≤ 9223372036854775807) (hl : l.length ≤ 9223372036854775807) :
    Ctr Try.prog 5 [.a (encP (.sl 0 0 1 0 x.m.length c) x), .c (.s (mkS l))] [.one (ints false x.m c)] fun v _ => v = .c .tt := by
  have hz : (mkS x.p).size = x.p.length := rfl
  have hzl : (mkS l).size = l.length := rfl
  refine Ctr.mk' tbv mixed Try.func5 rfl rfl rfl (fun _ _ => by kernel_rfl) (by kernel_rfl) (by rfl) (by rfl) (by (repeat' first | refine And.intro ?_ ?_ | exact xeC | fail)) ?_
  repeat' (first | (fail_if_success (with_reducible refine xstp ?_)); first | ((with_reducible refine And.intro (fun (hb : _ = true) => ?_) (fun (hb : _ = false) => ?_)) <;> replace hb := xnC hb <;> (try first | exact xfC | exact bff hb (by assumption) | exact bff (by assumption) hb)) | (with_reducible refine Both.mk ?_ ?_) | ((with_reducible refine And.intro ?_ ?_); focus exact xoC) | ((with_reducible refine Or.inl ⟨?_, ?_, ?_⟩); (focus rfl); focus exact xaC) | ((with_reducible refine xwB ?_ ?_); focus exact xaC) | ((with_reducible refine xwC ?_ ?_); focus exact xaC) | ((with_reducible refine xwD ?_ ?_); focus exact xaC) | ((with_reducible refine xwE ?_ ?_); focus exact xaC) | (with_reducible intro hc; (try simp only [capsP, and_true] at hc); (try exact xfC)) | ((fail_if_success (with_reducible first | refine xgon ?_ | intro _)); (conv => whnf); (fail_if_success (fail_if_success (with_reducible first | refine xstp ?_ | refine Both.mk ?_ ?_ | refine xgon ?_ | intro _)))))
  · skip
    refine xcal (σ := []) (nl := []) (cawake) ?_
    rintro v h' ⟨rfl, rfl⟩ hcaps
    refine rH15sB0 ?_
    repeat' (first | (fail_if_success (with_reducible refine xstp ?_)); first | ((with_reducible refine And.intro (fun (hb : _ = true) => ?_) (fun (hb : _ = false) => ?_)) <;> replace hb := xnC hb <;> (try first | exact xfC | exact bff hb (by assumption) | exact bff (by assumption) hb)) | (with_reducible refine Both.mk ?_ ?_) | ((with_reducible refine And.intro ?_ ?_); focus exact xoC) | ((with_reducible refine Or.inl ⟨?_, ?_, ?_⟩); (focus rfl); focus exact xaC) | ((with_reducible refine xwB ?_ ?_); focus exact xaC) | ((with_reducible refine xwC ?_ ?_); focus exact xaC) | ((with_reducible refine xwD ?_ ?_); focus exact xaC) | ((with_reducible refine xwE ?_ ?_); focus exact xaC) | (with_reducible intro hc; (try simp only [capsP, and_true] at hc); (try exact xfC)) | ((fail_if_success (with_reducible first | refine xgon ?_ | intro _)); (conv => whnf); (fail_if_success (fail_if_success (with_reducible first | refine xstp ?_ | refine Both.mk ?_ ?_ | refine xgon ?_ | intro _)))))
    refine FinK.mk ⟨[0], _, [.one .no], rfl, ?_⟩
    (repeat' first | refine And.intro ?_ ?_ | exact xeC | fail)
  · skip
    refine xcal (σ := []) (nl := []) (cawake) ?_
    rintro v h' ⟨rfl, rfl⟩ hcaps
    refine rH15sB0 ?_
    repeat' (first | (fail_if_success (with_reducible refine xstp ?_)); first | ((with_reducible refine And.intro (fun (hb : _ = true) => ?_) (fun (hb : _ = false) => ?_)) <;> replace hb := xnC hb <;> (try first | exact xfC | exact bff hb (by assumption) | exact bff (by assumption) hb)) | (with_reducible refine Both.mk ?_ ?_) | ((with_reducible refine And.intro ?_ ?_); focus exact xoC) | ((with_reducible refine Or.inl ⟨?_, ?_, ?_⟩); (focus rfl); focus exact xaC) | ((with_reducible refine xwB ?_ ?_); focus exact xaC) | ((with_reducible refine xwC ?_ ?_); focus exact xaC) | ((with_reducible refine xwD ?_ ?_); focus exact xaC) | ((with_reducible refine xwE ?_ ?_); focus exact xaC) | (with_reducible intro hc; (try simp only [capsP, and_true] at hc); (try exact xfC)) | ((fail_if_success (with_reducible first | refine xgon ?_ | intro _)); (conv => whnf); (fail_if_success (fail_if_success (with_reducible first | refine xstp ?_ | refine Both.mk ?_ ?_ | refine xgon ?_ | intro _)))))
    refine FinK.mk ⟨[0], _, [.one .no], rfl, ?_⟩
    (repeat' first | refine And.intro ?_ ?_ | exact xeC | fail)
  · skip
    refine xcal (σ := []) (nl := []) (cawake) ?_
    rintro v h' ⟨rfl, rfl⟩ hcaps
    refine rH15sB0 ?_
    repeat' (first | (fail_if_success (with_reducible refine xstp ?_)); first | ((with_reducible refine And.intro (fun (hb : _ = true) => ?_) (fun (hb : _ = false) => ?_)) <;> replace hb := xnC hb <;> (try first | exact xfC | exact bff hb (by assumption) | exact bff (by assumption) hb)) | (with_reducible refine Both.mk ?_ ?_) | ((with_reducible refine And.intro ?_ ?_); focus exact xoC) | ((with_reducible refine Or.inl ⟨?_, ?_, ?_⟩); (focus rfl); focus exact xaC) | ((with_reducible refine xwB ?_ ?_); focus exact xaC) | ((with_reducible refine xwC ?_ ?_); focus exact xaC) | ((with_reducible refine xwD ?_ ?_); focus exact xaC) | ((with_reducible refine xwE ?_ ?_); focus exact xaC) | (with_reducible intro hc; (try simp only [capsP, and_true] at hc); (try exact xfC)) | ((fail_if_success (with_reducible first | refine xgon ?_ | intro _)); (conv => whnf); (fail_if_success (fail_if_success (with_reducible first | refine xstp ?_ | refine Both.mk ?_ ?_ | refine xgon ?_ | intro _)))))
    refine FinK.mk ⟨[0], _, [.one .no], rfl, ?_⟩
    (repeat' first | refine And.intro ?_ ?_ | exact xeC | fail)
  refine xcal (σ := [.whole 0]) (nl := []) (cEncode x false c (by omega) (by omega)) ?_
  rintro v h' ⟨rfl, rfl⟩ hcaps
  refine rH15sB1 ?_
  repeat' (first | (fail_if_success (with_reducible refine xstp ?_)); first | ((with_reducible refine And.intro (fun (hb : _ = true) => ?_) (fun (hb : _ = false) => ?_)) <;> replace hb := xnC hb <;> (try first | exact xfC | exact bff hb (by assumption) | exact bff (by assumption) hb)) | (with_reducible refine Both.mk ?_ ?_) | ((with_reducible refine And.intro ?_ ?_); focus exact xoC) | ((with_reducible refine Or.inl ⟨?_, ?_, ?_⟩); (focus rfl); focus exact xaC) | ((with_reducible refine xwB ?_ ?_); focus exact xaC) | ((with_reducible refine xwC ?_ ?_); focus exact xaC) | ((with_reducible refine xwD ?_ ?_); focus exact xaC) | ((with_reducible refine xwE ?_ ?_); focus exact xaC) | (with_reducible intro hc; (try simp only [capsP, and_true] at hc); (try exact xfC)) | ((fail_if_success (with_reducible first | refine xgon ?_ | intro _)); (conv => whnf); (fail_if_success (fail_if_success (with_reducible first | refine xstp ?_ | refine Both.mk ?_ ?_ | refine xgon ?_ | intro _)))))
  refine xcal (σ := [.whole 0]) (nl := []) (cEncodeR x false c (by omega) (by omega)) ?_
  rintro v h' ⟨rfl, rfl⟩ hcaps
  refine rH15sB1 ?_
  repeat' (first | (fail_if_success (with_reducible refine xstp ?_)); first | ((with_reducible refine And.intro (fun (hb : _ = true) => ?_) (fun (hb : _ = false) => ?_)) <;> replace hb := xnC hb <;> (try first | exact xfC | exact bff hb (by assumption) | exact bff (by assumption) hb)) | (with_reducible refine Both.mk ?_ ?_) | ((with_reducible refine And.intro ?_ ?_); focus exact xoC) | ((with_reducible refine Or.inl ⟨?_, ?_, ?_⟩); (focus rfl); focus exact xaC) | ((with_reducible refine xwB ?_ ?_); focus exact xaC) | ((with_reducible refine xwC ?_ ?_); focus exact xaC) | ((with_reducible refine xwD ?_ ?_); focus exact xaC) | ((with_reducible refine xwE ?_ ?_); focus exact xaC) | (with_reducible intro hc; (try simp only [capsP, and_true] at hc); (try exact xfC)) | ((fail_if_success (with_reducible first | refine xgon ?_ | intro _)); (conv => whnf); (fail_if_success (fail_if_success (with_reducible first | refine xstp ?_ | refine Both.mk ?_ ?_ | refine xgon ?_ | intro _)))))
  refine xcal (σ := []) (nl := []) (cDecode (mkS l) (by omega)) ?_
  rintro v h' ⟨c2, rfl, rfl⟩ hcaps
  refine rH15sB1 ?_
  repeat' (first | (fail_if_success (with_reducible refine xstp ?_)); first | ((with_reducible refine And.intro (fun (hb : _ = true) => ?_) (fun (hb : _ = false) => ?_)) <;> replace hb := xnC hb <;> (try first | exact xfC | exact bff hb (by assumption) | exact bff (by assumption) hb)) | (with_reducible refine Both.mk ?_ ?_) | ((with_reducible refine And.intro ?_ ?_); focus exact xoC) | ((with_reducible refine Or.inl ⟨?_, ?_, ?_⟩); (focus rfl); focus exact xaC) | ((with_reducible refine xwB ?_ ?_); focus exact xaC) | ((with_reducible refine xwC ?_ ?_); focus exact xaC) | ((with_reducible refine xwD ?_ ?_); focus exact xaC) | ((with_reducible refine xwE ?_ ?_); focus exact xaC) | (with_reducible intro hc; (try simp only [capsP, and_true] at hc); (try exact xfC)) | ((fail_if_success (with_reducible first | refine xgon ?_ | intro _)); (conv => whnf); (fail_if_success (fail_if_success (with_reducible first | refine xstp ?_ | refine Both.mk ?_ ?_ | refine xgon ?_ | intro _)))))
  refine xcal (σ := []) (nl := []) (cDecodeR (mkS l) (by omega)) ?_
  rintro v h' ⟨c3, rfl, rfl⟩ hcaps
  refine rH15sB1 ?_
  repeat' (first | (fail_if_success (with_reducible refine xstp ?_)); first | ((with_reducible refine And.intro (fun (hb : _ = true) => ?_) (fun (hb : _ = false) => ?_)) <;> replace hb := xnC hb <;> (try first | exact xfC | exact bff hb (by assumption) | exact bff (by assumption) hb)) | (with_reducible refine Both.mk ?_ ?_) | ((with_reducible refine And.intro ?_ ?_); focus exact xoC) | ((with_reducible refine Or.inl ⟨?_, ?_, ?_⟩); (focus rfl); focus exact xaC) | ((with_reducible refine xwB ?_ ?_); focus exact xaC) | ((with_reducible refine xwC ?_ ?_); focus exact xaC) | ((with_reducible refine xwD ?_ ?_); focus exact xaC) | ((with_reducible refine xwE ?_ ?_); focus exact xaC) | (with_reducible intro hc; (try simp only [capsP, and_true] at hc); (try exact xfC)) | ((fail_if_success (with_reducible first | refine xgon ?_ | intro _)); (conv => whnf); (fail_if_success (fail_if_success (with_reducible first | refine xstp ?_ | refine Both.mk ?_ ?_ | refine xgon ?_ | intro _)))))
  refine xcal (σ := [.whole 0]) (nl := []) (cCheck x false c (by omega) (by omega)) ?_
  rintro v h' ⟨rfl, rfl⟩ hcaps
  refine rH15sB1 ?_
  repeat' (first | (fail_if_success (with_reducible refine xstp ?_)); first | ((with_reducible refine And.intro (fun (hb : _ = true) => ?_) (fun (hb : _ = false) => ?_)) <;> replace hb := xnC hb <;> (try first | exact xfC | exact bff hb (by assumption) | exact bff (by assumption) hb)) | (with_reducible refine Both.mk ?_ ?_) | ((with_reducible refine And.intro ?_ ?_); focus exact xoC) | ((with_reducible refine Or.inl ⟨?_, ?_, ?_⟩); (focus rfl); focus exact xaC) | ((with_reducible refine xwB ?_ ?_); focus exact xaC) | ((with_reducible refine xwC ?_ ?_); focus exact xaC) | ((with_reducible refine xwD ?_ ?_); focus exact xaC) | ((with_reducible refine xwE ?_ ?_); focus exact xaC) | (with_reducible intro hc; (try simp only [capsP, and_true] at hc); (try exact xfC)) | ((fail_if_success (with_reducible first | refine xgon ?_ | intro _)); (conv => whnf); (fail_if_success (fail_if_success (with_reducible first | refine xstp ?_ | refine Both.mk ?_ ?_ | refine xgon ?_ | intro _)))))
  refine xcal (σ := [.whole 0]) (nl := []) (cCheckR x false c (by omega) (by omega)) ?_
  rintro v h' ⟨rfl, rfl⟩ hcaps
  refine rH15sB1 ?_
  repeat' (first | (fail_if_success (with_reducible refine xstp ?_)); first | ((with_reducible refine And.intro (fun (hb : _ = true) => ?_) (fun (hb : _ = false) => ?_)) <;> replace hb := xnC hb <;> (try first | exact xfC | exact bff hb (by assumption) | exact bff (by assumption) hb)) | (with_reducible refine Both.mk ?_ ?_) | ((with_reducible refine And.intro ?_ ?_); focus exact xoC) | ((with_reducible refine Or.inl ⟨?_, ?_, ?_⟩); (focus rfl); focus exact xaC) | ((with_reducible refine xwB ?_ ?_); focus exact xaC) | ((with_reducible refine xwC ?_ ?_); focus exact xaC) | ((with_reducible refine xwD ?_ ?_); focus exact xaC) | ((with_reducible refine xwE ?_ ?_); focus exact xaC) | (with_reducible intro hc; (try simp only [capsP, and_true] at hc); (try exact xfC)) | ((fail_if_success (with_reducible first | refine xgon ?_ | intro _)); (conv => whnf); (fail_if_success (fail_if_success (with_reducible first | refine xstp ?_ | refine Both.mk ?_ ?_ | refine xgon ?_ | intro _)))))
  refine xcal (σ := [.whole 2, .whole 4]) (nl := []) (cSame (dec (mkS l)).1 (dec (mkS l)).1 true true c2 c3 (by have := dec_m (mkS l); omega)) ?_
  rintro v h' ⟨rfl, rfl⟩ hcaps
  rw [decide_eq_true rfl]
  refine rH15sB1 ?_
  repeat' (first | (fail_if_success (with_reducible refine xstp ?_)); first | ((with_reducible refine And.intro (fun (hb : _ = true) => ?_) (fun (hb : _ = false) => ?_)) <;> replace hb := xnC hb <;> (try first | exact xfC | exact bff hb (by assumption) | exact bff (by assumption) hb)) | (with_reducible refine Both.mk ?_ ?_) | ((with_reducible refine And.intro ?_ ?_); focus exact xoC) | ((with_reducible refine Or.inl ⟨?_, ?_, ?_⟩); (focus rfl); focus exact xaC) | ((with_reducible refine xwB ?_ ?_); focus exact xaC) | ((with_reducible refine xwC ?_ ?_); focus exact xaC) | ((with_reducible refine xwD ?_ ?_); focus exact xaC) | ((with_reducible refine xwE ?_ ?_); focus exact xaC) | (with_reducible intro hc; (try simp only [capsP, and_true] at hc); (try exact xfC)) | ((fail_if_success (with_reducible first | refine xgon ?_ | intro _)); (conv => whnf); (fail_if_success (fail_if_success (with_reducible first | refine xstp ?_ | refine Both.mk ?_ ?_ | refine xgon ?_ | intro _)))))
  · rename_i hck
    have hck : chk x = 0 := by omega
    have hle : (encL x).length ≤ 1000000 := by have := enc_len x hck; omega
    rw [if_pos hck]
    refine xcal (σ := []) (nl := []) (cDecode (mkS (encL x)) (by rw [mkS_size]; exact hle)) ?_
    rintro v h' ⟨c4, rfl, rfl⟩ hcaps
    rw [pdec_fw x hck]
    refine rH15sB1 ?_
    repeat' (first | (fail_if_success (with_reducible refine xstp ?_)); first | ((with_reducible refine And.intro (fun (hb : _ = true) => ?_) (fun (hb : _ = false) => ?_)) <;> replace hb := xnC hb <;> (try first | exact xfC | exact bff hb (by assumption) | exact bff (by assumption) hb)) | (with_reducible refine Both.mk ?_ ?_) | ((with_reducible refine And.intro ?_ ?_); focus exact xoC) | ((with_reducible refine Or.inl ⟨?_, ?_, ?_⟩); (focus rfl); focus exact xaC) | ((with_reducible refine xwB ?_ ?_); focus exact xaC) | ((with_reducible refine xwC ?_ ?_); focus exact xaC) | ((with_reducible refine xwD ?_ ?_); focus exact xaC) | ((with_reducible refine xwE ?_ ?_); focus exact xaC) | (with_reducible intro hc; (try simp only [capsP, and_true] at hc); (try exact xfC)) | ((fail_if_success (with_reducible first | refine xgon ?_ | intro _)); (conv => whnf); (fail_if_success (fail_if_success (with_reducible first | refine xstp ?_ | refine Both.mk ?_ ?_ | refine xgon ?_ | intro _)))))
    refine xcal (σ := [.whole 6, .whole 0]) (nl := []) (cSame x x true false c4 c (by omega)) ?_
    rintro v h' ⟨rfl, rfl⟩ hcaps
    rw [decide_eq_true rfl]
    refine rH15sB1 ?_
    repeat' (first | (fail_if_success (with_reducible refine xstp ?_)); first | ((with_reducible refine And.intro (fun (hb : _ = true) => ?_) (fun (hb : _ = false) => ?_)) <;> replace hb := xnC hb <;> (try first | exact xfC | exact bff hb (by assumption) | exact bff (by assumption) hb)) | (with_reducible refine Both.mk ?_ ?_) | ((with_reducible refine And.intro ?_ ?_); focus exact xoC) | ((with_reducible refine Or.inl ⟨?_, ?_, ?_⟩); (focus rfl); focus exact xaC) | ((with_reducible refine xwB ?_ ?_); focus exact xaC) | ((with_reducible refine xwC ?_ ?_); focus exact xaC) | ((with_reducible refine xwD ?_ ?_); focus exact xaC) | ((with_reducible refine xwE ?_ ?_); focus exact xaC) | (with_reducible intro hc; (try simp only [capsP, and_true] at hc); (try exact xfC)) | ((fail_if_success (with_reducible first | refine xgon ?_ | intro _)); (conv => whnf); (fail_if_success (fail_if_success (with_reducible first | refine xstp ?_ | refine Both.mk ?_ ?_ | refine xgon ?_ | intro _)))))
    refine xcal (σ := []) (nl := []) (cawake) ?_
    rintro v h' ⟨rfl, rfl⟩ hcaps
    refine rH15sB0 ?_
    repeat' (first | (fail_if_success (with_reducible refine xstp ?_)); first | ((with_reducible refine And.intro (fun (hb : _ = true) => ?_) (fun (hb : _ = false) => ?_)) <;> replace hb := xnC hb <;> (try first | exact xfC | exact bff hb (by assumption) | exact bff (by assumption) hb)) | (with_reducible refine Both.mk ?_ ?_) | ((with_reducible refine And.intro ?_ ?_); focus exact xoC) | ((with_reducible refine Or.inl ⟨?_, ?_, ?_⟩); (focus rfl); focus exact xaC) | ((with_reducible refine xwB ?_ ?_); focus exact xaC) | ((with_reducible refine xwC ?_ ?_); focus exact xaC) | ((with_reducible refine xwD ?_ ?_); focus exact xaC) | ((with_reducible refine xwE ?_ ?_); focus exact xaC) | (with_reducible intro hc; (try simp only [capsP, and_true] at hc); (try exact xfC)) | ((fail_if_success (with_reducible first | refine xgon ?_ | intro _)); (conv => whnf); (fail_if_success (fail_if_success (with_reducible first | refine xstp ?_ | refine Both.mk ?_ ?_ | refine xgon ?_ | intro _)))))
    refine FinK.mk ⟨[0], _, [.one .no], rfl, ?_⟩
    (repeat' first | refine And.intro ?_ ?_ | exact xeC | fail)
  · skip
    refine xcal (σ := []) (nl := []) (cawake) ?_
    rintro v h' ⟨rfl, rfl⟩ hcaps
    refine rH15sB0 ?_
    repeat' (first | (fail_if_success (with_reducible refine xstp ?_)); first | ((with_reducible refine And.intro (fun (hb : _ = true) => ?_) (fun (hb : _ = false) => ?_)) <;> replace hb := xnC hb <;> (try first | exact xfC | exact bff hb (by assumption) | exact bff (by assumption) hb)) | (with_reducible refine Both.mk ?_ ?_) | ((with_reducible refine And.intro ?_ ?_); focus exact xoC) | ((with_reducible refine Or.inl ⟨?_, ?_, ?_⟩); (focus rfl); focus exact xaC) | ((with_reducible refine xwB ?_ ?_); focus exact xaC) | ((with_reducible refine xwC ?_ ?_); focus exact xaC) | ((with_reducible refine xwD ?_ ?_); focus exact xaC) | ((with_reducible refine xwE ?_ ?_); focus exact xaC) | (with_reducible intro hc; (try simp only [capsP, and_true] at hc); (try exact xfC)) | ((fail_if_success (with_reducible first | refine xgon ?_ | intro _)); (conv => whnf); (fail_if_success (fail_if_success (with_reducible first | refine xstp ?_ | refine Both.mk ?_ ?_ | refine xgon ?_ | intro _)))))
    refine FinK.mk ⟨[0], _, [.one .no], rfl, ?_⟩
    (repeat' first | refine And.intro ?_ ?_ | exact xeC | fail)
end Go.Proofs.Ytgaodeffbgppmaa

namespace Go.Proofs.Ytgaodeffbgppmaa
open Go.X
set_option linter.unusedSimpArgs false
set_option linter.unusedVariables false
open P4
open P5
theorem unf_dlen (l : List UInt8) : (unf l).1.d.length ≤ 4000 := by
  by_cases h : (unf l).2 = 0
  · have := (unf_bw h).2
    unfold okF at this
    exact this.2.2.2
  · unfold unf unfS at h ⊢
    repeat' split
    all_goals first | exact Nat.zero_le _ | skip
    exfalso
    apply h
    rename_i h1 h2 h3
    rw [if_neg h1, if_neg h2, if_neg h3]
theorem rH15sC0 {σ : List Sg} {H h' : List Fam} {v : T} {K : T → List Fam → Prop} {H' : List Fam} {v' : T} {N : Nat} (hk : K v' H') (hN : H.length = N := by (try simp only [↓List.length_cons, ↓List.length_nil, Nat.reduceAdd]) <;> rfl) (h : givesF σ N H σ h' = some H' := by (try simp (maxSteps := 1000000) only [givesF, setF, updF, Fam.zeroth, Fam.rk, Ck.rk, C.rk, E.rk, T.rk, key, List.map_cons, List.map_nil, List.cons_append, List.nil_append, List.length_cons, List.length_nil, Option.map_some, Option.bind_some, Nat.reduceAdd, Nat.zero_add, Nat.add_zero, Nat.add_sub_cancel_left, Int.toNat_natCast, reps, List.all_cons, List.all_nil, C.flat, List.append_eq, Bool.not_true, Bool.and_true, Bool.or_false, Bool.or_self, Bool.not_false, List.append_nil, Bool.and_self, encP, encG]) <;> rfl) (hv : v.rk σ N = v' := by (try simp only [givesF, setF, updF, Fam.zeroth, Fam.rk, Ck.rk, C.rk, E.rk, T.rk, key, List.map_cons, List.map_nil, List.cons_append, List.nil_append, List.length_cons, List.length_nil, Option.map_some, Option.bind_some, Nat.reduceAdd, Nat.zero_add, Nat.add_zero, Nat.add_sub_cancel_left, Int.toNat_natCast, reps, List.all_cons, List.all_nil, C.flat, List.append_eq, Bool.not_true, Bool.and_true, Bool.or_false, Bool.or_self, Bool.not_false, List.append_nil, Bool.and_self, encP, encG]) <;> rfl) : RetG σ H h' v K := ret_mk3 hN h hv hk
theorem rH15sC1 {σ : List Sg} {H h' : List Fam} {v : T} {K : T → List Fam → Prop} {H' : List Fam} {v' : T} {N : Nat} (hk : K v' H') (hN : H.length = N := by (try simp only [↓List.length_cons, ↓List.length_nil, Nat.reduceAdd]) <;> rfl) (h : givesF σ N H σ h' = some H' := by (try simp (maxSteps := 1000000) only [givesF, setF, updF, Fam.zeroth, Fam.rk, Ck.rk, C.rk, E.rk, T.rk, key, List.map_cons, List.map_nil, List.cons_append, List.nil_append, List.length_cons, List.length_nil, Option.map_some, Option.bind_some, Nat.reduceAdd, Nat.zero_add, Nat.add_zero, Nat.add_sub_cancel_left, Int.toNat_natCast, reps, List.all_cons, List.all_nil, C.flat, List.append_eq, Bool.not_true, Bool.and_true, Bool.or_false, Bool.or_self, Bool.not_false, List.append_nil, Bool.and_self, encP]) <;> rfl) (hv : v.rk σ N = v' := by (try simp only [givesF, setF, updF, Fam.zeroth, Fam.rk, Ck.rk, C.rk, E.rk, T.rk, key, List.map_cons, List.map_nil, List.cons_append, List.nil_append, List.length_cons, List.length_nil, Option.map_some, Option.bind_some, Nat.reduceAdd, Nat.zero_add, Nat.add_zero, Nat.add_sub_cancel_left, Int.toNat_natCast, reps, List.all_cons, List.all_nil, C.flat, List.append_eq, Bool.not_true, Bool.and_true, Bool.or_false, Bool.or_self, Bool.not_false, List.append_nil, Bool.and_self, encP]) <;> rfl) : RetG σ H h' v K := ret_mk3 hN h hv hk
theorem rH15sC2 {σ : List Sg} {H h' : List Fam} {v : T} {K : T → List Fam → Prop} {H' : List Fam} {v' : T} {N : Nat} (hk : K v' H') (hN : H.length = N := by (try simp only [↓List.length_cons, ↓List.length_nil, Nat.reduceAdd]) <;> rfl) (h : givesF σ N H σ h' = some H' := by (try simp (maxSteps := 1000000) only [givesF, setF, updF, Fam.zeroth, Fam.rk, Ck.rk, C.rk, E.rk, T.rk, key, List.map_cons, List.map_nil, List.cons_append, List.nil_append, List.length_cons, List.length_nil, Option.map_some, Option.bind_some, Nat.reduceAdd, Nat.zero_add, Nat.add_zero, Nat.add_sub_cancel_left, Int.toNat_natCast, reps, List.all_cons, List.all_nil, C.flat, List.append_eq, Bool.not_true, Bool.and_true, Bool.or_false, Bool.or_self, Bool.not_false, List.append_nil, Bool.and_self, encG]) <;> rfl) (hv : v.rk σ N = v' := by (try simp only [givesF, setF, updF, Fam.zeroth, Fam.rk, Ck.rk, C.rk, E.rk, T.rk, key, List.map_cons, List.map_nil, List.cons_append, List.nil_append, List.length_cons, List.length_nil, Option.map_some, Option.bind_some, Nat.reduceAdd, Nat.zero_add, Nat.add_zero, Nat.add_sub_cancel_left, Int.toNat_natCast, reps, List.all_cons, List.all_nil, C.flat, List.append_eq, Bool.not_true, Bool.and_true, Bool.or_false, Bool.or_self, Bool.not_false, List.append_nil, Bool.and_self, encG]) <;> rfl) : RetG σ H h' v K := ret_mk3 hN h hv hk
set_option maxRecDepth 20000 in
set_option maxHeartbeats 4000000 in
theorem conly (l : List UInt8) (hl : l.length ≤ 9223372036854775807) :
    Ctr Try.prog 8 [.c (.s (mkS l))] [] fun v _ => v = .c .tt := by
  have hzl : (mkS l).size = l.length := rfl
  refine Ctr.mk' tbv mixed Try.func8 rfl rfl rfl (fun _ _ => by kernel_rfl) (by kernel_rfl) (by rfl) (by rfl) (by (repeat' first | refine And.intro ?_ ?_ | exact xeC | fail)) ?_
  repeat' (first | (fail_if_success (with_reducible refine xstp ?_)); first | ((with_reducible refine And.intro (fun (hb : _ = true) => ?_) (fun (hb : _ = false) => ?_)) <;> replace hb := xnC hb <;> (try first | exact xfC | exact bff hb (by assumption) | exact bff (by assumption) hb)) | (with_reducible refine Both.mk ?_ ?_) | ((with_reducible refine And.intro ?_ ?_); focus exact xoC) | ((with_reducible refine Or.inl ⟨?_, ?_, ?_⟩); (focus rfl); focus exact xaC) | ((with_reducible refine xwB ?_ ?_); focus exact xaC) | ((with_reducible refine xwC ?_ ?_); focus exact xaC) | ((with_reducible refine xwD ?_ ?_); focus exact xaC) | ((with_reducible refine xwE ?_ ?_); focus exact xaC) | (with_reducible intro hc; (try simp only [capsP, and_true] at hc); (try exact xfC)) | ((fail_if_success (with_reducible first | refine xgon ?_ | intro _)); (conv => whnf); (fail_if_success (fail_if_success (with_reducible first | refine xstp ?_ | refine Both.mk ?_ ?_ | refine xgon ?_ | intro _)))))
  · skip
    refine xcal (σ := []) (nl := []) (cawake) ?_
    rintro v h' ⟨rfl, rfl⟩ hcaps
    refine rH15sC0 ?_
    repeat' (first | (fail_if_success (with_reducible refine xstp ?_)); first | ((with_reducible refine And.intro (fun (hb : _ = true) => ?_) (fun (hb : _ = false) => ?_)) <;> replace hb := xnC hb <;> (try first | exact xfC | exact bff hb (by assumption) | exact bff (by assumption) hb)) | (with_reducible refine Both.mk ?_ ?_) | ((with_reducible refine And.intro ?_ ?_); focus exact xoC) | ((with_reducible refine Or.inl ⟨?_, ?_, ?_⟩); (focus rfl); focus exact xaC) | ((with_reducible refine xwB ?_ ?_); focus exact xaC) | ((with_reducible refine xwC ?_ ?_); focus exact xaC) | ((with_reducible refine xwD ?_ ?_); focus exact xaC) | ((with_reducible refine xwE ?_ ?_); focus exact xaC) | (with_reducible intro hc; (try simp only [capsP, and_true] at hc); (try exact xfC)) | ((fail_if_success (with_reducible first | refine xgon ?_ | intro _)); (conv => whnf); (fail_if_success (fail_if_success (with_reducible first | refine xstp ?_ | refine Both.mk ?_ ?_ | refine xgon ?_ | intro _)))))
    refine FinK.mk ⟨[], _, [], rfl, ?_⟩
    (repeat' first | refine And.intro ?_ ?_ | exact xeC | fail)
  refine xcal (σ := []) (nl := []) (cDecode (mkS l) (by omega)) ?_
  rintro v h' ⟨c2, rfl, rfl⟩ hcaps
  refine rH15sC1 ?_
  repeat' (first | (fail_if_success (with_reducible refine xstp ?_)); first | ((with_reducible refine And.intro (fun (hb : _ = true) => ?_) (fun (hb : _ = false) => ?_)) <;> replace hb := xnC hb <;> (try first | exact xfC | exact bff hb (by assumption) | exact bff (by assumption) hb)) | (with_reducible refine Both.mk ?_ ?_) | ((with_reducible refine And.intro ?_ ?_); focus exact xoC) | ((with_reducible refine Or.inl ⟨?_, ?_, ?_⟩); (focus rfl); focus exact xaC) | ((with_reducible refine xwB ?_ ?_); focus exact xaC) | ((with_reducible refine xwC ?_ ?_); focus exact xaC) | ((with_reducible refine xwD ?_ ?_); focus exact xaC) | ((with_reducible refine xwE ?_ ?_); focus exact xaC) | (with_reducible intro hc; (try simp only [capsP, and_true] at hc); (try exact xfC)) | ((fail_if_success (with_reducible first | refine xgon ?_ | intro _)); (conv => whnf); (fail_if_success (fail_if_success (with_reducible first | refine xstp ?_ | refine Both.mk ?_ ?_ | refine xgon ?_ | intro _)))))
  have hm32 := dec_m (mkS l)
  have hpl : (dec (mkS l)).1.p.length ≤ 2000 := by
    by_cases h : (dec (mkS l)).2 = 0
    · exact (enc_le _ (pdec_bw _ h).2).2.1
    · rw [dec_no h]; exact Nat.zero_le _
  refine xcal (σ := [.whole 0]) (nl := []) (cEncode (dec (mkS l)).1 true c2 (by omega) (by omega)) ?_
  rintro v h' ⟨rfl, rfl⟩ hcaps
  refine rH15sC1 ?_
  repeat' (first | (fail_if_success (with_reducible refine xstp ?_)); first | ((with_reducible refine And.intro (fun (hb : _ = true) => ?_) (fun (hb : _ = false) => ?_)) <;> replace hb := xnC hb <;> (try first | exact xfC | exact bff hb (by assumption) | exact bff (by assumption) hb)) | (with_reducible refine Both.mk ?_ ?_) | ((with_reducible refine And.intro ?_ ?_); focus exact xoC) | ((with_reducible refine Or.inl ⟨?_, ?_, ?_⟩); (focus rfl); focus exact xaC) | ((with_reducible refine xwB ?_ ?_); focus exact xaC) | ((with_reducible refine xwC ?_ ?_); focus exact xaC) | ((with_reducible refine xwD ?_ ?_); focus exact xaC) | ((with_reducible refine xwE ?_ ?_); focus exact xaC) | (with_reducible intro hc; (try simp only [capsP, and_true] at hc); (try exact xfC)) | ((fail_if_success (with_reducible first | refine xgon ?_ | intro _)); (conv => whnf); (fail_if_success (fail_if_success (with_reducible first | refine xstp ?_ | refine Both.mk ?_ ?_ | refine xgon ?_ | intro _)))))
  · exfalso
    have := (pdec_bw (mkS l) (by omega)).2
    omega
  · exfalso
    have := pdec_bw (mkS l) (by omega)
    rw [if_pos this.2] at hb
    exact hb this.1.symm
  · skip
    refine xcal (σ := []) (nl := []) (cUnframe l (by omega)) ?_
    rintro v h' ⟨rfl, rfl⟩ hcaps
    refine rH15sC2 ?_
    repeat' (first | (fail_if_success (with_reducible refine xstp ?_)); first | ((with_reducible refine And.intro (fun (hb : _ = true) => ?_) (fun (hb : _ = false) => ?_)) <;> replace hb := xnC hb <;> (try first | exact xfC | exact bff hb (by assumption) | exact bff (by assumption) hb)) | (with_reducible refine Both.mk ?_ ?_) | ((with_reducible refine And.intro ?_ ?_); focus exact xoC) | ((with_reducible refine Or.inl ⟨?_, ?_, ?_⟩); (focus rfl); focus exact xaC) | ((with_reducible refine xwB ?_ ?_); focus exact xaC) | ((with_reducible refine xwC ?_ ?_); focus exact xaC) | ((with_reducible refine xwD ?_ ?_); focus exact xaC) | ((with_reducible refine xwE ?_ ?_); focus exact xaC) | (with_reducible intro hc; (try simp only [capsP, and_true] at hc); (try exact xfC)) | ((fail_if_success (with_reducible first | refine xgon ?_ | intro _)); (conv => whnf); (fail_if_success (fail_if_success (with_reducible first | refine xstp ?_ | refine Both.mk ?_ ?_ | refine xgon ?_ | intro _)))))
    · skip
      refine xcal (σ := []) (nl := []) (cawake) ?_
      rintro v h' ⟨rfl, rfl⟩ hcaps
      refine rH15sC0 ?_
      repeat' (first | (fail_if_success (with_reducible refine xstp ?_)); first | ((with_reducible refine And.intro (fun (hb : _ = true) => ?_) (fun (hb : _ = false) => ?_)) <;> replace hb := xnC hb <;> (try first | exact xfC | exact bff hb (by assumption) | exact bff (by assumption) hb)) | (with_reducible refine Both.mk ?_ ?_) | ((with_reducible refine And.intro ?_ ?_); focus exact xoC) | ((with_reducible refine Or.inl ⟨?_, ?_, ?_⟩); (focus rfl); focus exact xaC) | ((with_reducible refine xwB ?_ ?_); focus exact xaC) | ((with_reducible refine xwC ?_ ?_); focus exact xaC) | ((with_reducible refine xwD ?_ ?_); focus exact xaC) | ((with_reducible refine xwE ?_ ?_); focus exact xaC) | (with_reducible intro hc; (try simp only [capsP, and_true] at hc); (try exact xfC)) | ((fail_if_success (with_reducible first | refine xgon ?_ | intro _)); (conv => whnf); (fail_if_success (fail_if_success (with_reducible first | refine xstp ?_ | refine Both.mk ?_ ?_ | refine xgon ?_ | intro _)))))
      refine FinK.mk ⟨[], _, [], rfl, ?_⟩
      (repeat' first | refine And.intro ?_ ?_ | exact xeC | fail)
    have hu : (unf l).2 = 0 := by omega
    refine xcal (σ := []) (nl := []) (cFrame (unf l).1 (by have := unf_dlen l; omega)) ?_
    rintro v h' ⟨rfl, rfl⟩ hcaps
    rw [(unf_bw hu).1]
    refine rH15sC2 ?_
    repeat' (first | (fail_if_success (with_reducible refine xstp ?_)); first | ((with_reducible refine And.intro (fun (hb : _ = true) => ?_) (fun (hb : _ = false) => ?_)) <;> replace hb := xnC hb <;> (try first | exact xfC | exact bff hb (by assumption) | exact bff (by assumption) hb)) | (with_reducible refine Both.mk ?_ ?_) | ((with_reducible refine And.intro ?_ ?_); focus exact xoC) | ((with_reducible refine Or.inl ⟨?_, ?_, ?_⟩); (focus rfl); focus exact xaC) | ((with_reducible refine xwB ?_ ?_); focus exact xaC) | ((with_reducible refine xwC ?_ ?_); focus exact xaC) | ((with_reducible refine xwD ?_ ?_); focus exact xaC) | ((with_reducible refine xwE ?_ ?_); focus exact xaC) | (with_reducible intro hc; (try simp only [capsP, and_true] at hc); (try exact xfC)) | ((fail_if_success (with_reducible first | refine xgon ?_ | intro _)); (conv => whnf); (fail_if_success (fail_if_success (with_reducible first | refine xstp ?_ | refine Both.mk ?_ ?_ | refine xgon ?_ | intro _)))))
    refine xcal (σ := []) (nl := []) (cawake) ?_
    rintro v h' ⟨rfl, rfl⟩ hcaps
    refine rH15sC0 ?_
    repeat' (first | (fail_if_success (with_reducible refine xstp ?_)); first | ((with_reducible refine And.intro (fun (hb : _ = true) => ?_) (fun (hb : _ = false) => ?_)) <;> replace hb := xnC hb <;> (try first | exact xfC | exact bff hb (by assumption) | exact bff (by assumption) hb)) | (with_reducible refine Both.mk ?_ ?_) | ((with_reducible refine And.intro ?_ ?_); focus exact xoC) | ((with_reducible refine Or.inl ⟨?_, ?_, ?_⟩); (focus rfl); focus exact xaC) | ((with_reducible refine xwB ?_ ?_); focus exact xaC) | ((with_reducible refine xwC ?_ ?_); focus exact xaC) | ((with_reducible refine xwD ?_ ?_); focus exact xaC) | ((with_reducible refine xwE ?_ ?_); focus exact xaC) | (with_reducible intro hc; (try simp only [capsP, and_true] at hc); (try exact xfC)) | ((fail_if_success (with_reducible first | refine xgon ?_ | intro _)); (conv => whnf); (fail_if_success (fail_if_success (with_reducible first | refine xstp ?_ | refine Both.mk ?_ ?_ | refine xgon ?_ | intro _)))))
    refine FinK.mk ⟨[], _, [], rfl, ?_⟩
    (repeat' first | refine And.intro ?_ ?_ | exact xeC | fail)
  · skip
    refine xcal (σ := []) (nl := []) (cUnframe l (by omega)) ?_
    rintro v h' ⟨rfl, rfl⟩ hcaps
    refine rH15sC2 ?_
    repeat' (first | (fail_if_success (with_reducible refine xstp ?_)); first | ((with_reducible refine And.intro (fun (hb : _ = true) => ?_) (fun (hb : _ = false) => ?_)) <;> replace hb := xnC hb <;> (try first | exact xfC | exact bff hb (by assumption) | exact bff (by assumption) hb)) | (with_reducible refine Both.mk ?_ ?_) | ((with_reducible refine And.intro ?_ ?_); focus exact xoC) | ((with_reducible refine Or.inl ⟨?_, ?_, ?_⟩); (focus rfl); focus exact xaC) | ((with_reducible refine xwB ?_ ?_); focus exact xaC) | ((with_reducible refine xwC ?_ ?_); focus exact xaC) | ((with_reducible refine xwD ?_ ?_); focus exact xaC) | ((with_reducible refine xwE ?_ ?_); focus exact xaC) | (with_reducible intro hc; (try simp only [capsP, and_true] at hc); (try exact xfC)) | ((fail_if_success (with_reducible first | refine xgon ?_ | intro _)); (conv => whnf); (fail_if_success (fail_if_success (with_reducible first | refine xstp ?_ | refine Both.mk ?_ ?_ | refine xgon ?_ | intro _)))))
    · skip
      refine xcal (σ := []) (nl := []) (cawake) ?_
      rintro v h' ⟨rfl, rfl⟩ hcaps
      refine rH15sC0 ?_
      repeat' (first | (fail_if_success (with_reducible refine xstp ?_)); first | ((with_reducible refine And.intro (fun (hb : _ = true) => ?_) (fun (hb : _ = false) => ?_)) <;> replace hb := xnC hb <;> (try first | exact xfC | exact bff hb (by assumption) | exact bff (by assumption) hb)) | (with_reducible refine Both.mk ?_ ?_) | ((with_reducible refine And.intro ?_ ?_); focus exact xoC) | ((with_reducible refine Or.inl ⟨?_, ?_, ?_⟩); (focus rfl); focus exact xaC) | ((with_reducible refine xwB ?_ ?_); focus exact xaC) | ((with_reducible refine xwC ?_ ?_); focus exact xaC) | ((with_reducible refine xwD ?_ ?_); focus exact xaC) | ((with_reducible refine xwE ?_ ?_); focus exact xaC) | (with_reducible intro hc; (try simp only [capsP, and_true] at hc); (try exact xfC)) | ((fail_if_success (with_reducible first | refine xgon ?_ | intro _)); (conv => whnf); (fail_if_success (fail_if_success (with_reducible first | refine xstp ?_ | refine Both.mk ?_ ?_ | refine xgon ?_ | intro _)))))
      refine FinK.mk ⟨[], _, [], rfl, ?_⟩
      (repeat' first | refine And.intro ?_ ?_ | exact xeC | fail)
    have hu : (unf l).2 = 0 := by omega
    refine xcal (σ := []) (nl := []) (cFrame (unf l).1 (by have := unf_dlen l; omega)) ?_
    rintro v h' ⟨rfl, rfl⟩ hcaps
    rw [(unf_bw hu).1]
    refine rH15sC2 ?_
    repeat' (first | (fail_if_success (with_reducible refine xstp ?_)); first | ((with_reducible refine And.intro (fun (hb : _ = true) => ?_) (fun (hb : _ = false) => ?_)) <;> replace hb := xnC hb <;> (try first | exact xfC | exact bff hb (by assumption) | exact bff (by assumption) hb)) | (with_reducible refine Both.mk ?_ ?_) | ((with_reducible refine And.intro ?_ ?_); focus exact xoC) | ((with_reducible refine Or.inl ⟨?_, ?_, ?_⟩); (focus rfl); focus exact xaC) | ((with_reducible refine xwB ?_ ?_); focus exact xaC) | ((with_reducible refine xwC ?_ ?_); focus exact xaC) | ((with_reducible refine xwD ?_ ?_); focus exact xaC) | ((with_reducible refine xwE ?_ ?_); focus exact xaC) | (with_reducible intro hc; (try simp only [capsP, and_true] at hc); (try exact xfC)) | ((fail_if_success (with_reducible first | refine xgon ?_ | intro _)); (conv => whnf); (fail_if_success (fail_if_success (with_reducible first | refine xstp ?_ | refine Both.mk ?_ ?_ | refine xgon ?_ | intro _)))))
    refine xcal (σ := []) (nl := []) (cawake) ?_
    rintro v h' ⟨rfl, rfl⟩ hcaps
    refine rH15sC0 ?_
    repeat' (first | (fail_if_success (with_reducible refine xstp ?_)); first | ((with_reducible refine And.intro (fun (hb : _ = true) => ?_) (fun (hb : _ = false) => ?_)) <;> replace hb := xnC hb <;> (try first | exact xfC | exact bff hb (by assumption) | exact bff (by assumption) hb)) | (with_reducible refine Both.mk ?_ ?_) | ((with_reducible refine And.intro ?_ ?_); focus exact xoC) | ((with_reducible refine Or.inl ⟨?_, ?_, ?_⟩); (focus rfl); focus exact xaC) | ((with_reducible refine xwB ?_ ?_); focus exact xaC) | ((with_reducible refine xwC ?_ ?_); focus exact xaC) | ((with_reducible refine xwD ?_ ?_); focus exact xaC) | ((with_reducible refine xwE ?_ ?_); focus exact xaC) | (with_reducible intro hc; (try simp only [capsP, and_true] at hc); (try exact xfC)) | ((fail_if_success (with_reducible first | refine xgon ?_ | intro _)); (conv => whnf); (fail_if_success (fail_if_success (with_reducible first | refine xstp ?_ | refine Both.mk ?_ ?_ | refine xgon ?_ | intro _)))))
    refine FinK.mk ⟨[], _, [], rfl, ?_⟩
    (repeat' first | refine And.intro ?_ ?_ | exact xeC | fail)

theorem frame_ne (f : Fg) : (mkS (frameL f) = { data := #[] }) ↔ ¬ okF f := by
  unfold frameL
  split
  · rename_i h
    constructor
    · intro e
      have e2 : mkS (sealL (frmL f)) = mkS [] := e
      have := congrArg List.length (mkS_inj.1 e2)
      unfold sealL at this
      rw [List.length_append, le_length, List.length_nil] at this
      omega
    · intro h2; exact absurd h h2
  · rename_i h
    exact ⟨fun _ => h, fun _ => rfl⟩
set_option maxRecDepth 20000 in
set_option maxHeartbeats 4000000 in
theorem cunframes (l : List UInt8) (f : Fg) (hl : l.length ≤ 9223372036854775807) (hd : f.d.length ≤ 9223372036854775807) :
    Ctr Try.prog 6 [.c (.s (mkS l)), .a (encG f)] [] fun v _ => v = .c .tt := by
  have hzl : (mkS l).size = l.length := rfl
  have hzd : (mkS f.d).size = f.d.length := rfl
  refine Ctr.mk' tbv mixed Try.func6 rfl rfl rfl (fun _ _ => by kernel_rfl) (by kernel_rfl) (by rfl) (by rfl) (by (repeat' first | refine And.intro ?_ ?_ | exact xeC | fail)) ?_
  repeat' (first | (fail_if_success (with_reducible refine xstp ?_)); first | ((with_reducible refine And.intro (fun (hb : _ = true) => ?_) (fun (hb : _ = false) => ?_)) <;> replace hb := xnC hb <;> (try first | exact xfC | exact bff hb (by assumption) | exact bff (by assumption) hb)) | (with_reducible refine Both.mk ?_ ?_) | ((with_reducible refine And.intro ?_ ?_); focus exact xoC) | ((with_reducible refine Or.inl ⟨?_, ?_, ?_⟩); (focus rfl); focus exact xaC) | ((with_reducible refine xwB ?_ ?_); focus exact xaC) | ((with_reducible refine xwC ?_ ?_); focus exact xaC) | ((with_reducible refine xwD ?_ ?_); focus exact xaC) | ((with_reducible refine xwE ?_ ?_); focus exact xaC) | (with_reducible intro hc; (try simp only [capsP, and_true] at hc); (try exact xfC)) | ((fail_if_success (with_reducible first | refine xgon ?_ | intro _)); (conv => whnf); (fail_if_success (fail_if_success (with_reducible first | refine xstp ?_ | refine Both.mk ?_ ?_ | refine xgon ?_ | intro _)))))
  · skip
    refine xcal (σ := []) (nl := []) (cawake) ?_
    rintro v h' ⟨rfl, rfl⟩ hcaps
    refine rH15sC0 ?_
    repeat' (first | (fail_if_success (with_reducible refine xstp ?_)); first | ((with_reducible refine And.intro (fun (hb : _ = true) => ?_) (fun (hb : _ = false) => ?_)) <;> replace hb := xnC hb <;> (try first | exact xfC | exact bff hb (by assumption) | exact bff (by assumption) hb)) | (with_reducible refine Both.mk ?_ ?_) | ((with_reducible refine And.intro ?_ ?_); focus exact xoC) | ((with_reducible refine Or.inl ⟨?_, ?_, ?_⟩); (focus rfl); focus exact xaC) | ((with_reducible refine xwB ?_ ?_); focus exact xaC) | ((with_reducible refine xwC ?_ ?_); focus exact xaC) | ((with_reducible refine xwD ?_ ?_); focus exact xaC) | ((with_reducible refine xwE ?_ ?_); focus exact xaC) | (with_reducible intro hc; (try simp only [capsP, and_true] at hc); (try exact xfC)) | ((fail_if_success (with_reducible first | refine xgon ?_ | intro _)); (conv => whnf); (fail_if_success (fail_if_success (with_reducible first | refine xstp ?_ | refine Both.mk ?_ ?_ | refine xgon ?_ | intro _)))))
    refine FinK.mk ⟨[], _, [], rfl, ?_⟩
    (repeat' first | refine And.intro ?_ ?_ | exact xeC | fail)
  · skip
    refine xcal (σ := []) (nl := []) (cawake) ?_
    rintro v h' ⟨rfl, rfl⟩ hcaps
    refine rH15sC0 ?_
    repeat' (first | (fail_if_success (with_reducible refine xstp ?_)); first | ((with_reducible refine And.intro (fun (hb : _ = true) => ?_) (fun (hb : _ = false) => ?_)) <;> replace hb := xnC hb <;> (try first | exact xfC | exact bff hb (by assumption) | exact bff (by assumption) hb)) | (with_reducible refine Both.mk ?_ ?_) | ((with_reducible refine And.intro ?_ ?_); focus exact xoC) | ((with_reducible refine Or.inl ⟨?_, ?_, ?_⟩); (focus rfl); focus exact xaC) | ((with_reducible refine xwB ?_ ?_); focus exact xaC) | ((with_reducible refine xwC ?_ ?_); focus exact xaC) | ((with_reducible refine xwD ?_ ?_); focus exact xaC) | ((with_reducible refine xwE ?_ ?_); focus exact xaC) | (with_reducible intro hc; (try simp only [capsP, and_true] at hc); (try exact xfC)) | ((fail_if_success (with_reducible first | refine xgon ?_ | intro _)); (conv => whnf); (fail_if_success (fail_if_success (with_reducible first | refine xstp ?_ | refine Both.mk ?_ ?_ | refine xgon ?_ | intro _)))))
    refine FinK.mk ⟨[], _, [], rfl, ?_⟩
    (repeat' first | refine And.intro ?_ ?_ | exact xeC | fail)
  refine xcal (σ := []) (nl := []) (cUnframe l (by omega)) ?_
  rintro v h' ⟨rfl, rfl⟩ hcaps
  refine rH15sC2 ?_
  repeat' (first | (fail_if_success (with_reducible refine xstp ?_)); first | ((with_reducible refine And.intro (fun (hb : _ = true) => ?_) (fun (hb : _ = false) => ?_)) <;> replace hb := xnC hb <;> (try first | exact xfC | exact bff hb (by assumption) | exact bff (by assumption) hb)) | (with_reducible refine Both.mk ?_ ?_) | ((with_reducible refine And.intro ?_ ?_); focus exact xoC) | ((with_reducible refine Or.inl ⟨?_, ?_, ?_⟩); (focus rfl); focus exact xaC) | ((with_reducible refine xwB ?_ ?_); focus exact xaC) | ((with_reducible refine xwC ?_ ?_); focus exact xaC) | ((with_reducible refine xwD ?_ ?_); focus exact xaC) | ((with_reducible refine xwE ?_ ?_); focus exact xaC) | (with_reducible intro hc; (try simp only [capsP, and_true] at hc); (try exact xfC)) | ((fail_if_success (with_reducible first | refine xgon ?_ | intro _)); (conv => whnf); (fail_if_success (fail_if_success (with_reducible first | refine xstp ?_ | refine Both.mk ?_ ?_ | refine xgon ?_ | intro _)))))
  refine xcal (σ := []) (nl := []) (cUnframeR l (by omega)) ?_
  rintro v h' ⟨rfl, rfl⟩ hcaps
  refine rH15sC2 ?_
  repeat' (first | (fail_if_success (with_reducible refine xstp ?_)); first | ((with_reducible refine And.intro (fun (hb : _ = true) => ?_) (fun (hb : _ = false) => ?_)) <;> replace hb := xnC hb <;> (try first | exact xfC | exact bff hb (by assumption) | exact bff (by assumption) hb)) | (with_reducible refine Both.mk ?_ ?_) | ((with_reducible refine And.intro ?_ ?_); focus exact xoC) | ((with_reducible refine Or.inl ⟨?_, ?_, ?_⟩); (focus rfl); focus exact xaC) | ((with_reducible refine xwB ?_ ?_); focus exact xaC) | ((with_reducible refine xwC ?_ ?_); focus exact xaC) | ((with_reducible refine xwD ?_ ?_); focus exact xaC) | ((with_reducible refine xwE ?_ ?_); focus exact xaC) | (with_reducible intro hc; (try simp only [capsP, and_true] at hc); (try exact xfC)) | ((fail_if_success (with_reducible first | refine xgon ?_ | intro _)); (conv => whnf); (fail_if_success (fail_if_success (with_reducible first | refine xstp ?_ | refine Both.mk ?_ ?_ | refine xgon ?_ | intro _)))))
  refine xcal (σ := []) (nl := []) (cFrame f (by omega)) ?_
  rintro v h' ⟨rfl, rfl⟩ hcaps
  refine rH15sC2 ?_
  repeat' (first | (fail_if_success (with_reducible refine xstp ?_)); first | ((with_reducible refine And.intro (fun (hb : _ = true) => ?_) (fun (hb : _ = false) => ?_)) <;> replace hb := xnC hb <;> (try first | exact xfC | exact bff hb (by assumption) | exact bff (by assumption) hb)) | (with_reducible refine Both.mk ?_ ?_) | ((with_reducible refine And.intro ?_ ?_); focus exact xoC) | ((with_reducible refine Or.inl ⟨?_, ?_, ?_⟩); (focus rfl); focus exact xaC) | ((with_reducible refine xwB ?_ ?_); focus exact xaC) | ((with_reducible refine xwC ?_ ?_); focus exact xaC) | ((with_reducible refine xwD ?_ ?_); focus exact xaC) | ((with_reducible refine xwE ?_ ?_); focus exact xaC) | (with_reducible intro hc; (try simp only [capsP, and_true] at hc); (try exact xfC)) | ((fail_if_success (with_reducible first | refine xgon ?_ | intro _)); (conv => whnf); (fail_if_success (fail_if_success (with_reducible first | refine xstp ?_ | refine Both.mk ?_ ?_ | refine xgon ?_ | intro _)))))
  refine xcal (σ := []) (nl := []) (cFrameR f (by omega)) ?_
  rintro v h' ⟨rfl, rfl⟩ hcaps
  refine rH15sC2 ?_
  repeat' (first | (fail_if_success (with_reducible refine xstp ?_)); first | ((with_reducible refine And.intro (fun (hb : _ = true) => ?_) (fun (hb : _ = false) => ?_)) <;> replace hb := xnC hb <;> (try first | exact xfC | exact bff hb (by assumption) | exact bff (by assumption) hb)) | (with_reducible refine Both.mk ?_ ?_) | ((with_reducible refine And.intro ?_ ?_); focus exact xoC) | ((with_reducible refine Or.inl ⟨?_, ?_, ?_⟩); (focus rfl); focus exact xaC) | ((with_reducible refine xwB ?_ ?_); focus exact xaC) | ((with_reducible refine xwC ?_ ?_); focus exact xaC) | ((with_reducible refine xwD ?_ ?_); focus exact xaC) | ((with_reducible refine xwE ?_ ?_); focus exact xaC) | (with_reducible intro hc; (try simp only [capsP, and_true] at hc); (try exact xfC)) | ((fail_if_success (with_reducible first | refine xgon ?_ | intro _)); (conv => whnf); (fail_if_success (fail_if_success (with_reducible first | refine xstp ?_ | refine Both.mk ?_ ?_ | refine xgon ?_ | intro _)))))
  refine xcal (σ := []) (nl := []) (cFrame f (by omega)) ?_
  rintro v h' ⟨rfl, rfl⟩ hcaps
  refine rH15sC2 ?_
  repeat' (first | (fail_if_success (with_reducible refine xstp ?_)); first | ((with_reducible refine And.intro (fun (hb : _ = true) => ?_) (fun (hb : _ = false) => ?_)) <;> replace hb := xnC hb <;> (try first | exact xfC | exact bff hb (by assumption) | exact bff (by assumption) hb)) | (with_reducible refine Both.mk ?_ ?_) | ((with_reducible refine And.intro ?_ ?_); focus exact xoC) | ((with_reducible refine Or.inl ⟨?_, ?_, ?_⟩); (focus rfl); focus exact xaC) | ((with_reducible refine xwB ?_ ?_); focus exact xaC) | ((with_reducible refine xwC ?_ ?_); focus exact xaC) | ((with_reducible refine xwD ?_ ?_); focus exact xaC) | ((with_reducible refine xwE ?_ ?_); focus exact xaC) | (with_reducible intro hc; (try simp only [capsP, and_true] at hc); (try exact xfC)) | ((fail_if_success (with_reducible first | refine xgon ?_ | intro _)); (conv => whnf); (fail_if_success (fail_if_success (with_reducible first | refine xstp ?_ | refine Both.mk ?_ ?_ | refine xgon ?_ | intro _)))))
  refine xcal (σ := []) (nl := []) (cvalidR f (by omega)) ?_
  rintro v h' ⟨rfl, rfl⟩ hcaps
  refine rH15sC2 ?_
  repeat' (first | (fail_if_success (with_reducible refine xstp ?_)); first | ((with_reducible refine And.intro (fun (hb : _ = true) => ?_) (fun (hb : _ = false) => ?_)) <;> replace hb := xnC hb <;> (try first | exact xfC | exact bff hb (by assumption) | exact bff (by assumption) hb)) | (with_reducible refine Both.mk ?_ ?_) | ((with_reducible refine And.intro ?_ ?_); focus exact xoC) | ((with_reducible refine Or.inl ⟨?_, ?_, ?_⟩); (focus rfl); focus exact xaC) | ((with_reducible refine xwB ?_ ?_); focus exact xaC) | ((with_reducible refine xwC ?_ ?_); focus exact xaC) | ((with_reducible refine xwD ?_ ?_); focus exact xaC) | ((with_reducible refine xwE ?_ ?_); focus exact xaC) | (with_reducible intro hc; (try simp only [capsP, and_true] at hc); (try exact xfC)) | ((fail_if_success (with_reducible first | refine xgon ?_ | intro _)); (conv => whnf); (fail_if_success (fail_if_success (with_reducible first | refine xstp ?_ | refine Both.mk ?_ ?_ | refine xgon ?_ | intro _)))))
  · skip
    refine xcal (σ := []) (nl := []) (cawake) ?_
    rintro v h' ⟨rfl, rfl⟩ hcaps
    refine rH15sC0 ?_
    repeat' (first | (fail_if_success (with_reducible refine xstp ?_)); first | ((with_reducible refine And.intro (fun (hb : _ = true) => ?_) (fun (hb : _ = false) => ?_)) <;> replace hb := xnC hb <;> (try first | exact xfC | exact bff hb (by assumption) | exact bff (by assumption) hb)) | (with_reducible refine Both.mk ?_ ?_) | ((with_reducible refine And.intro ?_ ?_); focus exact xoC) | ((with_reducible refine Or.inl ⟨?_, ?_, ?_⟩); (focus rfl); focus exact xaC) | ((with_reducible refine xwB ?_ ?_); focus exact xaC) | ((with_reducible refine xwC ?_ ?_); focus exact xaC) | ((with_reducible refine xwD ?_ ?_); focus exact xaC) | ((with_reducible refine xwE ?_ ?_); focus exact xaC) | (with_reducible intro hc; (try simp only [capsP, and_true] at hc); (try exact xfC)) | ((fail_if_success (with_reducible first | refine xgon ?_ | intro _)); (conv => whnf); (fail_if_success (fail_if_success (with_reducible first | refine xstp ?_ | refine Both.mk ?_ ?_ | refine xgon ?_ | intro _)))))
    refine FinK.mk ⟨[], _, [], rfl, ?_⟩
    (repeat' first | refine And.intro ?_ ?_ | exact xeC | fail)
  · exfalso
    by_cases h : okF f
    · rw [decide_eq_false (fun e => (frame_ne f).1 e h), decide_eq_true h] at hb
      exact absurd hb (by decide)
    · rw [decide_eq_true ((frame_ne f).2 h), decide_eq_false h] at hb
      exact absurd hb (by decide)
end Go.Proofs.Ytgaodeffbgppmaa

namespace Go.Proofs.Ytgaodeffbgppmaa
open Go.X Go.RowKit
set_option linter.unusedVariables false
theorem nil_read (β : Nm) (W : World) : Fits β [] W ∧ ∀ f x, (Go.X.get [] f x).owned = false := by
  have h : ∀ f x, Go.X.get [] f x = .no := fun f x => by simp [Go.X.get]
  have hno : ∀ f x, (Go.X.get [] f x).owned = false := fun f x => by rw [h]; rfl
  exact ⟨fits_read (fun f x => by rw [h]; trivial) hno, hno⟩
theorem one_read {β : Nm} {W : World} {ck : Ck} (h : ck.holds β W (β 0 0)) (ho : ck.owned = false) : Fits β [.one ck] W ∧ ∀ f x, (Go.X.get [.one ck] f x).owned = false := by
  have hno := get_ones_own (h := [ck]) (by intro q hq; rw [List.mem_singleton.1 hq]; exact ho)
  exact ⟨fits_read (get_ones (h := [ck]) (fun f q hf => by
    match f, hf with
    | 0, hf => cases hf; exact h
    | f + 1, hf => simp at hf)) hno, hno⟩
theorem str_mk (a : ByteArray) : a = mkS a.data.toList := (mkS_of a).symm
abbrev kPk : List K := [.i .i64, .i .i64, .i .i64, .i .i64, .i .i64, .i .i64, .i .i64, .i .i64, .i .i64, .sl [.i .i64], .s]
theorem ft_I {l : List C} (h : FT [.i .i64] l) : ∃ x : Int, l = encI x ∧ True := by
  obtain ⟨a, _, rfl, _, h1⟩ := FT_i h
  obtain rfl := FT_nil h1
  exact ⟨a, rfl, trivial⟩
theorem ft_Pk {W : World} {B : Nat → Nat × Nat × Fl} {D : List DC} (h : FD W B 0 kPk D) :
    ∃ (x : Pk) (c : Nat), (∀ F i, layD F i 0 D = encP (.sl (F 9) i 1 0 x.m.length c) x) ∧ (∀ β e, (Ck.row false false e 1 x.m.length c (rowOf encI x.m)).holds β W (B 9)) ∧ x.m.length ≤ maxLen ∧ x.p.length ≤ 140737488351232 := by
  obtain ⟨a0, _, rfl, _, h1⟩ := FD_i h
  obtain ⟨a1, _, rfl, _, h2⟩ := FD_i h1
  obtain ⟨a2, _, rfl, _, h3⟩ := FD_i h2
  obtain ⟨a3, _, rfl, _, h4⟩ := FD_i h3
  obtain ⟨a4, _, rfl, _, h5⟩ := FD_i h4
  obtain ⟨a5, _, rfl, _, h6⟩ := FD_i h5
  obtain ⟨a6, _, rfl, _, h7⟩ := FD_i h6
  obtain ⟨a7, _, rfl, _, h8⟩ := FD_i h7
  obtain ⟨a8, _, rfl, _, h9⟩ := FD_i h8
  obtain ⟨n, c, R, _, rfl, hnc, hn, hh, hg, h10⟩ := FD_n h9
  obtain ⟨p, _, rfl, hp, h11⟩ := FD_s h10
  obtain rfl := FD_nil h11
  obtain ⟨m, hl, hge, _⟩ := list_of encI (Pr := fun _ => True) (fun i hi => ft_I (hg i hi))
  subst hl
  refine ⟨⟨a0, a1, a2, a3, a4, a5, a6, a7, a8, m, p.data.toList⟩, c, fun F i => ?_, fun β e => holds_row_congr (hh β e) hge, hn, ?_⟩
  · unfold encP
    rw [mkS_of]
    rfl
  · show p.data.toList.length ≤ _
    rw [P4.size_len]; exact hp
theorem walk_PacketOnly (W : World) (a0 : ByteArray) (s0 : a0.size ≤ 140737488351232) :
    Calls Try.prog 8 #[.string a0] W fun e W' => e = .returned (.bool true) ∧ Below W.heap.size W W' := by
  obtain ⟨hf, hno⟩ := nil_read (fun _ _ => (0, 0, .nil)) W
  have := glue (conly a0.data.toList (by rw [P4.size_len]; omega)) hf hno
  rw [mkS_of] at this
  exact this
abbrev kFg : List K := [.i .i64, .i .i64, .i .i64, .s]
theorem ft_Fg {l : List C} (h : FT kFg l) : ∃ x : Fg, l = encG x ∧ x.d.length ≤ 140737488351232 := by
  obtain ⟨a, _, rfl, _, h1⟩ := FT_i h
  obtain ⟨b, _, rfl, _, h2⟩ := FT_i h1
  obtain ⟨m, _, rfl, _, h3⟩ := FT_i h2
  obtain ⟨s, _, rfl, hs, h4⟩ := FT_s h3
  obtain rfl := FT_nil h4
  refine ⟨⟨a, b, m, s.data.toList⟩, ?_, ?_⟩
  · unfold encG
    rw [mkS_of]
  · show s.data.toList.length ≤ _
    rw [P4.size_len]; exact hs
theorem walk_PacketUnframes (W : World) (a0 : ByteArray) (s0 : a0.size ≤ 140737488351232) (c1 : Array Value) (k1 : VKs W kFg c1.toList) :
    Calls Try.prog 6 #[.string a0, .agg c1] W fun e W' => e = .returned (.bool true) ∧ Below W.heap.size W W' := by
  obtain ⟨l0, f0, r0, _, _⟩ := flat_view (by rfl) k1
  obtain ⟨q, rfl, hq⟩ := ft_Fg f0
  obtain ⟨hf, hno⟩ := nil_read (fun _ _ => (0, 0, .nil)) W
  have := glue (cunframes a0.data.toList q (by rw [P4.size_len]; omega) (by omega)) hf hno
  have e0 : renL (fun _ _ => (0, 0, .nil)) (encG q) = c1 := by
    apply Array.toList_inj.1
    rw [← r0 (fun _ _ => (0, 0, .nil))]; rfl
  rw [mkS_of] at this
  simp only [List.map_cons, List.map_nil, T.ren, e0] at this
  exact this
theorem walk_PacketCodes (W : World) (vs : Array Value) (k0 : VKs W kPk (Value.agg vs).cells.toList) (a1 : ByteArray) (s1 : a1.size ≤ 140737488351232) :
    Calls Try.prog 5 #[.agg vs, .string a1] W fun e W' => e = .returned (.bool true) ∧ Below W.heap.size W W' := by
  obtain ⟨B, D, hD, hr, _⟩ := cells_view 0 (ks := kPk) (by rfl) k0
  obtain ⟨x, c, hx, hh, hm, hp⟩ := ft_Pk hD
  have hr1 := hr (fun f _ => if f = 0 then B 9 else B (f - 100)) (fun y => if y = 9 then 0 else y + 100) 0 (fun y _ _ => by
    by_cases h : y = 9
    · simp [h]
    · simp [h])
  rw [hx] at hr1
  obtain ⟨hf, hno⟩ := one_read (β := fun f _ => if f = 0 then B 9 else B (f - 100)) (W := W) (ck := ints false x.m c) (by simpa using hh _ _) rfl
  have := glue (ccodes x c a1.data.toList (by unfold maxLen at hm; omega) (by omega) (by rw [P4.size_len]; omega)) hf hno
  have e1 : renL (fun f _ => if f = 0 then B 9 else B (f - 100)) (encP (.sl 0 0 1 0 x.m.length c) x) = vs := by
    unfold renL
    have h2 : (Value.agg vs).cells.toList = vs.toList := rfl
    rw [h2] at hr1
    exact (congrArg List.toArray hr1).trans (by simp)
  rw [mkS_of] at this
  simp only [List.map_cons, List.map_nil, T.ren, e1] at this
  exact this
end Go.Proofs.Ytgaodeffbgppmaa
