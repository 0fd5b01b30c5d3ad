/- Part 5 of the texts that a walk of this program rests on: an abstract machine, its soundness, contracts of functions. No statement of the seat is proved in this file. -/
import Derived.Test.YtgaodeffbgppmaaZ4
namespace Go.Proofs.Ytgaodeffbgppmaa
open Go.X
set_option linter.unusedSimpArgs false
set_option linter.unusedVariables false
open P4
abbrev noI : List Int := []
def rdL (s : ByteArray) : Nat → Nat → Nat → List Int × Nat × Nat
  | 0, a, e => ([], a, e)
  | n + 1, a, e => (((rdS s a e 1099511627776).1 : Int) :: (rdL s n (rdS s a e 1099511627776).2.1 (rdS s a e 1099511627776).2.2).1, (rdL s n (rdS s a e 1099511627776).2.1 (rdS s a e 1099511627776).2.2).2)
def st (s : ByteArray) (U : Prop) [Decidable U] (q : Nat × Nat) : Nat × Nat × Nat := if U then rdS s q.1 q.2 1099511627776 else (0, q)
def pk0 : Pk := ⟨0, 0, 0, 0, 0, 0, 0, 0, 0, [], []⟩
def decF (s : ByteArray) (k : Nat) (q0 : Nat × Nat) : Pk × Nat × Nat :=
  let f := rdS s q0.1 q0.2 1099511627776
  let t := rdS s f.2.1 f.2.2 1099511627776
  let w := rdS s t.2.1 t.2.2 1099511627776
  let r := rdS s w.2.1 w.2.2 1099511627776
  let q := st s (k = 1 ∨ k = 4 ∨ k = 5) r.2
  let fi := st s (k = 2 ∨ k = 3 ∨ k = 4) q.2
  let la := st s (k = 2 ∨ k = 3 ∨ k = 4) fi.2
  let at' := rdS s la.2.1 la.2.2 1099511627776
  let n := if k = 3 then rdS s at'.2.1 at'.2.2 32 else (0, at'.2)
  let ms := rdL s n.1 n.2.1 n.2.2
  let p := if k = 1 ∨ k = 5 then rdT s ms.2.1 ms.2.2 2000 else ([], ms.2)
  (⟨k, f.1, t.1, w.1, r.1, q.1, fi.1, la.1, at'.1, ms.1, p.1⟩, p.2)
def dec (s : ByteArray) : Pk × Nat :=
  if (rdS s 0 0 5).2.2 ≠ 0 then (pk0, (rdS s 0 0 5).2.2) else if (rdS s 0 0 5).1 = 0 then (pk0, 4)
  else if endV s (decF s (rdS s 0 0 5).1 (rdS s 0 0 5).2).2.1 (decF s (rdS s 0 0 5).1 (rdS s 0 0 5).2).2.2 ≠ 0 then (pk0, endV s (decF s (rdS s 0 0 5).1 (rdS s 0 0 5).2).2.1 (decF s (rdS s 0 0 5).1 (rdS s 0 0 5).2).2.2)
  else if chk (decF s (rdS s 0 0 5).1 (rdS s 0 0 5).2).1 ≠ 0 then (pk0, chk (decF s (rdS s 0 0 5).1 (rdS s 0 0 5).2).1)
  else ((decF s (rdS s 0 0 5).1 (rdS s 0 0 5).2).1, 0)
theorem rdS_max (s : ByteArray) (a e : Nat) (m : Int) (hm : 0 ≤ m) : ((rdS s a e m).1 : Int) ≤ m := by
  rw [rdS_U]
  split
  · split
    · exact hm
    · omega
  · exact hm

theorem rdT_len (s : ByteArray) (a e : Nat) (m : Int) : (rdT s a e m).1.length ≤ s.size := by
  rw [rdT_U]
  repeat' split
  all_goals first
    | exact Nat.zero_le _
    | (simp only [List.length_take, List.length_drop, size_len]; omega)
theorem dec_of {s : ByteArray} {r0 : Nat × Nat × Nat} {x : Pk} {a e : Nat} (h0 : rdS s 0 0 5 = r0) (he : r0.2.2 = 0) (hk : ¬ r0.1 = 0) (hF : decF s r0.1 r0.2 = (x, a, e)) :
    dec s = if endV s a e ≠ 0 then (pk0, endV s a e) else if chk x ≠ 0 then (pk0, chk x) else (x, 0) := by
  unfold dec
  simp only [h0, hF]
  rw [if_neg (by omega), if_neg hk]

theorem rH15pD0 {σ : List Sg} {H h' : List Fam} {v : T} {K : T → List Fam → Prop} {H' : List Fam} {v' : T} {N : Nat} (hk : K v' H') (hN : H.length = N := by (try simp only [↓List.length_cons, ↓List.length_nil, Nat.reduceAdd]) <;> rfl) (h : givesF σ N H σ h' = some H' := by (try simp (maxSteps := 1000000) only [givesF, setF, updF, Fam.zeroth, Fam.rk, Ck.rk, C.rk, E.rk, T.rk, key, List.map_cons, List.map_nil, List.cons_append, List.nil_append, List.length_cons, List.length_nil, Option.map_some, Option.bind_some, Nat.reduceAdd, Nat.zero_add, Nat.add_zero, Nat.add_sub_cancel_left, Int.toNat_natCast, reps, List.all_cons, List.all_nil, C.flat, List.append_eq, Bool.not_true, Bool.and_true, Bool.or_false, Bool.or_self, Bool.not_false, List.append_nil, Bool.and_self, encP]) <;> rfl) (hv : v.rk σ N = v' := by (try simp only [givesF, setF, updF, Fam.zeroth, Fam.rk, Ck.rk, C.rk, E.rk, T.rk, key, List.map_cons, List.map_nil, List.cons_append, List.nil_append, List.length_cons, List.length_nil, Option.map_some, Option.bind_some, Nat.reduceAdd, Nat.zero_add, Nat.add_zero, Nat.add_sub_cancel_left, Int.toNat_natCast, reps, List.all_cons, List.all_nil, C.flat, List.append_eq, Bool.not_true, Bool.and_true, Bool.or_false, Bool.or_self, Bool.not_false, List.append_nil, Bool.and_self, encP]) <;> rfl) : RetG σ H h' v K := ret_mk3 hN h hv hk
theorem rH15pD1 {σ : List Sg} {H h' : List Fam} {v : T} {K : T → List Fam → Prop} {H' : List Fam} {v' : T} {N : Nat} (hk : K v' H') (hN : H.length = N := by (try simp only [↓List.length_cons, ↓List.length_nil, Nat.reduceAdd]) <;> rfl) (h : givesF σ N H σ h' = some H' := by (try simp (maxSteps := 1000000) only [givesF, setF, updF, Fam.zeroth, Fam.rk, Ck.rk, C.rk, E.rk, T.rk, key, List.map_cons, List.map_nil, List.cons_append, List.nil_append, List.length_cons, List.length_nil, Option.map_some, Option.bind_some, Nat.reduceAdd, Nat.zero_add, Nat.add_zero, Nat.add_sub_cancel_left, Int.toNat_natCast, reps, List.all_cons, List.all_nil, C.flat, List.append_eq, Bool.not_true, Bool.and_true, Bool.or_false, Bool.or_self, Bool.not_false, List.append_nil, Bool.and_self, encP, usesL]) <;> rfl) (hv : v.rk σ N = v' := by (try simp only [givesF, setF, updF, Fam.zeroth, Fam.rk, Ck.rk, C.rk, E.rk, T.rk, key, List.map_cons, List.map_nil, List.cons_append, List.nil_append, List.length_cons, List.length_nil, Option.map_some, Option.bind_some, Nat.reduceAdd, Nat.zero_add, Nat.add_zero, Nat.add_sub_cancel_left, Int.toNat_natCast, reps, List.all_cons, List.all_nil, C.flat, List.append_eq, Bool.not_true, Bool.and_true, Bool.or_false, Bool.or_self, Bool.not_false, List.append_nil, Bool.and_self, encP, usesL]) <;> rfl) : RetG σ H h' v K := ret_mk3 hN h hv hk
set_option maxRecDepth 20000 in
set_option maxHeartbeats 4000000 in
theorem cDecode (s : ByteArray) (hs : s.size ≤ 1000000) :
    Ctr Try.prog 20 [.c (.s s)] [] fun v h => ∃ c, v = .t [.a (encP (.sl 0 0 1 0 (dec s).1.m.length c) (dec s).1), .c (.i .i64 ((dec s).2 : Nat))] ∧ h = [.one (ints true (dec s).1.m c)] := by
  have hs6 := hs
  have hs : s.size ≤ 140737488355328 := by omega
  refine Ctr.mk' tbv mixed Try.func20 rfl rfl rfl (fun _ _ => by kernel_rfl) (by kernel_rfl) (by rfl) (by rfl) (by (repeat' first | refine And.intro ?_ ?_ | exact xeC | fail)) ?_
  repeat' (first | (fail_if_success (with_reducible refine xstp ?_)); first | ((with_reducible refine And.intro (fun (hb : _ = true) => ?_) (fun (hb : _ = false) => ?_)) <;> replace hb := xnC hb <;> (try first | exact xfC | exact bff hb (by assumption) | exact bff (by assumption) hb)) | (with_reducible refine Both.mk ?_ ?_) | ((with_reducible refine And.intro ?_ ?_); focus exact xoC) | ((with_reducible refine Or.inl ⟨?_, ?_, ?_⟩); (focus rfl); focus exact xaC) | ((with_reducible refine xwB ?_ ?_); focus exact xaC) | ((with_reducible refine xwC ?_ ?_); focus exact xaC) | ((with_reducible refine xwD ?_ ?_); focus exact xaC) | ((with_reducible refine xwE ?_ ?_); focus exact xaC) | (with_reducible intro hc; (try simp only [capsP, and_true] at hc); (try exact xfC)) | ((fail_if_success (with_reducible first | refine xgon ?_ | intro _)); (conv => whnf); (fail_if_success (fail_if_success (with_reducible first | refine xstp ?_ | refine Both.mk ?_ ?_ | refine xgon ?_ | intro _)))))
  refine xcal (σ := []) (nl := []) (cNew s) ?_
  rintro v h' ⟨rfl, rfl⟩ hcaps
  refine xret ?_
  repeat' (first | (fail_if_success (with_reducible refine xstp ?_)); first | ((with_reducible refine And.intro (fun (hb : _ = true) => ?_) (fun (hb : _ = false) => ?_)) <;> replace hb := xnC hb <;> (try first | exact xfC | exact bff hb (by assumption) | exact bff (by assumption) hb)) | (with_reducible refine Both.mk ?_ ?_) | ((with_reducible refine And.intro ?_ ?_); focus exact xoC) | ((with_reducible refine Or.inl ⟨?_, ?_, ?_⟩); (focus rfl); focus exact xaC) | ((with_reducible refine xwB ?_ ?_); focus exact xaC) | ((with_reducible refine xwC ?_ ?_); focus exact xaC) | ((with_reducible refine xwD ?_ ?_); focus exact xaC) | ((with_reducible refine xwE ?_ ?_); focus exact xaC) | (with_reducible intro hc; (try simp only [capsP, and_true] at hc); (try exact xfC)) | ((fail_if_success (with_reducible first | refine xgon ?_ | intro _)); (conv => whnf); (fail_if_success (fail_if_success (with_reducible first | refine xstp ?_ | refine Both.mk ?_ ?_ | refine xgon ?_ | intro _)))))
  have hx := rdS_max s 0 0 5 (by decide)
  refine xcal (σ := [.whole 1]) (nl := []) (crSmall s (0) (0) 5 (by omega) hs (by decide)) ?_
  rintro v h' ⟨rfl, rfl⟩ hcaps
  have lr0 := rdS_le (s := s) (a := 0) (e := 0) (m := 5) (by omega)
  generalize er0 : rdS s (0) (0) 5 = r0 at *
  refine rH15pD0 ?_
  repeat' (first | (fail_if_success (with_reducible refine xstp ?_)); first | ((with_reducible refine And.intro (fun (hb : _ = true) => ?_) (fun (hb : _ = false) => ?_)) <;> replace hb := xnC hb <;> (try first | exact xfC | exact bff hb (by assumption) | exact bff (by assumption) hb)) | (with_reducible refine Both.mk ?_ ?_) | ((with_reducible refine And.intro ?_ ?_); focus exact xoC) | ((with_reducible refine Or.inl ⟨?_, ?_, ?_⟩); (focus rfl); focus exact xaC) | ((with_reducible refine xwB ?_ ?_); focus exact xaC) | ((with_reducible refine xwC ?_ ?_); focus exact xaC) | ((with_reducible refine xwD ?_ ?_); focus exact xaC) | ((with_reducible refine xwE ?_ ?_); focus exact xaC) | (with_reducible intro hc; (try simp only [capsP, and_true] at hc); (try exact xfC)) | ((fail_if_success (with_reducible first | refine xgon ?_ | intro _)); (conv => whnf); (fail_if_success (fail_if_success (with_reducible first | refine xstp ?_ | refine Both.mk ?_ ?_ | refine xgon ?_ | intro _)))))
  refine xcal (σ := [.whole 1]) (nl := []) (cErr s r0.2.1 r0.2.2) ?_
  rintro v h' ⟨rfl, rfl⟩ hcaps
  refine rH15pD0 ?_
  repeat' (first | (fail_if_success (with_reducible refine xstp ?_)); first | ((with_reducible refine And.intro (fun (hb : _ = true) => ?_) (fun (hb : _ = false) => ?_)) <;> replace hb := xnC hb <;> (try first | exact xfC | exact bff hb (by assumption) | exact bff (by assumption) hb)) | (with_reducible refine Both.mk ?_ ?_) | ((with_reducible refine And.intro ?_ ?_); focus exact xoC) | ((with_reducible refine Or.inl ⟨?_, ?_, ?_⟩); (focus rfl); focus exact xaC) | ((with_reducible refine xwB ?_ ?_); focus exact xaC) | ((with_reducible refine xwC ?_ ?_); focus exact xaC) | ((with_reducible refine xwD ?_ ?_); focus exact xaC) | ((with_reducible refine xwE ?_ ?_); focus exact xaC) | (with_reducible intro hc; (try simp only [capsP, and_true] at hc); (try exact xfC)) | ((fail_if_success (with_reducible first | refine xgon ?_ | intro _)); (conv => whnf); (fail_if_success (fail_if_success (with_reducible first | refine xstp ?_ | refine Both.mk ?_ ?_ | refine xgon ?_ | intro _)))))
  · have hd : dec s = (pk0, r0.2.2) := by unfold dec; simp only [er0]; rw [if_pos (by omega)]
    rw [hd]
    refine xcal (σ := [.whole 1]) (nl := []) (cErr s r0.2.1 r0.2.2) ?_
    rintro v h' ⟨rfl, rfl⟩ hcaps
    refine rH15pD0 ?_
    repeat' (first | (fail_if_success (with_reducible refine xstp ?_)); first | ((with_reducible refine And.intro (fun (hb : _ = true) => ?_) (fun (hb : _ = false) => ?_)) <;> replace hb := xnC hb <;> (try first | exact xfC | exact bff hb (by assumption) | exact bff (by assumption) hb)) | (with_reducible refine Both.mk ?_ ?_) | ((with_reducible refine And.intro ?_ ?_); focus exact xoC) | ((with_reducible refine Or.inl ⟨?_, ?_, ?_⟩); (focus rfl); focus exact xaC) | ((with_reducible refine xwB ?_ ?_); focus exact xaC) | ((with_reducible refine xwC ?_ ?_); focus exact xaC) | ((with_reducible refine xwD ?_ ?_); focus exact xaC) | ((with_reducible refine xwE ?_ ?_); focus exact xaC) | (with_reducible intro hc; (try simp only [capsP, and_true] at hc); (try exact xfC)) | ((fail_if_success (with_reducible first | refine xgon ?_ | intro _)); (conv => whnf); (fail_if_success (fail_if_success (with_reducible first | refine xstp ?_ | refine Both.mk ?_ ?_ | refine xgon ?_ | intro _)))))
    refine FinK.mk ⟨[99], _, _, ⟨0, rfl, rfl⟩, ?_⟩
    (repeat' first | refine And.intro ?_ ?_ | exact xeC | fail)
    all_goals first | rfl | (intro i hi; exact absurd hi (Nat.not_lt_zero i))
  have he0 : r0.2.2 = 0 := by omega
  refine xcal (σ := []) (nl := []) (cuses (r0.1 : Nat)) ?_
  rintro v h' ⟨rfl, rfl⟩ hcaps
  refine rH15pD1 ?_
  repeat' (first | (fail_if_success (with_reducible refine xstp ?_)); first | ((with_reducible refine And.intro (fun (hb : _ = true) => ?_) (fun (hb : _ = false) => ?_)) <;> replace hb := xnC hb <;> (try first | exact xfC | exact bff hb (by assumption) | exact bff (by assumption) hb)) | (with_reducible refine Both.mk ?_ ?_) | ((with_reducible refine And.intro ?_ ?_); focus exact xoC) | ((with_reducible refine Or.inl ⟨?_, ?_, ?_⟩); (focus rfl); focus exact xaC) | ((with_reducible refine xwB ?_ ?_); focus exact xaC) | ((with_reducible refine xwC ?_ ?_); focus exact xaC) | ((with_reducible refine xwD ?_ ?_); focus exact xaC) | ((with_reducible refine xwE ?_ ?_); focus exact xaC) | (with_reducible intro hc; (try simp only [capsP, and_true] at hc); (try exact xfC)) | ((fail_if_success (with_reducible first | refine xgon ?_ | intro _)); (conv => whnf); (fail_if_success (fail_if_success (with_reducible first | refine xstp ?_ | refine Both.mk ?_ ?_ | refine xgon ?_ | intro _)))))
  · have hd : dec s = (pk0, 4) := by unfold dec; simp only [er0]; rw [if_neg (by omega), if_pos (by omega)]
    rw [hd]
    refine FinK.mk ⟨[99], _, _, ⟨0, rfl, rfl⟩, ?_⟩
    (repeat' first | refine And.intro ?_ ?_ | exact xeC | fail)
    all_goals first | rfl | (intro i hi; exact absurd hi (Nat.not_lt_zero i))
  have hk0 : ¬ r0.1 = 0 := by omega
  refine xcal (σ := [.whole 1]) (nl := []) (crSmall s (r0.2.1) (r0.2.2) 1099511627776 (by omega) hs (by decide)) ?_
  rintro v h' ⟨rfl, rfl⟩ hcaps
  have lf := rdS_le (s := s) (a := r0.2.1) (e := r0.2.2) (m := 1099511627776) (by omega)
  generalize ef : rdS s (r0.2.1) (r0.2.2) 1099511627776 = f at *
  refine rH15pD0 ?_
  repeat' (first | (fail_if_success (with_reducible refine xstp ?_)); first | ((with_reducible refine And.intro (fun (hb : _ = true) => ?_) (fun (hb : _ = false) => ?_)) <;> replace hb := xnC hb <;> (try first | exact xfC | exact bff hb (by assumption) | exact bff (by assumption) hb)) | (with_reducible refine Both.mk ?_ ?_) | ((with_reducible refine And.intro ?_ ?_); focus exact xoC) | ((with_reducible refine Or.inl ⟨?_, ?_, ?_⟩); (focus rfl); focus exact xaC) | ((with_reducible refine xwB ?_ ?_); focus exact xaC) | ((with_reducible refine xwC ?_ ?_); focus exact xaC) | ((with_reducible refine xwD ?_ ?_); focus exact xaC) | ((with_reducible refine xwE ?_ ?_); focus exact xaC) | (with_reducible intro hc; (try simp only [capsP, and_true] at hc); (try exact xfC)) | ((fail_if_success (with_reducible first | refine xgon ?_ | intro _)); (conv => whnf); (fail_if_success (fail_if_success (with_reducible first | refine xstp ?_ | refine Both.mk ?_ ?_ | refine xgon ?_ | intro _)))))
  refine xcal (σ := [.whole 1]) (nl := []) (crSmall s (f.2.1) (f.2.2) 1099511627776 (by omega) hs (by decide)) ?_
  rintro v h' ⟨rfl, rfl⟩ hcaps
  have lt := rdS_le (s := s) (a := f.2.1) (e := f.2.2) (m := 1099511627776) (by omega)
  generalize et : rdS s (f.2.1) (f.2.2) 1099511627776 = t at *
  refine rH15pD0 ?_
  repeat' (first | (fail_if_success (with_reducible refine xstp ?_)); first | ((with_reducible refine And.intro (fun (hb : _ = true) => ?_) (fun (hb : _ = false) => ?_)) <;> replace hb := xnC hb <;> (try first | exact xfC | exact bff hb (by assumption) | exact bff (by assumption) hb)) | (with_reducible refine Both.mk ?_ ?_) | ((with_reducible refine And.intro ?_ ?_); focus exact xoC) | ((with_reducible refine Or.inl ⟨?_, ?_, ?_⟩); (focus rfl); focus exact xaC) | ((with_reducible refine xwB ?_ ?_); focus exact xaC) | ((with_reducible refine xwC ?_ ?_); focus exact xaC) | ((with_reducible refine xwD ?_ ?_); focus exact xaC) | ((with_reducible refine xwE ?_ ?_); focus exact xaC) | (with_reducible intro hc; (try simp only [capsP, and_true] at hc); (try exact xfC)) | ((fail_if_success (with_reducible first | refine xgon ?_ | intro _)); (conv => whnf); (fail_if_success (fail_if_success (with_reducible first | refine xstp ?_ | refine Both.mk ?_ ?_ | refine xgon ?_ | intro _)))))
  refine xcal (σ := [.whole 1]) (nl := []) (crSmall s (t.2.1) (t.2.2) 1099511627776 (by omega) hs (by decide)) ?_
  rintro v h' ⟨rfl, rfl⟩ hcaps
  have lw := rdS_le (s := s) (a := t.2.1) (e := t.2.2) (m := 1099511627776) (by omega)
  generalize ew : rdS s (t.2.1) (t.2.2) 1099511627776 = w at *
  refine rH15pD0 ?_
  repeat' (first | (fail_if_success (with_reducible refine xstp ?_)); first | ((with_reducible refine And.intro (fun (hb : _ = true) => ?_) (fun (hb : _ = false) => ?_)) <;> replace hb := xnC hb <;> (try first | exact xfC | exact bff hb (by assumption) | exact bff (by assumption) hb)) | (with_reducible refine Both.mk ?_ ?_) | ((with_reducible refine And.intro ?_ ?_); focus exact xoC) | ((with_reducible refine Or.inl ⟨?_, ?_, ?_⟩); (focus rfl); focus exact xaC) | ((with_reducible refine xwB ?_ ?_); focus exact xaC) | ((with_reducible refine xwC ?_ ?_); focus exact xaC) | ((with_reducible refine xwD ?_ ?_); focus exact xaC) | ((with_reducible refine xwE ?_ ?_); focus exact xaC) | (with_reducible intro hc; (try simp only [capsP, and_true] at hc); (try exact xfC)) | ((fail_if_success (with_reducible first | refine xgon ?_ | intro _)); (conv => whnf); (fail_if_success (fail_if_success (with_reducible first | refine xstp ?_ | refine Both.mk ?_ ?_ | refine xgon ?_ | intro _)))))
  refine xcal (σ := [.whole 1]) (nl := []) (crSmall s (w.2.1) (w.2.2) 1099511627776 (by omega) hs (by decide)) ?_
  rintro v h' ⟨rfl, rfl⟩ hcaps
  have lr := rdS_le (s := s) (a := w.2.1) (e := w.2.2) (m := 1099511627776) (by omega)
  generalize er : rdS s (w.2.1) (w.2.2) 1099511627776 = r at *
  refine rH15pD0 ?_
  repeat' (first | (fail_if_success (with_reducible refine xstp ?_)); first | ((with_reducible refine And.intro (fun (hb : _ = true) => ?_) (fun (hb : _ = false) => ?_)) <;> replace hb := xnC hb <;> (try first | exact xfC | exact bff hb (by assumption) | exact bff (by assumption) hb)) | (with_reducible refine Both.mk ?_ ?_) | ((with_reducible refine And.intro ?_ ?_); focus exact xoC) | ((with_reducible refine Or.inl ⟨?_, ?_, ?_⟩); (focus rfl); focus exact xaC) | ((with_reducible refine xwB ?_ ?_); focus exact xaC) | ((with_reducible refine xwC ?_ ?_); focus exact xaC) | ((with_reducible refine xwD ?_ ?_); focus exact xaC) | ((with_reducible refine xwE ?_ ?_); focus exact xaC) | (with_reducible intro hc; (try simp only [capsP, and_true] at hc); (try exact xfC)) | ((fail_if_success (with_reducible first | refine xgon ?_ | intro _)); (conv => whnf); (fail_if_success (fail_if_success (with_reducible first | refine xstp ?_ | refine Both.mk ?_ ?_ | refine xgon ?_ | intro _)))))
  · have b1 : r0.1 = 1 ∨ r0.1 = 4 ∨ r0.1 = 5 := by omega
    refine xcal (σ := [.whole 1]) (nl := []) (crSmall s (r.2.1) (r.2.2) 1099511627776 (by omega) hs (by decide)) ?_
    rintro v h' ⟨rfl, rfl⟩ hcaps
    have lq := rdS_le (s := s) (a := r.2.1) (e := r.2.2) (m := 1099511627776) (by omega)
    generalize eq : rdS s (r.2.1) (r.2.2) 1099511627776 = q at *
    refine rH15pD0 ?_
    repeat' (first | (fail_if_success (with_reducible refine xstp ?_)); first | ((with_reducible refine And.intro (fun (hb : _ = true) => ?_) (fun (hb : _ = false) => ?_)) <;> replace hb := xnC hb <;> (try first | exact xfC | exact bff hb (by assumption) | exact bff (by assumption) hb)) | (with_reducible refine Both.mk ?_ ?_) | ((with_reducible refine And.intro ?_ ?_); focus exact xoC) | ((with_reducible refine Or.inl ⟨?_, ?_, ?_⟩); (focus rfl); focus exact xaC) | ((with_reducible refine xwB ?_ ?_); focus exact xaC) | ((with_reducible refine xwC ?_ ?_); focus exact xaC) | ((with_reducible refine xwD ?_ ?_); focus exact xaC) | ((with_reducible refine xwE ?_ ?_); focus exact xaC) | (with_reducible intro hc; (try simp only [capsP, and_true] at hc); (try exact xfC)) | ((fail_if_success (with_reducible first | refine xgon ?_ | intro _)); (conv => whnf); (fail_if_success (fail_if_success (with_reducible first | refine xstp ?_ | refine Both.mk ?_ ?_ | refine xgon ?_ | intro _)))))
    · skip
      refine xcal (σ := [.whole 1]) (nl := []) (crSmall s (q.2.1) (q.2.2) 1099511627776 (by omega) hs (by decide)) ?_
      rintro v h' ⟨rfl, rfl⟩ hcaps
      have lfi := rdS_le (s := s) (a := q.2.1) (e := q.2.2) (m := 1099511627776) (by omega)
      generalize efi : rdS s (q.2.1) (q.2.2) 1099511627776 = fi at *
      refine rH15pD0 ?_
      repeat' (first | (fail_if_success (with_reducible refine xstp ?_)); first | ((with_reducible refine And.intro (fun (hb : _ = true) => ?_) (fun (hb : _ = false) => ?_)) <;> replace hb := xnC hb <;> (try first | exact xfC | exact bff hb (by assumption) | exact bff (by assumption) hb)) | (with_reducible refine Both.mk ?_ ?_) | ((with_reducible refine And.intro ?_ ?_); focus exact xoC) | ((with_reducible refine Or.inl ⟨?_, ?_, ?_⟩); (focus rfl); focus exact xaC) | ((with_reducible refine xwB ?_ ?_); focus exact xaC) | ((with_reducible refine xwC ?_ ?_); focus exact xaC) | ((with_reducible refine xwD ?_ ?_); focus exact xaC) | ((with_reducible refine xwE ?_ ?_); focus exact xaC) | (with_reducible intro hc; (try simp only [capsP, and_true] at hc); (try exact xfC)) | ((fail_if_success (with_reducible first | refine xgon ?_ | intro _)); (conv => whnf); (fail_if_success (fail_if_success (with_reducible first | refine xstp ?_ | refine Both.mk ?_ ?_ | refine xgon ?_ | intro _)))))
      refine xcal (σ := [.whole 1]) (nl := []) (crSmall s (fi.2.1) (fi.2.2) 1099511627776 (by omega) hs (by decide)) ?_
      rintro v h' ⟨rfl, rfl⟩ hcaps
      have lla := rdS_le (s := s) (a := fi.2.1) (e := fi.2.2) (m := 1099511627776) (by omega)
      generalize ela : rdS s (fi.2.1) (fi.2.2) 1099511627776 = la at *
      refine rH15pD0 ?_
      repeat' (first | (fail_if_success (with_reducible refine xstp ?_)); first | ((with_reducible refine And.intro (fun (hb : _ = true) => ?_) (fun (hb : _ = false) => ?_)) <;> replace hb := xnC hb <;> (try first | exact xfC | exact bff hb (by assumption) | exact bff (by assumption) hb)) | (with_reducible refine Both.mk ?_ ?_) | ((with_reducible refine And.intro ?_ ?_); focus exact xoC) | ((with_reducible refine Or.inl ⟨?_, ?_, ?_⟩); (focus rfl); focus exact xaC) | ((with_reducible refine xwB ?_ ?_); focus exact xaC) | ((with_reducible refine xwC ?_ ?_); focus exact xaC) | ((with_reducible refine xwD ?_ ?_); focus exact xaC) | ((with_reducible refine xwE ?_ ?_); focus exact xaC) | (with_reducible intro hc; (try simp only [capsP, and_true] at hc); (try exact xfC)) | ((fail_if_success (with_reducible first | refine xgon ?_ | intro _)); (conv => whnf); (fail_if_success (fail_if_success (with_reducible first | refine xstp ?_ | refine Both.mk ?_ ?_ | refine xgon ?_ | intro _)))))
      refine xcal (σ := [.whole 1]) (nl := []) (crSmall s (la.2.1) (la.2.2) 1099511627776 (by omega) hs (by decide)) ?_
      rintro v h' ⟨rfl, rfl⟩ hcaps
      have lat' := rdS_le (s := s) (a := la.2.1) (e := la.2.2) (m := 1099511627776) (by omega)
      generalize eat' : rdS s (la.2.1) (la.2.2) 1099511627776 = at' at *
      refine rH15pD0 ?_
      repeat' (first | (fail_if_success (with_reducible refine xstp ?_)); first | ((with_reducible refine And.intro (fun (hb : _ = true) => ?_) (fun (hb : _ = false) => ?_)) <;> replace hb := xnC hb <;> (try first | exact xfC | exact bff hb (by assumption) | exact bff (by assumption) hb)) | (with_reducible refine Both.mk ?_ ?_) | ((with_reducible refine And.intro ?_ ?_); focus exact xoC) | ((with_reducible refine Or.inl ⟨?_, ?_, ?_⟩); (focus rfl); focus exact xaC) | ((with_reducible refine xwB ?_ ?_); focus exact xaC) | ((with_reducible refine xwC ?_ ?_); focus exact xaC) | ((with_reducible refine xwD ?_ ?_); focus exact xaC) | ((with_reducible refine xwE ?_ ?_); focus exact xaC) | (with_reducible intro hc; (try simp only [capsP, and_true] at hc); (try exact xfC)) | ((fail_if_success (with_reducible first | refine xgon ?_ | intro _)); (conv => whnf); (fail_if_success (fail_if_success (with_reducible first | refine xstp ?_ | refine Both.mk ?_ ?_ | refine xgon ?_ | intro _)))))
      have b2 : r0.1 = 2 ∨ r0.1 = 3 ∨ r0.1 = 4 := by omega
      have b3 : ¬ (r0.1 = 3) := by omega
      have b4 : ¬ (r0.1 = 1 ∨ r0.1 = 5) := by omega
      have hD := dec_of er0 he0 hk0 (x := (⟨r0.1, f.1, t.1, w.1, r.1, q.1, fi.1, la.1, at'.1, [], []⟩ : Pk)) (a := at'.2.1) (e := at'.2.2) (by simp only [decF, st, if_pos b1, if_pos b2, if_neg b3, if_neg b4, ef, et, ew, er, eq, efi, ela, eat', rdL]; first | done | rfl)
      refine xcal (σ := [.whole 1]) (nl := []) (cEnd s (at'.2.1) (at'.2.2) (by omega) hs) ?_
      rintro v h' ⟨rfl, rfl⟩ hcaps
      generalize endV s (at'.2.1) (at'.2.2) = z at *
      refine rH15pD0 ?_
      repeat' (first | (fail_if_success (with_reducible refine xstp ?_)); first | ((with_reducible refine And.intro (fun (hb : _ = true) => ?_) (fun (hb : _ = false) => ?_)) <;> replace hb := xnC hb <;> (try first | exact xfC | exact bff hb (by assumption) | exact bff (by assumption) hb)) | (with_reducible refine Both.mk ?_ ?_) | ((with_reducible refine And.intro ?_ ?_); focus exact xoC) | ((with_reducible refine Or.inl ⟨?_, ?_, ?_⟩); (focus rfl); focus exact xaC) | ((with_reducible refine xwB ?_ ?_); focus exact xaC) | ((with_reducible refine xwC ?_ ?_); focus exact xaC) | ((with_reducible refine xwD ?_ ?_); focus exact xaC) | ((with_reducible refine xwE ?_ ?_); focus exact xaC) | (with_reducible intro hc; (try simp only [capsP, and_true] at hc); (try exact xfC)) | ((fail_if_success (with_reducible first | refine xgon ?_ | intro _)); (conv => whnf); (fail_if_success (fail_if_success (with_reducible first | refine xstp ?_ | refine Both.mk ?_ ?_ | refine xgon ?_ | intro _)))))
      · rw [if_neg (by omega)] at hD
        refine xcal (σ := [.whole 4]) (nl := [.one (ints true noI 0)]) (cCheck ((⟨r0.1, f.1, t.1, w.1, r.1, q.1, fi.1, la.1, at'.1, [], []⟩ : Pk)) true 0 (by first | exact Nat.zero_le _ | omega | (simp only; omega)) (by first | exact Nat.zero_le _ | omega | (simp only; omega))) ?_
        rintro v h' ⟨rfl, rfl⟩ hcaps
        refine rH15pD0 ?_
        repeat' (first | (fail_if_success (with_reducible refine xstp ?_)); first | ((with_reducible refine And.intro (fun (hb : _ = true) => ?_) (fun (hb : _ = false) => ?_)) <;> replace hb := xnC hb <;> (try first | exact xfC | exact bff hb (by assumption) | exact bff (by assumption) hb)) | (with_reducible refine Both.mk ?_ ?_) | ((with_reducible refine And.intro ?_ ?_); focus exact xoC) | ((with_reducible refine Or.inl ⟨?_, ?_, ?_⟩); (focus rfl); focus exact xaC) | ((with_reducible refine xwB ?_ ?_); focus exact xaC) | ((with_reducible refine xwC ?_ ?_); focus exact xaC) | ((with_reducible refine xwD ?_ ?_); focus exact xaC) | ((with_reducible refine xwE ?_ ?_); focus exact xaC) | (with_reducible intro hc; (try simp only [capsP, and_true] at hc); (try exact xfC)) | ((fail_if_success (with_reducible first | refine xgon ?_ | intro _)); (conv => whnf); (fail_if_success (fail_if_success (with_reducible first | refine xstp ?_ | refine Both.mk ?_ ?_ | refine xgon ?_ | intro _)))))
        · rw [if_pos (by omega)] at hD
          rw [hD]
          refine FinK.mk ⟨[99], _, _, ⟨0, rfl, rfl⟩, ?_⟩
          (repeat' first | refine And.intro ?_ ?_ | exact xeC | fail)
          all_goals first | rfl | (intro i hi; exact absurd hi (Nat.not_lt_zero i))
        · rw [if_neg (by omega)] at hD
          rw [hD]
          refine FinK.mk ⟨[99], _, _, ⟨0, rfl, rfl⟩, ?_⟩
          (repeat' first | refine And.intro ?_ ?_ | exact xeC | fail)
          all_goals first | rfl | (intro i hi; exact absurd hi (Nat.not_lt_zero i))
      · rw [if_pos (by omega)] at hD
        rw [hD]
        refine FinK.mk ⟨[99], _, _, ⟨0, rfl, rfl⟩, ?_⟩
        (repeat' first | refine And.intro ?_ ?_ | exact xeC | fail)
        all_goals first | rfl | (intro i hi; exact absurd hi (Nat.not_lt_zero i))
    · skip
      refine xcal (σ := [.whole 1]) (nl := []) (crSmall s (q.2.1) (q.2.2) 1099511627776 (by omega) hs (by decide)) ?_
      rintro v h' ⟨rfl, rfl⟩ hcaps
      have lat' := rdS_le (s := s) (a := q.2.1) (e := q.2.2) (m := 1099511627776) (by omega)
      generalize eat' : rdS s (q.2.1) (q.2.2) 1099511627776 = at' at *
      refine rH15pD0 ?_
      repeat' (first | (fail_if_success (with_reducible refine xstp ?_)); first | ((with_reducible refine And.intro (fun (hb : _ = true) => ?_) (fun (hb : _ = false) => ?_)) <;> replace hb := xnC hb <;> (try first | exact xfC | exact bff hb (by assumption) | exact bff (by assumption) hb)) | (with_reducible refine Both.mk ?_ ?_) | ((with_reducible refine And.intro ?_ ?_); focus exact xoC) | ((with_reducible refine Or.inl ⟨?_, ?_, ?_⟩); (focus rfl); focus exact xaC) | ((with_reducible refine xwB ?_ ?_); focus exact xaC) | ((with_reducible refine xwC ?_ ?_); focus exact xaC) | ((with_reducible refine xwD ?_ ?_); focus exact xaC) | ((with_reducible refine xwE ?_ ?_); focus exact xaC) | (with_reducible intro hc; (try simp only [capsP, and_true] at hc); (try exact xfC)) | ((fail_if_success (with_reducible first | refine xgon ?_ | intro _)); (conv => whnf); (fail_if_success (fail_if_success (with_reducible first | refine xstp ?_ | refine Both.mk ?_ ?_ | refine xgon ?_ | intro _)))))
      have b2 : ¬ (r0.1 = 2 ∨ r0.1 = 3 ∨ r0.1 = 4) := by omega
      have b3 : ¬ (r0.1 = 3) := by omega
      have b4 : r0.1 = 1 ∨ r0.1 = 5 := by omega
      refine xcal (σ := [.whole 1]) (nl := []) (crText s at'.2.1 at'.2.2 2000 (by omega) hs (by decide)) ?_
      rintro v h' ⟨rfl, rfl⟩ hcaps
      have lp := rdT_le (s := s) (a := at'.2.1) (e := at'.2.2) (m := 2000) (by omega)
      have hpl := rdT_len s at'.2.1 at'.2.2 2000
      generalize ep : rdT s at'.2.1 at'.2.2 2000 = p at *
      refine rH15pD0 ?_
      repeat' (first | (fail_if_success (with_reducible refine xstp ?_)); first | ((with_reducible refine And.intro (fun (hb : _ = true) => ?_) (fun (hb : _ = false) => ?_)) <;> replace hb := xnC hb <;> (try first | exact xfC | exact bff hb (by assumption) | exact bff (by assumption) hb)) | (with_reducible refine Both.mk ?_ ?_) | ((with_reducible refine And.intro ?_ ?_); focus exact xoC) | ((with_reducible refine Or.inl ⟨?_, ?_, ?_⟩); (focus rfl); focus exact xaC) | ((with_reducible refine xwB ?_ ?_); focus exact xaC) | ((with_reducible refine xwC ?_ ?_); focus exact xaC) | ((with_reducible refine xwD ?_ ?_); focus exact xaC) | ((with_reducible refine xwE ?_ ?_); focus exact xaC) | (with_reducible intro hc; (try simp only [capsP, and_true] at hc); (try exact xfC)) | ((fail_if_success (with_reducible first | refine xgon ?_ | intro _)); (conv => whnf); (fail_if_success (fail_if_success (with_reducible first | refine xstp ?_ | refine Both.mk ?_ ?_ | refine xgon ?_ | intro _)))))
      have hD := dec_of er0 he0 hk0 (x := (⟨r0.1, f.1, t.1, w.1, r.1, q.1, 0, 0, at'.1, [], p.1⟩ : Pk)) (a := p.2.1) (e := p.2.2) (by simp only [decF, st, if_pos b1, if_neg b2, if_neg b3, if_pos b4, ef, et, ew, er, eq, eat', ep, rdL]; first | done | rfl)
      refine xcal (σ := [.whole 1]) (nl := []) (cEnd s (p.2.1) (p.2.2) (by omega) hs) ?_
      rintro v h' ⟨rfl, rfl⟩ hcaps
      generalize endV s (p.2.1) (p.2.2) = z at *
      refine rH15pD0 ?_
      repeat' (first | (fail_if_success (with_reducible refine xstp ?_)); first | ((with_reducible refine And.intro (fun (hb : _ = true) => ?_) (fun (hb : _ = false) => ?_)) <;> replace hb := xnC hb <;> (try first | exact xfC | exact bff hb (by assumption) | exact bff (by assumption) hb)) | (with_reducible refine Both.mk ?_ ?_) | ((with_reducible refine And.intro ?_ ?_); focus exact xoC) | ((with_reducible refine Or.inl ⟨?_, ?_, ?_⟩); (focus rfl); focus exact xaC) | ((with_reducible refine xwB ?_ ?_); focus exact xaC) | ((with_reducible refine xwC ?_ ?_); focus exact xaC) | ((with_reducible refine xwD ?_ ?_); focus exact xaC) | ((with_reducible refine xwE ?_ ?_); focus exact xaC) | (with_reducible intro hc; (try simp only [capsP, and_true] at hc); (try exact xfC)) | ((fail_if_success (with_reducible first | refine xgon ?_ | intro _)); (conv => whnf); (fail_if_success (fail_if_success (with_reducible first | refine xstp ?_ | refine Both.mk ?_ ?_ | refine xgon ?_ | intro _)))))
      · rw [if_neg (by omega)] at hD
        refine xcal (σ := [.whole 4]) (nl := [.one (ints true noI 0)]) (cCheck ((⟨r0.1, f.1, t.1, w.1, r.1, q.1, 0, 0, at'.1, [], p.1⟩ : Pk)) true 0 (by first | exact Nat.zero_le _ | omega | (simp only; omega)) (by first | exact Nat.zero_le _ | omega | (simp only; omega))) ?_
        rintro v h' ⟨rfl, rfl⟩ hcaps
        refine rH15pD0 ?_
        repeat' (first | (fail_if_success (with_reducible refine xstp ?_)); first | ((with_reducible refine And.intro (fun (hb : _ = true) => ?_) (fun (hb : _ = false) => ?_)) <;> replace hb := xnC hb <;> (try first | exact xfC | exact bff hb (by assumption) | exact bff (by assumption) hb)) | (with_reducible refine Both.mk ?_ ?_) | ((with_reducible refine And.intro ?_ ?_); focus exact xoC) | ((with_reducible refine Or.inl ⟨?_, ?_, ?_⟩); (focus rfl); focus exact xaC) | ((with_reducible refine xwB ?_ ?_); focus exact xaC) | ((with_reducible refine xwC ?_ ?_); focus exact xaC) | ((with_reducible refine xwD ?_ ?_); focus exact xaC) | ((with_reducible refine xwE ?_ ?_); focus exact xaC) | (with_reducible intro hc; (try simp only [capsP, and_true] at hc); (try exact xfC)) | ((fail_if_success (with_reducible first | refine xgon ?_ | intro _)); (conv => whnf); (fail_if_success (fail_if_success (with_reducible first | refine xstp ?_ | refine Both.mk ?_ ?_ | refine xgon ?_ | intro _)))))
        · rw [if_pos (by omega)] at hD
          rw [hD]
          refine FinK.mk ⟨[99], _, _, ⟨0, rfl, rfl⟩, ?_⟩
          (repeat' first | refine And.intro ?_ ?_ | exact xeC | fail)
          all_goals first | rfl | (intro i hi; exact absurd hi (Nat.not_lt_zero i))
        · rw [if_neg (by omega)] at hD
          rw [hD]
          refine FinK.mk ⟨[99], _, _, ⟨0, rfl, rfl⟩, ?_⟩
          (repeat' first | refine And.intro ?_ ?_ | exact xeC | fail)
          all_goals first | rfl | (intro i hi; exact absurd hi (Nat.not_lt_zero i))
      · rw [if_pos (by omega)] at hD
        rw [hD]
        refine FinK.mk ⟨[99], _, _, ⟨0, rfl, rfl⟩, ?_⟩
        (repeat' first | refine And.intro ?_ ?_ | exact xeC | fail)
        all_goals first | rfl | (intro i hi; exact absurd hi (Nat.not_lt_zero i))
  · have b1 : ¬ (r0.1 = 1 ∨ r0.1 = 4 ∨ r0.1 = 5) := by omega
    refine xcal (σ := [.whole 1]) (nl := []) (crSmall s (r.2.1) (r.2.2) 1099511627776 (by omega) hs (by decide)) ?_
    rintro v h' ⟨rfl, rfl⟩ hcaps
    have lfi := rdS_le (s := s) (a := r.2.1) (e := r.2.2) (m := 1099511627776) (by omega)
    generalize efi : rdS s (r.2.1) (r.2.2) 1099511627776 = fi at *
    refine rH15pD0 ?_
    repeat' (first | (fail_if_success (with_reducible refine xstp ?_)); first | ((with_reducible refine And.intro (fun (hb : _ = true) => ?_) (fun (hb : _ = false) => ?_)) <;> replace hb := xnC hb <;> (try first | exact xfC | exact bff hb (by assumption) | exact bff (by assumption) hb)) | (with_reducible refine Both.mk ?_ ?_) | ((with_reducible refine And.intro ?_ ?_); focus exact xoC) | ((with_reducible refine Or.inl ⟨?_, ?_, ?_⟩); (focus rfl); focus exact xaC) | ((with_reducible refine xwB ?_ ?_); focus exact xaC) | ((with_reducible refine xwC ?_ ?_); focus exact xaC) | ((with_reducible refine xwD ?_ ?_); focus exact xaC) | ((with_reducible refine xwE ?_ ?_); focus exact xaC) | (with_reducible intro hc; (try simp only [capsP, and_true] at hc); (try exact xfC)) | ((fail_if_success (with_reducible first | refine xgon ?_ | intro _)); (conv => whnf); (fail_if_success (fail_if_success (with_reducible first | refine xstp ?_ | refine Both.mk ?_ ?_ | refine xgon ?_ | intro _)))))
    refine xcal (σ := [.whole 1]) (nl := []) (crSmall s (fi.2.1) (fi.2.2) 1099511627776 (by omega) hs (by decide)) ?_
    rintro v h' ⟨rfl, rfl⟩ hcaps
    have lla := rdS_le (s := s) (a := fi.2.1) (e := fi.2.2) (m := 1099511627776) (by omega)
    generalize ela : rdS s (fi.2.1) (fi.2.2) 1099511627776 = la at *
    refine rH15pD0 ?_
    repeat' (first | (fail_if_success (with_reducible refine xstp ?_)); first | ((with_reducible refine And.intro (fun (hb : _ = true) => ?_) (fun (hb : _ = false) => ?_)) <;> replace hb := xnC hb <;> (try first | exact xfC | exact bff hb (by assumption) | exact bff (by assumption) hb)) | (with_reducible refine Both.mk ?_ ?_) | ((with_reducible refine And.intro ?_ ?_); focus exact xoC) | ((with_reducible refine Or.inl ⟨?_, ?_, ?_⟩); (focus rfl); focus exact xaC) | ((with_reducible refine xwB ?_ ?_); focus exact xaC) | ((with_reducible refine xwC ?_ ?_); focus exact xaC) | ((with_reducible refine xwD ?_ ?_); focus exact xaC) | ((with_reducible refine xwE ?_ ?_); focus exact xaC) | (with_reducible intro hc; (try simp only [capsP, and_true] at hc); (try exact xfC)) | ((fail_if_success (with_reducible first | refine xgon ?_ | intro _)); (conv => whnf); (fail_if_success (fail_if_success (with_reducible first | refine xstp ?_ | refine Both.mk ?_ ?_ | refine xgon ?_ | intro _)))))
    refine xcal (σ := [.whole 1]) (nl := []) (crSmall s (la.2.1) (la.2.2) 1099511627776 (by omega) hs (by decide)) ?_
    rintro v h' ⟨rfl, rfl⟩ hcaps
    have lat' := rdS_le (s := s) (a := la.2.1) (e := la.2.2) (m := 1099511627776) (by omega)
    generalize eat' : rdS s (la.2.1) (la.2.2) 1099511627776 = at' at *
    refine rH15pD0 ?_
    repeat' (first | (fail_if_success (with_reducible refine xstp ?_)); first | ((with_reducible refine And.intro (fun (hb : _ = true) => ?_) (fun (hb : _ = false) => ?_)) <;> replace hb := xnC hb <;> (try first | exact xfC | exact bff hb (by assumption) | exact bff (by assumption) hb)) | (with_reducible refine Both.mk ?_ ?_) | ((with_reducible refine And.intro ?_ ?_); focus exact xoC) | ((with_reducible refine Or.inl ⟨?_, ?_, ?_⟩); (focus rfl); focus exact xaC) | ((with_reducible refine xwB ?_ ?_); focus exact xaC) | ((with_reducible refine xwC ?_ ?_); focus exact xaC) | ((with_reducible refine xwD ?_ ?_); focus exact xaC) | ((with_reducible refine xwE ?_ ?_); focus exact xaC) | (with_reducible intro hc; (try simp only [capsP, and_true] at hc); (try exact xfC)) | ((fail_if_success (with_reducible first | refine xgon ?_ | intro _)); (conv => whnf); (fail_if_success (fail_if_success (with_reducible first | refine xstp ?_ | refine Both.mk ?_ ?_ | refine xgon ?_ | intro _)))))
    have b2 : r0.1 = 2 ∨ r0.1 = 3 ∨ r0.1 = 4 := by omega
    have b4 : ¬ (r0.1 = 1 ∨ r0.1 = 5) := by omega
    · have b2 : r0.1 = 2 ∨ r0.1 = 3 ∨ r0.1 = 4 := by omega
      have b3 : r0.1 = 3 := by omega
      have b4 : ¬ (r0.1 = 1 ∨ r0.1 = 5) := by omega
      have hn32 := rdS_max s at'.2.1 at'.2.2 32 (by decide)
      refine xcal (σ := [.whole 1]) (nl := []) (crSmall s (at'.2.1) (at'.2.2) 32 (by omega) hs (by decide)) ?_
      rintro v h' ⟨rfl, rfl⟩ hcaps
      have ln := rdS_le (s := s) (a := at'.2.1) (e := at'.2.2) (m := 32) (by omega)
      generalize en : rdS s (at'.2.1) (at'.2.2) 32 = n at *
      refine rH15pD0 ?_
      repeat' (first | (fail_if_success (with_reducible refine xstp ?_)); first | ((with_reducible refine And.intro (fun (hb : _ = true) => ?_) (fun (hb : _ = false) => ?_)) <;> replace hb := xnC hb <;> (try first | exact xfC | exact bff hb (by assumption) | exact bff (by assumption) hb)) | (with_reducible refine Both.mk ?_ ?_) | ((with_reducible refine And.intro ?_ ?_); focus exact xoC) | ((with_reducible refine Or.inl ⟨?_, ?_, ?_⟩); (focus rfl); focus exact xaC) | ((with_reducible refine xwB ?_ ?_); focus exact xaC) | ((with_reducible refine xwC ?_ ?_); focus exact xaC) | ((with_reducible refine xwD ?_ ?_); focus exact xaC) | ((with_reducible refine xwE ?_ ?_); focus exact xaC) | (with_reducible intro hc; (try simp only [capsP, and_true] at hc); (try exact xfC)) | ((fail_if_success (with_reducible first | refine xgon ?_ | intro _)); (conv => whnf); (fail_if_success (fail_if_success (with_reducible first | refine xstp ?_ | refine Both.mk ?_ ?_ | refine xgon ?_ | intro _)))))
      refine LoopK.mk' {p : Nat × List Int × Nat × Nat × Nat // p.1 ≤ n.1 ∧ p.2.1.length = p.1 ∧ p.2.2.1 ≤ s.size ∧ rdL s n.1 n.2.1 n.2.2 = (p.2.1 ++ (rdL s (n.1 - p.1) p.2.2.1 p.2.2.2.1).1, (rdL s (n.1 - p.1) p.2.2.1 p.2.2.2.1).2)}
        (fun ⟨(i, l, a, e, c), _⟩ => ⟨[(0, .c (.s s)), (2, .c (.p 0 0 0)), (4, .c (.p 1 0 0)), (5, .c (.p 2 0 0)), (6, .c (.p 3 0 0)), (60, .c (.i .i64 (n.1 : Nat))), (61, .c (.i .i64 (i : Nat)))],
          [.one (.cells true (encP .nils pk0)), .one (rdC s a e), .one (.cells true (encP (.sl 4 0 1 0 l.length c) ⟨r0.1, f.1, t.1, w.1, r.1, 0, fi.1, la.1, at'.1, [], []⟩)), .one (.cells true (usesL r0.1)), .one (ints true l c)]⟩) (fun k => n.1 - k.1.1)
        ⟨⟨(0, [], n.2.1, n.2.2, 0), Nat.zero_le _, rfl, by simp only; omega, by simp⟩, [0, 1, 2, 3, 99], ?_⟩ ?_
      · (repeat' first | refine And.intro ?_ ?_ | exact xeC | fail)
        all_goals (intro i hi; exact absurd hi (Nat.not_lt_zero i))
      rintro ⟨⟨i, l, a, e, c⟩, hi, hl, ha, hR⟩
      simp only at hi hl ha hR
      repeat' (first | (fail_if_success (with_reducible refine xstp ?_)); first | ((with_reducible refine And.intro (fun (hb : _ = true) => ?_) (fun (hb : _ = false) => ?_)) <;> replace hb := xnC hb <;> (try first | exact xfC | exact bff hb (by assumption) | exact bff (by assumption) hb)) | (with_reducible refine Both.mk ?_ ?_) | ((with_reducible refine And.intro ?_ ?_); focus exact xoC) | ((with_reducible refine Or.inl ⟨?_, ?_, ?_⟩); (focus rfl); focus exact xaC) | ((with_reducible refine xwB ?_ ?_); focus exact xaC) | ((with_reducible refine xwC ?_ ?_); focus exact xaC) | ((with_reducible refine xwD ?_ ?_); focus exact xaC) | ((with_reducible refine xwE ?_ ?_); focus exact xaC) | (with_reducible intro hc; (try simp only [capsP, and_true] at hc); (try exact xfC)) | ((fail_if_success (with_reducible first | refine xgon ?_ | intro _)); (conv => whnf); (fail_if_success (fail_if_success (with_reducible first | refine xstp ?_ | refine Both.mk ?_ ?_ | refine xgon ?_ | intro _)))))
      · have hs1 : n.1 - i = (n.1 - (i + 1)) + 1 := by omega
        rw [hs1, rdL] at hR
        refine xcal (σ := [.whole 1]) (nl := []) (crSmall s (a) (e) 1099511627776 (by omega) hs (by decide)) ?_
        rintro v h' ⟨rfl, rfl⟩ hcaps
        have lx := rdS_le (s := s) (a := a) (e := e) (m := 1099511627776) (by omega)
        generalize ex : rdS s (a) (e) 1099511627776 = x at *
        refine rH15pD0 ?_
        repeat' (first | (fail_if_success (with_reducible refine xstp ?_)); first | ((with_reducible refine And.intro (fun (hb : _ = true) => ?_) (fun (hb : _ = false) => ?_)) <;> replace hb := xnC hb <;> (try first | exact xfC | exact bff hb (by assumption) | exact bff (by assumption) hb)) | (with_reducible refine Both.mk ?_ ?_) | ((with_reducible refine And.intro ?_ ?_); focus exact xoC) | ((with_reducible refine Or.inl ⟨?_, ?_, ?_⟩); (focus rfl); focus exact xaC) | ((with_reducible refine xwB ?_ ?_); focus exact xaC) | ((with_reducible refine xwC ?_ ?_); focus exact xaC) | ((with_reducible refine xwD ?_ ?_); focus exact xaC) | ((with_reducible refine xwE ?_ ?_); focus exact xaC) | (with_reducible intro hc; (try simp only [capsP, and_true] at hc); (try exact xfC)) | ((fail_if_success (with_reducible first | refine xgon ?_ | intro _)); (conv => whnf); (fail_if_success (fail_if_success (with_reducible first | refine xstp ?_ | refine Both.mk ?_ ?_ | refine xgon ?_ | intro _)))))
        rename_i c2
        refine ⟨⟨(i + 1, l ++ [(x.1 : Int)], x.2.1, x.2.2, c2), by omega, by simp only [List.length_append, List.length_singleton]; omega, by simp only; omega, by simp only [hR, List.append_assoc, List.singleton_append]⟩, [0, 1, 2, 3, 6], by simp only; omega, ?_⟩
        (repeat' first | refine And.intro ?_ ?_ | exact xeC | fail)
        all_goals first | omega | (simp only [List.length_append, List.length_singleton]; done) | (rw [List.length_append, List.length_singleton]; omega) | (intro i hi; (first | refine app_rowG _ _ _ _ ?_ i hi | refine app_row _ _ _ ?_ i hi); first | rfl | (simp only [Int.toNat_natCast, Nat.zero_add]; rfl))
      · have hi0 : n.1 - i = 0 := by omega
        rw [hi0, rdL, List.append_nil] at hR
        have hD := dec_of er0 he0 hk0 (x := (⟨r0.1, f.1, t.1, w.1, r.1, 0, fi.1, la.1, at'.1, l, []⟩ : Pk)) (a := a) (e := e) (by simp only [decF, st, if_neg b1, if_pos b2, if_pos b3, if_neg b4, ef, et, ew, er, efi, ela, eat', en, hR, rdL]; first | done | rfl)
        refine xcal (σ := [.whole 1]) (nl := []) (cEnd s (a) (e) (by omega) hs) ?_
        rintro v h' ⟨rfl, rfl⟩ hcaps
        generalize endV s (a) (e) = z at *
        refine rH15pD0 ?_
        repeat' (first | (fail_if_success (with_reducible refine xstp ?_)); first | ((with_reducible refine And.intro (fun (hb : _ = true) => ?_) (fun (hb : _ = false) => ?_)) <;> replace hb := xnC hb <;> (try first | exact xfC | exact bff hb (by assumption) | exact bff (by assumption) hb)) | (with_reducible refine Both.mk ?_ ?_) | ((with_reducible refine And.intro ?_ ?_); focus exact xoC) | ((with_reducible refine Or.inl ⟨?_, ?_, ?_⟩); (focus rfl); focus exact xaC) | ((with_reducible refine xwB ?_ ?_); focus exact xaC) | ((with_reducible refine xwC ?_ ?_); focus exact xaC) | ((with_reducible refine xwD ?_ ?_); focus exact xaC) | ((with_reducible refine xwE ?_ ?_); focus exact xaC) | (with_reducible intro hc; (try simp only [capsP, and_true] at hc); (try exact xfC)) | ((fail_if_success (with_reducible first | refine xgon ?_ | intro _)); (conv => whnf); (fail_if_success (fail_if_success (with_reducible first | refine xstp ?_ | refine Both.mk ?_ ?_ | refine xgon ?_ | intro _)))))
        · rw [if_neg (by omega)] at hD
          refine xcal (σ := [.whole 4]) (nl := []) ( cCheck ((⟨r0.1, f.1, t.1, w.1, r.1, 0, fi.1, la.1, at'.1, l, []⟩ : Pk)) true c (by first | exact Nat.zero_le _ | omega | (simp only; omega)) (by first | exact Nat.zero_le _ | omega | (simp only; omega))) ?_
          rintro v h' ⟨rfl, rfl⟩ hcaps
          refine rH15pD0 ?_
          repeat' (first | (fail_if_success (with_reducible refine xstp ?_)); first | ((with_reducible refine And.intro (fun (hb : _ = true) => ?_) (fun (hb : _ = false) => ?_)) <;> replace hb := xnC hb <;> (try first | exact xfC | exact bff hb (by assumption) | exact bff (by assumption) hb)) | (with_reducible refine Both.mk ?_ ?_) | ((with_reducible refine And.intro ?_ ?_); focus exact xoC) | ((with_reducible refine Or.inl ⟨?_, ?_, ?_⟩); (focus rfl); focus exact xaC) | ((with_reducible refine xwB ?_ ?_); focus exact xaC) | ((with_reducible refine xwC ?_ ?_); focus exact xaC) | ((with_reducible refine xwD ?_ ?_); focus exact xaC) | ((with_reducible refine xwE ?_ ?_); focus exact xaC) | (with_reducible intro hc; (try simp only [capsP, and_true] at hc); (try exact xfC)) | ((fail_if_success (with_reducible first | refine xgon ?_ | intro _)); (conv => whnf); (fail_if_success (fail_if_success (with_reducible first | refine xstp ?_ | refine Both.mk ?_ ?_ | refine xgon ?_ | intro _)))))
          · rw [if_pos (by omega)] at hD
            rw [hD]
            refine FinK.mk ⟨[99], _, _, ⟨0, rfl, rfl⟩, ?_⟩
            (repeat' first | refine And.intro ?_ ?_ | exact xeC | fail)
            all_goals first | rfl | (intro i hi; exact absurd hi (Nat.not_lt_zero i))
          · rw [if_neg (by omega)] at hD
            rw [hD]
            refine FinK.mk ⟨[4], _, _, ⟨c, rfl, rfl⟩, ?_⟩
            (repeat' first | refine And.intro ?_ ?_ | exact xeC | fail)
            all_goals first | rfl | (intro i hi; exact absurd hi (Nat.not_lt_zero i))
        · rw [if_pos (by omega)] at hD
          rw [hD]
          refine FinK.mk ⟨[99], _, _, ⟨0, rfl, rfl⟩, ?_⟩
          (repeat' first | refine And.intro ?_ ?_ | exact xeC | fail)
          all_goals first | rfl | (intro i hi; exact absurd hi (Nat.not_lt_zero i))
    have b2 : r0.1 = 2 ∨ r0.1 = 3 ∨ r0.1 = 4 := by omega
    have b3 : ¬ (r0.1 = 3) := by omega
    have b4 : ¬ (r0.1 = 1 ∨ r0.1 = 5) := by omega
    · skip
      have hD := dec_of er0 he0 hk0 (x := (⟨r0.1, f.1, t.1, w.1, r.1, 0, fi.1, la.1, at'.1, [], []⟩ : Pk)) (a := at'.2.1) (e := at'.2.2) (by simp only [decF, st, if_neg b1, if_pos b2, if_neg b3, if_neg b4, ef, et, ew, er, efi, ela, eat', rdL]; first | done | rfl)
      refine xcal (σ := [.whole 1]) (nl := []) (cEnd s (at'.2.1) (at'.2.2) (by omega) hs) ?_
      rintro v h' ⟨rfl, rfl⟩ hcaps
      generalize endV s (at'.2.1) (at'.2.2) = z at *
      refine rH15pD0 ?_
      repeat' (first | (fail_if_success (with_reducible refine xstp ?_)); first | ((with_reducible refine And.intro (fun (hb : _ = true) => ?_) (fun (hb : _ = false) => ?_)) <;> replace hb := xnC hb <;> (try first | exact xfC | exact bff hb (by assumption) | exact bff (by assumption) hb)) | (with_reducible refine Both.mk ?_ ?_) | ((with_reducible refine And.intro ?_ ?_); focus exact xoC) | ((with_reducible refine Or.inl ⟨?_, ?_, ?_⟩); (focus rfl); focus exact xaC) | ((with_reducible refine xwB ?_ ?_); focus exact xaC) | ((with_reducible refine xwC ?_ ?_); focus exact xaC) | ((with_reducible refine xwD ?_ ?_); focus exact xaC) | ((with_reducible refine xwE ?_ ?_); focus exact xaC) | (with_reducible intro hc; (try simp only [capsP, and_true] at hc); (try exact xfC)) | ((fail_if_success (with_reducible first | refine xgon ?_ | intro _)); (conv => whnf); (fail_if_success (fail_if_success (with_reducible first | refine xstp ?_ | refine Both.mk ?_ ?_ | refine xgon ?_ | intro _)))))
      · rw [if_neg (by omega)] at hD
        refine xcal (σ := [.whole 4]) (nl := [.one (ints true noI 0)]) (cCheck ((⟨r0.1, f.1, t.1, w.1, r.1, 0, fi.1, la.1, at'.1, [], []⟩ : Pk)) true 0 (by first | exact Nat.zero_le _ | omega | (simp only; omega)) (by first | exact Nat.zero_le _ | omega | (simp only; omega))) ?_
        rintro v h' ⟨rfl, rfl⟩ hcaps
        refine rH15pD0 ?_
        repeat' (first | (fail_if_success (with_reducible refine xstp ?_)); first | ((with_reducible refine And.intro (fun (hb : _ = true) => ?_) (fun (hb : _ = false) => ?_)) <;> replace hb := xnC hb <;> (try first | exact xfC | exact bff hb (by assumption) | exact bff (by assumption) hb)) | (with_reducible refine Both.mk ?_ ?_) | ((with_reducible refine And.intro ?_ ?_); focus exact xoC) | ((with_reducible refine Or.inl ⟨?_, ?_, ?_⟩); (focus rfl); focus exact xaC) | ((with_reducible refine xwB ?_ ?_); focus exact xaC) | ((with_reducible refine xwC ?_ ?_); focus exact xaC) | ((with_reducible refine xwD ?_ ?_); focus exact xaC) | ((with_reducible refine xwE ?_ ?_); focus exact xaC) | (with_reducible intro hc; (try simp only [capsP, and_true] at hc); (try exact xfC)) | ((fail_if_success (with_reducible first | refine xgon ?_ | intro _)); (conv => whnf); (fail_if_success (fail_if_success (with_reducible first | refine xstp ?_ | refine Both.mk ?_ ?_ | refine xgon ?_ | intro _)))))
        · rw [if_pos (by omega)] at hD
          rw [hD]
          refine FinK.mk ⟨[99], _, _, ⟨0, rfl, rfl⟩, ?_⟩
          (repeat' first | refine And.intro ?_ ?_ | exact xeC | fail)
          all_goals first | rfl | (intro i hi; exact absurd hi (Nat.not_lt_zero i))
        · rw [if_neg (by omega)] at hD
          rw [hD]
          refine FinK.mk ⟨[99], _, _, ⟨0, rfl, rfl⟩, ?_⟩
          (repeat' first | refine And.intro ?_ ?_ | exact xeC | fail)
          all_goals first | rfl | (intro i hi; exact absurd hi (Nat.not_lt_zero i))
      · rw [if_pos (by omega)] at hD
        rw [hD]
        refine FinK.mk ⟨[99], _, _, ⟨0, rfl, rfl⟩, ?_⟩
        (repeat' first | refine And.intro ?_ ?_ | exact xeC | fail)
        all_goals first | rfl | (intro i hi; exact absurd hi (Nat.not_lt_zero i))
end Go.Proofs.Ytgaodeffbgppmaa

namespace Go.Proofs.Ytgaodeffbgppmaa
open Go.X
set_option linter.unusedSimpArgs false
set_option linter.unusedVariables false
open P4
theorem st_le {s : ByteArray} {U : Prop} [Decidable U] {a e : Nat} (h : a ≤ s.size) : (st s U (a, e)).2.1 ≤ s.size ∧ a ≤ (st s U (a, e)).2.1 := by
  unfold st
  split
  · exact rdS_le h
  · exact ⟨h, Nat.le_refl _⟩

theorem st_congr {s : ByteArray} {U V : Prop} [Decidable U] [Decidable V] {q : Nat × Nat} (h : U ↔ V) : st s U q = st s V q := by
  unfold st
  by_cases hv : V
  · rw [if_pos hv, if_pos (h.2 hv)]
  · rw [if_neg hv, if_neg (fun e => hv (h.1 e))]

set_option maxRecDepth 10000 in
theorem cread (U : Prop) [Decidable U] (s : ByteArray) (a e : Nat) (ha : a ≤ s.size) (hs : s.size ≤ 140737488355328) :
    Ctr Try.prog 56 [.c (.b (decide U)), .a (rv s a e)] []
      fun v h => v = .t [.a (rv s (st s U (a, e)).2.1 (st s U (a, e)).2.2), .c (.i .i64 ((st s U (a, e)).1 : Nat))] ∧ h = [] := by
  refine Ctr.mk' tbv mixed Try.func56 rfl rfl rfl (fun _ _ => by kernel_rfl) (by kernel_rfl) (by rfl) (by rfl) (by (repeat' first | refine And.intro ?_ ?_ | exact xeC | fail)) ?_
  repeat' (first | (fail_if_success (with_reducible refine xstp ?_)); first | ((with_reducible refine And.intro (fun (hb : _ = true) => ?_) (fun (hb : _ = false) => ?_)) <;> replace hb := xnC hb <;> (try first | exact xfC | exact bff hb (by assumption) | exact bff (by assumption) hb)) | (with_reducible refine Both.mk ?_ ?_) | ((with_reducible refine And.intro ?_ ?_); focus exact xoC) | ((with_reducible refine Or.inl ⟨?_, ?_, ?_⟩); (focus rfl); focus exact xaC) | ((with_reducible refine xwB ?_ ?_); focus exact xaC) | ((with_reducible refine xwC ?_ ?_); focus exact xaC) | ((with_reducible refine xwD ?_ ?_); focus exact xaC) | ((with_reducible refine xwE ?_ ?_); focus exact xaC) | (with_reducible intro hc; (try simp only [capsP, and_true] at hc); (try exact xfC)) | ((fail_if_success (with_reducible first | refine xgon ?_ | intro _)); (conv => whnf); (fail_if_success (fail_if_success (with_reducible first | refine xstp ?_ | refine Both.mk ?_ ?_ | refine xgon ?_ | intro _)))))
  · rw [show st s U (a, e) = (0, a, e) from if_neg hb]
    refine FinK.mk ⟨[], _, _, ⟨rfl, rfl⟩, ?_⟩; (repeat' first | refine And.intro ?_ ?_ | exact xeC | fail)
  · rw [show st s U (a, e) = rdS s a e 1099511627776 from if_pos hb]
    refine xcal (σ := []) (nl := []) (cRSmall s a e 1099511627776 ha hs (by decide)) ?_
    rintro v h' ⟨rfl, rfl⟩ hcaps
    refine xret ?_
    repeat' (first | (fail_if_success (with_reducible refine xstp ?_)); first | ((with_reducible refine And.intro (fun (hb : _ = true) => ?_) (fun (hb : _ = false) => ?_)) <;> replace hb := xnC hb <;> (try first | exact xfC | exact bff hb (by assumption) | exact bff (by assumption) hb)) | (with_reducible refine Both.mk ?_ ?_) | ((with_reducible refine And.intro ?_ ?_); focus exact xoC) | ((with_reducible refine Or.inl ⟨?_, ?_, ?_⟩); (focus rfl); focus exact xaC) | ((with_reducible refine xwB ?_ ?_); focus exact xaC) | ((with_reducible refine xwC ?_ ?_); focus exact xaC) | ((with_reducible refine xwD ?_ ?_); focus exact xaC) | ((with_reducible refine xwE ?_ ?_); focus exact xaC) | (with_reducible intro hc; (try simp only [capsP, and_true] at hc); (try exact xfC)) | ((fail_if_success (with_reducible first | refine xgon ?_ | intro _)); (conv => whnf); (fail_if_success (fail_if_success (with_reducible first | refine xstp ?_ | refine Both.mk ?_ ?_ | refine xgon ?_ | intro _)))))
    all_goals (refine FinK.mk ⟨[], _, _, ⟨rfl, rfl⟩, ?_⟩; (repeat' first | refine And.intro ?_ ?_ | exact xeC | fail))
theorem creadT (s : ByteArray) (a e : Nat) (ha : a ≤ s.size) (hs : s.size ≤ 140737488355328) :
    Ctr Try.prog 56 [.c (.b (decide True)), .a (rv s a e)] []
      fun v h => v = .t [.a (rv s (rdS s a e 1099511627776).2.1 (rdS s a e 1099511627776).2.2), .c (.i .i64 ((rdS s a e 1099511627776).1 : Nat))] ∧ h = [] := by
  refine (cread True s a e ha hs).mono' ?_
  rintro v h ⟨rfl, rfl⟩
  simp [st]

theorem rH15pE0 {σ : List Sg} {H h' : List Fam} {v : T} {K : T → List Fam → Prop} {H' : List Fam} {v' : T} {N : Nat} (hk : K v' H') (hN : H.length = N := by (try simp only [↓List.length_cons, ↓List.length_nil, Nat.reduceAdd]) <;> rfl) (h : givesF σ N H σ h' = some H' := by (try simp (maxSteps := 1000000) only [givesF, setF, updF, Fam.zeroth, Fam.rk, Ck.rk, C.rk, E.rk, T.rk, key, List.map_cons, List.map_nil, List.cons_append, List.nil_append, List.length_cons, List.length_nil, Option.map_some, Option.bind_some, Nat.reduceAdd, Nat.zero_add, Nat.add_zero, Nat.add_sub_cancel_left, Int.toNat_natCast, reps, List.all_cons, List.all_nil, C.flat, List.append_eq, Bool.not_true, Bool.and_true, Bool.or_false, Bool.or_self, Bool.not_false, List.append_nil, Bool.and_self, encP]) <;> rfl) (hv : v.rk σ N = v' := by (try simp only [givesF, setF, updF, Fam.zeroth, Fam.rk, Ck.rk, C.rk, E.rk, T.rk, key, List.map_cons, List.map_nil, List.cons_append, List.nil_append, List.length_cons, List.length_nil, Option.map_some, Option.bind_some, Nat.reduceAdd, Nat.zero_add, Nat.add_zero, Nat.add_sub_cancel_left, Int.toNat_natCast, reps, List.all_cons, List.all_nil, C.flat, List.append_eq, Bool.not_true, Bool.and_true, Bool.or_false, Bool.or_self, Bool.not_false, List.append_nil, Bool.and_self, encP]) <;> rfl) : RetG σ H h' v K := ret_mk3 hN h hv hk
set_option maxRecDepth 20000 in
set_option maxHeartbeats 4000000 in
theorem cDecodeR (s : ByteArray) (hs : s.size ≤ 1000000) :
    Ctr Try.prog 21 [.c (.s s)] [] fun v h => ∃ c, v = .t [.a (encP (.sl 0 0 1 0 (dec s).1.m.length c) (dec s).1), .c (.i .i64 ((dec s).2 : Nat))] ∧ h = [.one (ints true (dec s).1.m c)] := by
  have hs6 := hs
  have hs : s.size ≤ 140737488355328 := by omega
  refine Ctr.mk' tbv mixed Try.func21 rfl rfl rfl (fun _ _ => by kernel_rfl) (by kernel_rfl) (by rfl) (by rfl) (by (repeat' first | refine And.intro ?_ ?_ | exact xeC | fail)) ?_
  repeat' (first | (fail_if_success (with_reducible refine xstp ?_)); first | ((with_reducible refine And.intro (fun (hb : _ = true) => ?_) (fun (hb : _ = false) => ?_)) <;> replace hb := xnC hb <;> (try first | exact xfC | exact bff hb (by assumption) | exact bff (by assumption) hb)) | (with_reducible refine Both.mk ?_ ?_) | ((with_reducible refine And.intro ?_ ?_); focus exact xoC) | ((with_reducible refine Or.inl ⟨?_, ?_, ?_⟩); (focus rfl); focus exact xaC) | ((with_reducible refine xwB ?_ ?_); focus exact xaC) | ((with_reducible refine xwC ?_ ?_); focus exact xaC) | ((with_reducible refine xwD ?_ ?_); focus exact xaC) | ((with_reducible refine xwE ?_ ?_); focus exact xaC) | (with_reducible intro hc; (try simp only [capsP, and_true] at hc); (try exact xfC)) | ((fail_if_success (with_reducible first | refine xgon ?_ | intro _)); (conv => whnf); (fail_if_success (fail_if_success (with_reducible first | refine xstp ?_ | refine Both.mk ?_ ?_ | refine xgon ?_ | intro _)))))
  have hx := rdS_max s 0 0 5 (by decide)
  refine xcal (σ := []) (nl := []) (cRSmall s 0 0 5 (Nat.zero_le _) hs (by decide)) ?_
  rintro v h' ⟨rfl, rfl⟩ hcaps
  have lr0 := rdS_le (s := s) (a := 0) (e := 0) (m := 5) (by omega)
  generalize er0 : rdS s 0 0 5 = r0 at *
  refine rH15pE0 ?_
  repeat' (first | (fail_if_success (with_reducible refine xstp ?_)); first | ((with_reducible refine And.intro (fun (hb : _ = true) => ?_) (fun (hb : _ = false) => ?_)) <;> replace hb := xnC hb <;> (try first | exact xfC | exact bff hb (by assumption) | exact bff (by assumption) hb)) | (with_reducible refine Both.mk ?_ ?_) | ((with_reducible refine And.intro ?_ ?_); focus exact xoC) | ((with_reducible refine Or.inl ⟨?_, ?_, ?_⟩); (focus rfl); focus exact xaC) | ((with_reducible refine xwB ?_ ?_); focus exact xaC) | ((with_reducible refine xwC ?_ ?_); focus exact xaC) | ((with_reducible refine xwD ?_ ?_); focus exact xaC) | ((with_reducible refine xwE ?_ ?_); focus exact xaC) | (with_reducible intro hc; (try simp only [capsP, and_true] at hc); (try exact xfC)) | ((fail_if_success (with_reducible first | refine xgon ?_ | intro _)); (conv => whnf); (fail_if_success (fail_if_success (with_reducible first | refine xstp ?_ | refine Both.mk ?_ ?_ | refine xgon ?_ | intro _)))))
  · have hd : dec s = (pk0, r0.2.2) := by unfold dec; simp only [er0]; rw [if_pos (by omega)]
    rw [hd]
    refine FinK.mk ⟨[99], _, _, ⟨0, rfl, rfl⟩, ?_⟩
    (repeat' first | refine And.intro ?_ ?_ | exact xeC | fail)
    all_goals first | rfl | (intro i hi; exact absurd hi (Nat.not_lt_zero i))
  · have hd : dec s = (pk0, 4) := by unfold dec; simp only [er0]; rw [if_neg (by omega), if_pos (by omega)]
    rw [hd]
    refine FinK.mk ⟨[99], _, _, ⟨0, rfl, rfl⟩, ?_⟩
    (repeat' first | refine And.intro ?_ ?_ | exact xeC | fail)
    all_goals first | rfl | (intro i hi; exact absurd hi (Nat.not_lt_zero i))
  have he0 : r0.2.2 = 0 := by omega
  have hk0 : ¬ r0.1 = 0 := by omega
  refine xcal (σ := []) (nl := []) (cletters (r0.1 : Nat)) ?_
  rintro v h' ⟨rfl, rfl⟩ hcaps
  generalize hx0 : ((r0.1 : Nat) : Int) = x0 at *
  refine rH15pE0 ?_
  repeat' (first | (fail_if_success (with_reducible refine xstp ?_)); first | ((with_reducible refine And.intro (fun (hb : _ = true) => ?_) (fun (hb : _ = false) => ?_)) <;> replace hb := xnC hb <;> (try first | exact xfC | exact bff hb (by assumption) | exact bff (by assumption) hb)) | (with_reducible refine Both.mk ?_ ?_) | ((with_reducible refine And.intro ?_ ?_); focus exact xoC) | ((with_reducible refine Or.inl ⟨?_, ?_, ?_⟩); (focus rfl); focus exact xaC) | ((with_reducible refine xwB ?_ ?_); focus exact xaC) | ((with_reducible refine xwC ?_ ?_); focus exact xaC) | ((with_reducible refine xwD ?_ ?_); focus exact xaC) | ((with_reducible refine xwE ?_ ?_); focus exact xaC) | (with_reducible intro hc; (try simp only [capsP, and_true] at hc); (try exact xfC)) | ((fail_if_success (with_reducible first | refine xgon ?_ | intro _)); (conv => whnf); (fail_if_success (fail_if_success (with_reducible first | refine xstp ?_ | refine Both.mk ?_ ?_ | refine xgon ?_ | intro _)))))
  refine xcal (σ := []) (nl := []) (creadT s (r0.2.1) (r0.2.2) (by omega) hs) ?_
  rintro v h' ⟨rfl, rfl⟩ hcaps
  have lf := rdS_le (s := s) (a := r0.2.1) (e := r0.2.2) (m := 1099511627776) (by omega)
  generalize ef : rdS s (r0.2.1) (r0.2.2) 1099511627776 = f at *
  refine rH15pE0 ?_
  repeat' (first | (fail_if_success (with_reducible refine xstp ?_)); first | ((with_reducible refine And.intro (fun (hb : _ = true) => ?_) (fun (hb : _ = false) => ?_)) <;> replace hb := xnC hb <;> (try first | exact xfC | exact bff hb (by assumption) | exact bff (by assumption) hb)) | (with_reducible refine Both.mk ?_ ?_) | ((with_reducible refine And.intro ?_ ?_); focus exact xoC) | ((with_reducible refine Or.inl ⟨?_, ?_, ?_⟩); (focus rfl); focus exact xaC) | ((with_reducible refine xwB ?_ ?_); focus exact xaC) | ((with_reducible refine xwC ?_ ?_); focus exact xaC) | ((with_reducible refine xwD ?_ ?_); focus exact xaC) | ((with_reducible refine xwE ?_ ?_); focus exact xaC) | (with_reducible intro hc; (try simp only [capsP, and_true] at hc); (try exact xfC)) | ((fail_if_success (with_reducible first | refine xgon ?_ | intro _)); (conv => whnf); (fail_if_success (fail_if_success (with_reducible first | refine xstp ?_ | refine Both.mk ?_ ?_ | refine xgon ?_ | intro _)))))
  refine xcal (σ := []) (nl := []) (creadT s (f.2.1) (f.2.2) (by omega) hs) ?_
  rintro v h' ⟨rfl, rfl⟩ hcaps
  have lt := rdS_le (s := s) (a := f.2.1) (e := f.2.2) (m := 1099511627776) (by omega)
  generalize et : rdS s (f.2.1) (f.2.2) 1099511627776 = t at *
  refine rH15pE0 ?_
  repeat' (first | (fail_if_success (with_reducible refine xstp ?_)); first | ((with_reducible refine And.intro (fun (hb : _ = true) => ?_) (fun (hb : _ = false) => ?_)) <;> replace hb := xnC hb <;> (try first | exact xfC | exact bff hb (by assumption) | exact bff (by assumption) hb)) | (with_reducible refine Both.mk ?_ ?_) | ((with_reducible refine And.intro ?_ ?_); focus exact xoC) | ((with_reducible refine Or.inl ⟨?_, ?_, ?_⟩); (focus rfl); focus exact xaC) | ((with_reducible refine xwB ?_ ?_); focus exact xaC) | ((with_reducible refine xwC ?_ ?_); focus exact xaC) | ((with_reducible refine xwD ?_ ?_); focus exact xaC) | ((with_reducible refine xwE ?_ ?_); focus exact xaC) | (with_reducible intro hc; (try simp only [capsP, and_true] at hc); (try exact xfC)) | ((fail_if_success (with_reducible first | refine xgon ?_ | intro _)); (conv => whnf); (fail_if_success (fail_if_success (with_reducible first | refine xstp ?_ | refine Both.mk ?_ ?_ | refine xgon ?_ | intro _)))))
  refine xcal (σ := []) (nl := []) (chas (letL x0) 119 (letL_len x0)) ?_
  rintro v h' ⟨rfl, rfl⟩ hcaps
  rw [hasW]
  refine rH15pE0 ?_
  repeat' (first | (fail_if_success (with_reducible refine xstp ?_)); first | ((with_reducible refine And.intro (fun (hb : _ = true) => ?_) (fun (hb : _ = false) => ?_)) <;> replace hb := xnC hb <;> (try first | exact xfC | exact bff hb (by assumption) | exact bff (by assumption) hb)) | (with_reducible refine Both.mk ?_ ?_) | ((with_reducible refine And.intro ?_ ?_); focus exact xoC) | ((with_reducible refine Or.inl ⟨?_, ?_, ?_⟩); (focus rfl); focus exact xaC) | ((with_reducible refine xwB ?_ ?_); focus exact xaC) | ((with_reducible refine xwC ?_ ?_); focus exact xaC) | ((with_reducible refine xwD ?_ ?_); focus exact xaC) | ((with_reducible refine xwE ?_ ?_); focus exact xaC) | (with_reducible intro hc; (try simp only [capsP, and_true] at hc); (try exact xfC)) | ((fail_if_success (with_reducible first | refine xgon ?_ | intro _)); (conv => whnf); (fail_if_success (fail_if_success (with_reducible first | refine xstp ?_ | refine Both.mk ?_ ?_ | refine xgon ?_ | intro _)))))
  refine xcal (σ := []) (nl := []) (cread (1 ≤ x0 ∧ x0 ≤ 5) s (t.2).1 (t.2).2 (by omega) hs) ?_
  rintro v h' ⟨rfl, rfl⟩ hcaps
  have lw := rdS_le (s := s) (a := (t.2).1) (e := (t.2).2) (m := 1099511627776) (by omega)
  rw [show st s (1 ≤ x0 ∧ x0 ≤ 5) ((t.2).1, (t.2).2) = rdS s (t.2).1 (t.2).2 1099511627776 from if_pos (by omega)]
  generalize ew : rdS s (t.2).1 (t.2).2 1099511627776 = w at *
  refine rH15pE0 ?_
  repeat' (first | (fail_if_success (with_reducible refine xstp ?_)); first | ((with_reducible refine And.intro (fun (hb : _ = true) => ?_) (fun (hb : _ = false) => ?_)) <;> replace hb := xnC hb <;> (try first | exact xfC | exact bff hb (by assumption) | exact bff (by assumption) hb)) | (with_reducible refine Both.mk ?_ ?_) | ((with_reducible refine And.intro ?_ ?_); focus exact xoC) | ((with_reducible refine Or.inl ⟨?_, ?_, ?_⟩); (focus rfl); focus exact xaC) | ((with_reducible refine xwB ?_ ?_); focus exact xaC) | ((with_reducible refine xwC ?_ ?_); focus exact xaC) | ((with_reducible refine xwD ?_ ?_); focus exact xaC) | ((with_reducible refine xwE ?_ ?_); focus exact xaC) | (with_reducible intro hc; (try simp only [capsP, and_true] at hc); (try exact xfC)) | ((fail_if_success (with_reducible first | refine xgon ?_ | intro _)); (conv => whnf); (fail_if_success (fail_if_success (with_reducible first | refine xstp ?_ | refine Both.mk ?_ ?_ | refine xgon ?_ | intro _)))))
  refine xcal (σ := []) (nl := []) (chas (letL x0) 114 (letL_len x0)) ?_
  rintro v h' ⟨rfl, rfl⟩ hcaps
  rw [hasR]
  refine rH15pE0 ?_
  repeat' (first | (fail_if_success (with_reducible refine xstp ?_)); first | ((with_reducible refine And.intro (fun (hb : _ = true) => ?_) (fun (hb : _ = false) => ?_)) <;> replace hb := xnC hb <;> (try first | exact xfC | exact bff hb (by assumption) | exact bff (by assumption) hb)) | (with_reducible refine Both.mk ?_ ?_) | ((with_reducible refine And.intro ?_ ?_); focus exact xoC) | ((with_reducible refine Or.inl ⟨?_, ?_, ?_⟩); (focus rfl); focus exact xaC) | ((with_reducible refine xwB ?_ ?_); focus exact xaC) | ((with_reducible refine xwC ?_ ?_); focus exact xaC) | ((with_reducible refine xwD ?_ ?_); focus exact xaC) | ((with_reducible refine xwE ?_ ?_); focus exact xaC) | (with_reducible intro hc; (try simp only [capsP, and_true] at hc); (try exact xfC)) | ((fail_if_success (with_reducible first | refine xgon ?_ | intro _)); (conv => whnf); (fail_if_success (fail_if_success (with_reducible first | refine xstp ?_ | refine Both.mk ?_ ?_ | refine xgon ?_ | intro _)))))
  refine xcal (σ := []) (nl := []) (cread (1 ≤ x0 ∧ x0 ≤ 5) s (w.2).1 (w.2).2 (by omega) hs) ?_
  rintro v h' ⟨rfl, rfl⟩ hcaps
  have lr := rdS_le (s := s) (a := (w.2).1) (e := (w.2).2) (m := 1099511627776) (by omega)
  rw [show st s (1 ≤ x0 ∧ x0 ≤ 5) ((w.2).1, (w.2).2) = rdS s (w.2).1 (w.2).2 1099511627776 from if_pos (by omega)]
  generalize er : rdS s (w.2).1 (w.2).2 1099511627776 = r at *
  refine rH15pE0 ?_
  repeat' (first | (fail_if_success (with_reducible refine xstp ?_)); first | ((with_reducible refine And.intro (fun (hb : _ = true) => ?_) (fun (hb : _ = false) => ?_)) <;> replace hb := xnC hb <;> (try first | exact xfC | exact bff hb (by assumption) | exact bff (by assumption) hb)) | (with_reducible refine Both.mk ?_ ?_) | ((with_reducible refine And.intro ?_ ?_); focus exact xoC) | ((with_reducible refine Or.inl ⟨?_, ?_, ?_⟩); (focus rfl); focus exact xaC) | ((with_reducible refine xwB ?_ ?_); focus exact xaC) | ((with_reducible refine xwC ?_ ?_); focus exact xaC) | ((with_reducible refine xwD ?_ ?_); focus exact xaC) | ((with_reducible refine xwE ?_ ?_); focus exact xaC) | (with_reducible intro hc; (try simp only [capsP, and_true] at hc); (try exact xfC)) | ((fail_if_success (with_reducible first | refine xgon ?_ | intro _)); (conv => whnf); (fail_if_success (fail_if_success (with_reducible first | refine xstp ?_ | refine Both.mk ?_ ?_ | refine xgon ?_ | intro _)))))
  refine xcal (σ := []) (nl := []) (chas (letL x0) 115 (letL_len x0)) ?_
  rintro v h' ⟨rfl, rfl⟩ hcaps
  rw [hasS]
  refine rH15pE0 ?_
  repeat' (first | (fail_if_success (with_reducible refine xstp ?_)); first | ((with_reducible refine And.intro (fun (hb : _ = true) => ?_) (fun (hb : _ = false) => ?_)) <;> replace hb := xnC hb <;> (try first | exact xfC | exact bff hb (by assumption) | exact bff (by assumption) hb)) | (with_reducible refine Both.mk ?_ ?_) | ((with_reducible refine And.intro ?_ ?_); focus exact xoC) | ((with_reducible refine Or.inl ⟨?_, ?_, ?_⟩); (focus rfl); focus exact xaC) | ((with_reducible refine xwB ?_ ?_); focus exact xaC) | ((with_reducible refine xwC ?_ ?_); focus exact xaC) | ((with_reducible refine xwD ?_ ?_); focus exact xaC) | ((with_reducible refine xwE ?_ ?_); focus exact xaC) | (with_reducible intro hc; (try simp only [capsP, and_true] at hc); (try exact xfC)) | ((fail_if_success (with_reducible first | refine xgon ?_ | intro _)); (conv => whnf); (fail_if_success (fail_if_success (with_reducible first | refine xstp ?_ | refine Both.mk ?_ ?_ | refine xgon ?_ | intro _)))))
  refine xcal (σ := []) (nl := []) (cread (x0 = 1 ∨ x0 = 4 ∨ x0 = 5) s (r.2).1 (r.2).2 (by omega) hs) ?_
  rintro v h' ⟨rfl, rfl⟩ hcaps
  rw [show st s (x0 = 1 ∨ x0 = 4 ∨ x0 = 5) ((r.2).1, (r.2).2) = st s (r0.1 = 1 ∨ r0.1 = 4 ∨ r0.1 = 5) (r.2) from st_congr (by omega)]
  have lq := st_le (s := s) (U := r0.1 = 1 ∨ r0.1 = 4 ∨ r0.1 = 5) (a := (r.2).1) (e := (r.2).2) (by omega)
  rw [show st s (r0.1 = 1 ∨ r0.1 = 4 ∨ r0.1 = 5) ((r.2).1, (r.2).2) = st s (r0.1 = 1 ∨ r0.1 = 4 ∨ r0.1 = 5) (r.2) from rfl] at lq
  generalize eq : st s (r0.1 = 1 ∨ r0.1 = 4 ∨ r0.1 = 5) (r.2) = q at *
  refine rH15pE0 ?_
  repeat' (first | (fail_if_success (with_reducible refine xstp ?_)); first | ((with_reducible refine And.intro (fun (hb : _ = true) => ?_) (fun (hb : _ = false) => ?_)) <;> replace hb := xnC hb <;> (try first | exact xfC | exact bff hb (by assumption) | exact bff (by assumption) hb)) | (with_reducible refine Both.mk ?_ ?_) | ((with_reducible refine And.intro ?_ ?_); focus exact xoC) | ((with_reducible refine Or.inl ⟨?_, ?_, ?_⟩); (focus rfl); focus exact xaC) | ((with_reducible refine xwB ?_ ?_); focus exact xaC) | ((with_reducible refine xwC ?_ ?_); focus exact xaC) | ((with_reducible refine xwD ?_ ?_); focus exact xaC) | ((with_reducible refine xwE ?_ ?_); focus exact xaC) | (with_reducible intro hc; (try simp only [capsP, and_true] at hc); (try exact xfC)) | ((fail_if_success (with_reducible first | refine xgon ?_ | intro _)); (conv => whnf); (fail_if_success (fail_if_success (with_reducible first | refine xstp ?_ | refine Both.mk ?_ ?_ | refine xgon ?_ | intro _)))))
  refine xcal (σ := []) (nl := []) (chas (letL x0) 102 (letL_len x0)) ?_
  rintro v h' ⟨rfl, rfl⟩ hcaps
  rw [hasF]
  refine rH15pE0 ?_
  repeat' (first | (fail_if_success (with_reducible refine xstp ?_)); first | ((with_reducible refine And.intro (fun (hb : _ = true) => ?_) (fun (hb : _ = false) => ?_)) <;> replace hb := xnC hb <;> (try first | exact xfC | exact bff hb (by assumption) | exact bff (by assumption) hb)) | (with_reducible refine Both.mk ?_ ?_) | ((with_reducible refine And.intro ?_ ?_); focus exact xoC) | ((with_reducible refine Or.inl ⟨?_, ?_, ?_⟩); (focus rfl); focus exact xaC) | ((with_reducible refine xwB ?_ ?_); focus exact xaC) | ((with_reducible refine xwC ?_ ?_); focus exact xaC) | ((with_reducible refine xwD ?_ ?_); focus exact xaC) | ((with_reducible refine xwE ?_ ?_); focus exact xaC) | (with_reducible intro hc; (try simp only [capsP, and_true] at hc); (try exact xfC)) | ((fail_if_success (with_reducible first | refine xgon ?_ | intro _)); (conv => whnf); (fail_if_success (fail_if_success (with_reducible first | refine xstp ?_ | refine Both.mk ?_ ?_ | refine xgon ?_ | intro _)))))
  refine xcal (σ := []) (nl := []) (cread (x0 = 2 ∨ x0 = 3 ∨ x0 = 4) s (q.2).1 (q.2).2 (by omega) hs) ?_
  rintro v h' ⟨rfl, rfl⟩ hcaps
  rw [show st s (x0 = 2 ∨ x0 = 3 ∨ x0 = 4) ((q.2).1, (q.2).2) = st s (r0.1 = 2 ∨ r0.1 = 3 ∨ r0.1 = 4) (q.2) from st_congr (by omega)]
  have lfi := st_le (s := s) (U := r0.1 = 2 ∨ r0.1 = 3 ∨ r0.1 = 4) (a := (q.2).1) (e := (q.2).2) (by omega)
  rw [show st s (r0.1 = 2 ∨ r0.1 = 3 ∨ r0.1 = 4) ((q.2).1, (q.2).2) = st s (r0.1 = 2 ∨ r0.1 = 3 ∨ r0.1 = 4) (q.2) from rfl] at lfi
  generalize efi : st s (r0.1 = 2 ∨ r0.1 = 3 ∨ r0.1 = 4) (q.2) = fi at *
  refine rH15pE0 ?_
  repeat' (first | (fail_if_success (with_reducible refine xstp ?_)); first | ((with_reducible refine And.intro (fun (hb : _ = true) => ?_) (fun (hb : _ = false) => ?_)) <;> replace hb := xnC hb <;> (try first | exact xfC | exact bff hb (by assumption) | exact bff (by assumption) hb)) | (with_reducible refine Both.mk ?_ ?_) | ((with_reducible refine And.intro ?_ ?_); focus exact xoC) | ((with_reducible refine Or.inl ⟨?_, ?_, ?_⟩); (focus rfl); focus exact xaC) | ((with_reducible refine xwB ?_ ?_); focus exact xaC) | ((with_reducible refine xwC ?_ ?_); focus exact xaC) | ((with_reducible refine xwD ?_ ?_); focus exact xaC) | ((with_reducible refine xwE ?_ ?_); focus exact xaC) | (with_reducible intro hc; (try simp only [capsP, and_true] at hc); (try exact xfC)) | ((fail_if_success (with_reducible first | refine xgon ?_ | intro _)); (conv => whnf); (fail_if_success (fail_if_success (with_reducible first | refine xstp ?_ | refine Both.mk ?_ ?_ | refine xgon ?_ | intro _)))))
  refine xcal (σ := []) (nl := []) (chas (letL x0) 108 (letL_len x0)) ?_
  rintro v h' ⟨rfl, rfl⟩ hcaps
  rw [hasL]
  refine rH15pE0 ?_
  repeat' (first | (fail_if_success (with_reducible refine xstp ?_)); first | ((with_reducible refine And.intro (fun (hb : _ = true) => ?_) (fun (hb : _ = false) => ?_)) <;> replace hb := xnC hb <;> (try first | exact xfC | exact bff hb (by assumption) | exact bff (by assumption) hb)) | (with_reducible refine Both.mk ?_ ?_) | ((with_reducible refine And.intro ?_ ?_); focus exact xoC) | ((with_reducible refine Or.inl ⟨?_, ?_, ?_⟩); (focus rfl); focus exact xaC) | ((with_reducible refine xwB ?_ ?_); focus exact xaC) | ((with_reducible refine xwC ?_ ?_); focus exact xaC) | ((with_reducible refine xwD ?_ ?_); focus exact xaC) | ((with_reducible refine xwE ?_ ?_); focus exact xaC) | (with_reducible intro hc; (try simp only [capsP, and_true] at hc); (try exact xfC)) | ((fail_if_success (with_reducible first | refine xgon ?_ | intro _)); (conv => whnf); (fail_if_success (fail_if_success (with_reducible first | refine xstp ?_ | refine Both.mk ?_ ?_ | refine xgon ?_ | intro _)))))
  refine xcal (σ := []) (nl := []) (cread (x0 = 2 ∨ x0 = 3 ∨ x0 = 4) s (fi.2).1 (fi.2).2 (by omega) hs) ?_
  rintro v h' ⟨rfl, rfl⟩ hcaps
  rw [show st s (x0 = 2 ∨ x0 = 3 ∨ x0 = 4) ((fi.2).1, (fi.2).2) = st s (r0.1 = 2 ∨ r0.1 = 3 ∨ r0.1 = 4) (fi.2) from st_congr (by omega)]
  have lla := st_le (s := s) (U := r0.1 = 2 ∨ r0.1 = 3 ∨ r0.1 = 4) (a := (fi.2).1) (e := (fi.2).2) (by omega)
  rw [show st s (r0.1 = 2 ∨ r0.1 = 3 ∨ r0.1 = 4) ((fi.2).1, (fi.2).2) = st s (r0.1 = 2 ∨ r0.1 = 3 ∨ r0.1 = 4) (fi.2) from rfl] at lla
  generalize ela : st s (r0.1 = 2 ∨ r0.1 = 3 ∨ r0.1 = 4) (fi.2) = la at *
  refine rH15pE0 ?_
  repeat' (first | (fail_if_success (with_reducible refine xstp ?_)); first | ((with_reducible refine And.intro (fun (hb : _ = true) => ?_) (fun (hb : _ = false) => ?_)) <;> replace hb := xnC hb <;> (try first | exact xfC | exact bff hb (by assumption) | exact bff (by assumption) hb)) | (with_reducible refine Both.mk ?_ ?_) | ((with_reducible refine And.intro ?_ ?_); focus exact xoC) | ((with_reducible refine Or.inl ⟨?_, ?_, ?_⟩); (focus rfl); focus exact xaC) | ((with_reducible refine xwB ?_ ?_); focus exact xaC) | ((with_reducible refine xwC ?_ ?_); focus exact xaC) | ((with_reducible refine xwD ?_ ?_); focus exact xaC) | ((with_reducible refine xwE ?_ ?_); focus exact xaC) | (with_reducible intro hc; (try simp only [capsP, and_true] at hc); (try exact xfC)) | ((fail_if_success (with_reducible first | refine xgon ?_ | intro _)); (conv => whnf); (fail_if_success (fail_if_success (with_reducible first | refine xstp ?_ | refine Both.mk ?_ ?_ | refine xgon ?_ | intro _)))))
  refine xcal (σ := []) (nl := []) (chas (letL x0) 97 (letL_len x0)) ?_
  rintro v h' ⟨rfl, rfl⟩ hcaps
  rw [hasA]
  refine rH15pE0 ?_
  repeat' (first | (fail_if_success (with_reducible refine xstp ?_)); first | ((with_reducible refine And.intro (fun (hb : _ = true) => ?_) (fun (hb : _ = false) => ?_)) <;> replace hb := xnC hb <;> (try first | exact xfC | exact bff hb (by assumption) | exact bff (by assumption) hb)) | (with_reducible refine Both.mk ?_ ?_) | ((with_reducible refine And.intro ?_ ?_); focus exact xoC) | ((with_reducible refine Or.inl ⟨?_, ?_, ?_⟩); (focus rfl); focus exact xaC) | ((with_reducible refine xwB ?_ ?_); focus exact xaC) | ((with_reducible refine xwC ?_ ?_); focus exact xaC) | ((with_reducible refine xwD ?_ ?_); focus exact xaC) | ((with_reducible refine xwE ?_ ?_); focus exact xaC) | (with_reducible intro hc; (try simp only [capsP, and_true] at hc); (try exact xfC)) | ((fail_if_success (with_reducible first | refine xgon ?_ | intro _)); (conv => whnf); (fail_if_success (fail_if_success (with_reducible first | refine xstp ?_ | refine Both.mk ?_ ?_ | refine xgon ?_ | intro _)))))
  refine xcal (σ := []) (nl := []) (cread (1 ≤ x0 ∧ x0 ≤ 5) s (la.2).1 (la.2).2 (by omega) hs) ?_
  rintro v h' ⟨rfl, rfl⟩ hcaps
  have lat' := rdS_le (s := s) (a := (la.2).1) (e := (la.2).2) (m := 1099511627776) (by omega)
  rw [show st s (1 ≤ x0 ∧ x0 ≤ 5) ((la.2).1, (la.2).2) = rdS s (la.2).1 (la.2).2 1099511627776 from if_pos (by omega)]
  generalize eat' : rdS s (la.2).1 (la.2).2 1099511627776 = at' at *
  refine rH15pE0 ?_
  repeat' (first | (fail_if_success (with_reducible refine xstp ?_)); first | ((with_reducible refine And.intro (fun (hb : _ = true) => ?_) (fun (hb : _ = false) => ?_)) <;> replace hb := xnC hb <;> (try first | exact xfC | exact bff hb (by assumption) | exact bff (by assumption) hb)) | (with_reducible refine Both.mk ?_ ?_) | ((with_reducible refine And.intro ?_ ?_); focus exact xoC) | ((with_reducible refine Or.inl ⟨?_, ?_, ?_⟩); (focus rfl); focus exact xaC) | ((with_reducible refine xwB ?_ ?_); focus exact xaC) | ((with_reducible refine xwC ?_ ?_); focus exact xaC) | ((with_reducible refine xwD ?_ ?_); focus exact xaC) | ((with_reducible refine xwE ?_ ?_); focus exact xaC) | (with_reducible intro hc; (try simp only [capsP, and_true] at hc); (try exact xfC)) | ((fail_if_success (with_reducible first | refine xgon ?_ | intro _)); (conv => whnf); (fail_if_success (fail_if_success (with_reducible first | refine xstp ?_ | refine Both.mk ?_ ?_ | refine xgon ?_ | intro _)))))
  refine xcal (σ := []) (nl := []) (chas (letL x0) 109 (letL_len x0)) ?_
  rintro v h' ⟨rfl, rfl⟩ hcaps
  rw [hasM]
  refine rH15pE0 ?_
  repeat' (first | (fail_if_success (with_reducible refine xstp ?_)); first | ((with_reducible refine And.intro (fun (hb : _ = true) => ?_) (fun (hb : _ = false) => ?_)) <;> replace hb := xnC hb <;> (try first | exact xfC | exact bff hb (by assumption) | exact bff (by assumption) hb)) | (with_reducible refine Both.mk ?_ ?_) | ((with_reducible refine And.intro ?_ ?_); focus exact xoC) | ((with_reducible refine Or.inl ⟨?_, ?_, ?_⟩); (focus rfl); focus exact xaC) | ((with_reducible refine xwB ?_ ?_); focus exact xaC) | ((with_reducible refine xwC ?_ ?_); focus exact xaC) | ((with_reducible refine xwD ?_ ?_); focus exact xaC) | ((with_reducible refine xwE ?_ ?_); focus exact xaC) | (with_reducible intro hc; (try simp only [capsP, and_true] at hc); (try exact xfC)) | ((fail_if_success (with_reducible first | refine xgon ?_ | intro _)); (conv => whnf); (fail_if_success (fail_if_success (with_reducible first | refine xstp ?_ | refine Both.mk ?_ ?_ | refine xgon ?_ | intro _)))))
  · have b3 : r0.1 = 3 := by omega
    have b4 : ¬ (r0.1 = 1 ∨ r0.1 = 5) := by omega
    have hn32 := rdS_max s at'.2.1 at'.2.2 32 (by decide)
    refine xcal (σ := []) (nl := []) (cRSmall s at'.2.1 at'.2.2 32 (by omega) hs (by decide)) ?_
    rintro v h' ⟨rfl, rfl⟩ hcaps
    have ln := rdS_le (s := s) (a := at'.2.1) (e := at'.2.2) (m := 32) (by omega)
    generalize en : rdS s at'.2.1 at'.2.2 32 = n at *
    refine rH15pE0 ?_
    repeat' (first | (fail_if_success (with_reducible refine xstp ?_)); first | ((with_reducible refine And.intro (fun (hb : _ = true) => ?_) (fun (hb : _ = false) => ?_)) <;> replace hb := xnC hb <;> (try first | exact xfC | exact bff hb (by assumption) | exact bff (by assumption) hb)) | (with_reducible refine Both.mk ?_ ?_) | ((with_reducible refine And.intro ?_ ?_); focus exact xoC) | ((with_reducible refine Or.inl ⟨?_, ?_, ?_⟩); (focus rfl); focus exact xaC) | ((with_reducible refine xwB ?_ ?_); focus exact xaC) | ((with_reducible refine xwC ?_ ?_); focus exact xaC) | ((with_reducible refine xwD ?_ ?_); focus exact xaC) | ((with_reducible refine xwE ?_ ?_); focus exact xaC) | (with_reducible intro hc; (try simp only [capsP, and_true] at hc); (try exact xfC)) | ((fail_if_success (with_reducible first | refine xgon ?_ | intro _)); (conv => whnf); (fail_if_success (fail_if_success (with_reducible first | refine xstp ?_ | refine Both.mk ?_ ?_ | refine xgon ?_ | intro _)))))
    refine LoopK.mk' {p : Nat × List Int × Nat × Nat × Nat // p.1 ≤ n.1 ∧ p.2.1.length = p.1 ∧ p.2.2.1 ≤ s.size ∧ rdL s n.1 n.2.1 n.2.2 = (p.2.1 ++ (rdL s (n.1 - p.1) p.2.2.1 p.2.2.2.1).1, (rdL s (n.1 - p.1) p.2.2.1 p.2.2.2.1).2)}
      (fun ⟨(i, l, a, e, c), _⟩ => ⟨[(0, .c (.s s)), (2, .c (.p 0 0 0)), (4, .c (.p 1 0 0)), (5, .c (.p 2 0 0)), (6, .c (.s (mkS (letL x0)))), (7, .c (.i .i64 (n.1 : Nat))), (9, .c (.i .i64 (i : Nat)))],
        [.one (.cells true (encP .nils pk0)), .one (.cells true (encP (.sl 3 0 1 0 l.length c) ⟨x0, f.1, t.1, w.1, r.1, q.1, fi.1, la.1, at'.1, [], []⟩)), .one (.cells true (rv s a e)), .one (ints true l c)]⟩) (fun k => n.1 - k.1.1)
      ⟨⟨(0, [], n.2.1, n.2.2, 0), Nat.zero_le _, rfl, by simp only; omega, by simp⟩, [0, 1, 2, 99], ?_⟩ ?_
    · (repeat' first | refine And.intro ?_ ?_ | exact xeC | fail)
      all_goals (intro i hi; exact absurd hi (Nat.not_lt_zero i))
    rintro ⟨⟨i, l, a, e, c⟩, hi, hl, ha, hR⟩
    simp only at hi hl ha hR
    repeat' (first | (fail_if_success (with_reducible refine xstp ?_)); first | ((with_reducible refine And.intro (fun (hb : _ = true) => ?_) (fun (hb : _ = false) => ?_)) <;> replace hb := xnC hb <;> (try first | exact xfC | exact bff hb (by assumption) | exact bff (by assumption) hb)) | (with_reducible refine Both.mk ?_ ?_) | ((with_reducible refine And.intro ?_ ?_); focus exact xoC) | ((with_reducible refine Or.inl ⟨?_, ?_, ?_⟩); (focus rfl); focus exact xaC) | ((with_reducible refine xwB ?_ ?_); focus exact xaC) | ((with_reducible refine xwC ?_ ?_); focus exact xaC) | ((with_reducible refine xwD ?_ ?_); focus exact xaC) | ((with_reducible refine xwE ?_ ?_); focus exact xaC) | (with_reducible intro hc; (try simp only [capsP, and_true] at hc); (try exact xfC)) | ((fail_if_success (with_reducible first | refine xgon ?_ | intro _)); (conv => whnf); (fail_if_success (fail_if_success (with_reducible first | refine xstp ?_ | refine Both.mk ?_ ?_ | refine xgon ?_ | intro _)))))
    · have hs1 : n.1 - i = (n.1 - (i + 1)) + 1 := by omega
      rw [hs1, rdL] at hR
      refine xcal (σ := []) (nl := []) (creadT s (a) (e) (by omega) hs) ?_
      rintro v h' ⟨rfl, rfl⟩ hcaps
      have lx := rdS_le (s := s) (a := a) (e := e) (m := 1099511627776) (by omega)
      generalize ex : rdS s (a) (e) 1099511627776 = x at *
      refine rH15pE0 ?_
      repeat' (first | (fail_if_success (with_reducible refine xstp ?_)); first | ((with_reducible refine And.intro (fun (hb : _ = true) => ?_) (fun (hb : _ = false) => ?_)) <;> replace hb := xnC hb <;> (try first | exact xfC | exact bff hb (by assumption) | exact bff (by assumption) hb)) | (with_reducible refine Both.mk ?_ ?_) | ((with_reducible refine And.intro ?_ ?_); focus exact xoC) | ((with_reducible refine Or.inl ⟨?_, ?_, ?_⟩); (focus rfl); focus exact xaC) | ((with_reducible refine xwB ?_ ?_); focus exact xaC) | ((with_reducible refine xwC ?_ ?_); focus exact xaC) | ((with_reducible refine xwD ?_ ?_); focus exact xaC) | ((with_reducible refine xwE ?_ ?_); focus exact xaC) | (with_reducible intro hc; (try simp only [capsP, and_true] at hc); (try exact xfC)) | ((fail_if_success (with_reducible first | refine xgon ?_ | intro _)); (conv => whnf); (fail_if_success (fail_if_success (with_reducible first | refine xstp ?_ | refine Both.mk ?_ ?_ | refine xgon ?_ | intro _)))))
      rename_i c2
      refine ⟨⟨(i + 1, l ++ [(x.1 : Int)], x.2.1, x.2.2, c2), by omega, by simp only [List.length_append, List.length_singleton]; omega, by simp only; omega, by simp only [hR, List.append_assoc, List.singleton_append]⟩, [0, 1, 2, 5], by simp only; omega, ?_⟩
      (repeat' first | refine And.intro ?_ ?_ | exact xeC | fail)
      all_goals first | omega | (simp only [List.length_append, List.length_singleton]; done) | (rw [List.length_append, List.length_singleton]; omega) | (intro i hi; (first | refine app_rowG _ _ _ _ ?_ i hi | refine app_row _ _ _ ?_ i hi); first | rfl | (simp only [Int.toNat_natCast, Nat.zero_add]; rfl))
    · have hi0 : n.1 - i = 0 := by omega
      rw [hi0, rdL, List.append_nil] at hR
      refine xcal (σ := []) (nl := []) (chas (letL x0) 112 (letL_len x0)) ?_
      rintro v h' ⟨rfl, rfl⟩ hcaps
      rw [hasP]
      refine rH15pE0 ?_
      repeat' (first | (fail_if_success (with_reducible refine xstp ?_)); first | ((with_reducible refine And.intro (fun (hb : _ = true) => ?_) (fun (hb : _ = false) => ?_)) <;> replace hb := xnC hb <;> (try first | exact xfC | exact bff hb (by assumption) | exact bff (by assumption) hb)) | (with_reducible refine Both.mk ?_ ?_) | ((with_reducible refine And.intro ?_ ?_); focus exact xoC) | ((with_reducible refine Or.inl ⟨?_, ?_, ?_⟩); (focus rfl); focus exact xaC) | ((with_reducible refine xwB ?_ ?_); focus exact xaC) | ((with_reducible refine xwC ?_ ?_); focus exact xaC) | ((with_reducible refine xwD ?_ ?_); focus exact xaC) | ((with_reducible refine xwE ?_ ?_); focus exact xaC) | (with_reducible intro hc; (try simp only [capsP, and_true] at hc); (try exact xfC)) | ((fail_if_success (with_reducible first | refine xgon ?_ | intro _)); (conv => whnf); (fail_if_success (fail_if_success (with_reducible first | refine xstp ?_ | refine Both.mk ?_ ?_ | refine xgon ?_ | intro _)))))
      have hD := dec_of er0 he0 hk0 (x := (⟨r0.1, f.1, t.1, w.1, r.1, q.1, fi.1, la.1, at'.1, l, []⟩ : Pk)) (a := a) (e := e) (by simp only [decF, if_pos b3, if_neg b4, ef, et, ew, er, eq, efi, ela, eat', en, hR, rdL]; first | done | rfl)
      refine xcal (σ := []) (nl := []) (cREnd s (a) (e)) ?_
      rintro v h' ⟨rfl, rfl⟩ hcaps
      generalize endV s (a) (e) = z at *
      refine rH15pE0 ?_
      repeat' (first | (fail_if_success (with_reducible refine xstp ?_)); first | ((with_reducible refine And.intro (fun (hb : _ = true) => ?_) (fun (hb : _ = false) => ?_)) <;> replace hb := xnC hb <;> (try first | exact xfC | exact bff hb (by assumption) | exact bff (by assumption) hb)) | (with_reducible refine Both.mk ?_ ?_) | ((with_reducible refine And.intro ?_ ?_); focus exact xoC) | ((with_reducible refine Or.inl ⟨?_, ?_, ?_⟩); (focus rfl); focus exact xaC) | ((with_reducible refine xwB ?_ ?_); focus exact xaC) | ((with_reducible refine xwC ?_ ?_); focus exact xaC) | ((with_reducible refine xwD ?_ ?_); focus exact xaC) | ((with_reducible refine xwE ?_ ?_); focus exact xaC) | (with_reducible intro hc; (try simp only [capsP, and_true] at hc); (try exact xfC)) | ((fail_if_success (with_reducible first | refine xgon ?_ | intro _)); (conv => whnf); (fail_if_success (fail_if_success (with_reducible first | refine xstp ?_ | refine Both.mk ?_ ?_ | refine xgon ?_ | intro _)))))
      · rw [if_pos (by omega)] at hD
        rw [hD]
        refine FinK.mk ⟨[99], _, _, ⟨0, rfl, rfl⟩, ?_⟩
        (repeat' first | refine And.intro ?_ ?_ | exact xeC | fail)
        all_goals first | rfl | (intro i hi; exact absurd hi (Nat.not_lt_zero i))
      · rw [if_neg (by omega)] at hD
        refine xcal (σ := [.whole 3]) (nl := []) ( cCheckR ((⟨r0.1, f.1, t.1, w.1, r.1, q.1, fi.1, la.1, at'.1, l, []⟩ : Pk)) true c (by first | exact Nat.zero_le _ | omega | (simp only; omega)) (by first | exact Nat.zero_le _ | omega | (simp only; omega))) ?_ (hle := by (repeat' first | refine And.intro ?_ ?_ | exact xeC | fail) <;> (first | exact hx0.symm | omega))
        rintro v h' ⟨rfl, rfl⟩ hcaps
        refine rH15pE0 ?_
        repeat' (first | (fail_if_success (with_reducible refine xstp ?_)); first | ((with_reducible refine And.intro (fun (hb : _ = true) => ?_) (fun (hb : _ = false) => ?_)) <;> replace hb := xnC hb <;> (try first | exact xfC | exact bff hb (by assumption) | exact bff (by assumption) hb)) | (with_reducible refine Both.mk ?_ ?_) | ((with_reducible refine And.intro ?_ ?_); focus exact xoC) | ((with_reducible refine Or.inl ⟨?_, ?_, ?_⟩); (focus rfl); focus exact xaC) | ((with_reducible refine xwB ?_ ?_); focus exact xaC) | ((with_reducible refine xwC ?_ ?_); focus exact xaC) | ((with_reducible refine xwD ?_ ?_); focus exact xaC) | ((with_reducible refine xwE ?_ ?_); focus exact xaC) | (with_reducible intro hc; (try simp only [capsP, and_true] at hc); (try exact xfC)) | ((fail_if_success (with_reducible first | refine xgon ?_ | intro _)); (conv => whnf); (fail_if_success (fail_if_success (with_reducible first | refine xstp ?_ | refine Both.mk ?_ ?_ | refine xgon ?_ | intro _)))))
        · rw [if_pos (by omega)] at hD
          rw [hD]
          refine FinK.mk ⟨[99], _, _, ⟨0, rfl, rfl⟩, ?_⟩
          (repeat' first | refine And.intro ?_ ?_ | exact xeC | fail)
          all_goals first | rfl | (intro i hi; exact absurd hi (Nat.not_lt_zero i))
        · rw [if_neg (by omega)] at hD
          rw [hD]
          refine FinK.mk ⟨[3], _, _, ⟨c, rfl, rfl⟩, ?_⟩
          (repeat' first | refine And.intro ?_ ?_ | exact xeC | fail)
          all_goals first | rfl | exact hx0.symm | exact hx0 | (intro i hi; exact absurd hi (Nat.not_lt_zero i))
  · have b3 : ¬ r0.1 = 3 := by omega
    refine xcal (σ := []) (nl := []) (chas (letL x0) 112 (letL_len x0)) ?_
    rintro v h' ⟨rfl, rfl⟩ hcaps
    rw [hasP]
    refine rH15pE0 ?_
    repeat' (first | (fail_if_success (with_reducible refine xstp ?_)); first | ((with_reducible refine And.intro (fun (hb : _ = true) => ?_) (fun (hb : _ = false) => ?_)) <;> replace hb := xnC hb <;> (try first | exact xfC | exact bff hb (by assumption) | exact bff (by assumption) hb)) | (with_reducible refine Both.mk ?_ ?_) | ((with_reducible refine And.intro ?_ ?_); focus exact xoC) | ((with_reducible refine Or.inl ⟨?_, ?_, ?_⟩); (focus rfl); focus exact xaC) | ((with_reducible refine xwB ?_ ?_); focus exact xaC) | ((with_reducible refine xwC ?_ ?_); focus exact xaC) | ((with_reducible refine xwD ?_ ?_); focus exact xaC) | ((with_reducible refine xwE ?_ ?_); focus exact xaC) | (with_reducible intro hc; (try simp only [capsP, and_true] at hc); (try exact xfC)) | ((fail_if_success (with_reducible first | refine xgon ?_ | intro _)); (conv => whnf); (fail_if_success (fail_if_success (with_reducible first | refine xstp ?_ | refine Both.mk ?_ ?_ | refine xgon ?_ | intro _)))))
    · have b4 : r0.1 = 1 ∨ r0.1 = 5 := by omega
      refine xcal (σ := []) (nl := []) (cRText s at'.2.1 at'.2.2 2000 (by omega) hs (by decide)) ?_
      rintro v h' ⟨rfl, rfl⟩ hcaps
      have lp := rdT_le (s := s) (a := at'.2.1) (e := at'.2.2) (m := 2000) (by omega)
      have hpl := rdT_len s at'.2.1 at'.2.2 2000
      generalize ep : rdT s at'.2.1 at'.2.2 2000 = p at *
      refine rH15pE0 ?_
      repeat' (first | (fail_if_success (with_reducible refine xstp ?_)); first | ((with_reducible refine And.intro (fun (hb : _ = true) => ?_) (fun (hb : _ = false) => ?_)) <;> replace hb := xnC hb <;> (try first | exact xfC | exact bff hb (by assumption) | exact bff (by assumption) hb)) | (with_reducible refine Both.mk ?_ ?_) | ((with_reducible refine And.intro ?_ ?_); focus exact xoC) | ((with_reducible refine Or.inl ⟨?_, ?_, ?_⟩); (focus rfl); focus exact xaC) | ((with_reducible refine xwB ?_ ?_); focus exact xaC) | ((with_reducible refine xwC ?_ ?_); focus exact xaC) | ((with_reducible refine xwD ?_ ?_); focus exact xaC) | ((with_reducible refine xwE ?_ ?_); focus exact xaC) | (with_reducible intro hc; (try simp only [capsP, and_true] at hc); (try exact xfC)) | ((fail_if_success (with_reducible first | refine xgon ?_ | intro _)); (conv => whnf); (fail_if_success (fail_if_success (with_reducible first | refine xstp ?_ | refine Both.mk ?_ ?_ | refine xgon ?_ | intro _)))))
      have hD := dec_of er0 he0 hk0 (x := (⟨r0.1, f.1, t.1, w.1, r.1, q.1, fi.1, la.1, at'.1, [], p.1⟩ : Pk)) (a := p.2.1) (e := p.2.2) (by simp only [decF, if_neg b3, if_pos b4, ef, et, ew, er, eq, efi, ela, eat', ep, rdL]; first | done | rfl)
      refine xcal (σ := []) (nl := []) (cREnd s (p.2.1) (p.2.2)) ?_
      rintro v h' ⟨rfl, rfl⟩ hcaps
      generalize endV s (p.2.1) (p.2.2) = z at *
      refine rH15pE0 ?_
      repeat' (first | (fail_if_success (with_reducible refine xstp ?_)); first | ((with_reducible refine And.intro (fun (hb : _ = true) => ?_) (fun (hb : _ = false) => ?_)) <;> replace hb := xnC hb <;> (try first | exact xfC | exact bff hb (by assumption) | exact bff (by assumption) hb)) | (with_reducible refine Both.mk ?_ ?_) | ((with_reducible refine And.intro ?_ ?_); focus exact xoC) | ((with_reducible refine Or.inl ⟨?_, ?_, ?_⟩); (focus rfl); focus exact xaC) | ((with_reducible refine xwB ?_ ?_); focus exact xaC) | ((with_reducible refine xwC ?_ ?_); focus exact xaC) | ((with_reducible refine xwD ?_ ?_); focus exact xaC) | ((with_reducible refine xwE ?_ ?_); focus exact xaC) | (with_reducible intro hc; (try simp only [capsP, and_true] at hc); (try exact xfC)) | ((fail_if_success (with_reducible first | refine xgon ?_ | intro _)); (conv => whnf); (fail_if_success (fail_if_success (with_reducible first | refine xstp ?_ | refine Both.mk ?_ ?_ | refine xgon ?_ | intro _)))))
      · rw [if_pos (by omega)] at hD
        rw [hD]
        refine FinK.mk ⟨[99], _, _, ⟨0, rfl, rfl⟩, ?_⟩
        (repeat' first | refine And.intro ?_ ?_ | exact xeC | fail)
        all_goals first | rfl | (intro i hi; exact absurd hi (Nat.not_lt_zero i))
      · rw [if_neg (by omega)] at hD
        refine xcal (σ := [.whole 3]) (nl := [.one (ints true noI 0)]) (cCheckR ((⟨r0.1, f.1, t.1, w.1, r.1, q.1, fi.1, la.1, at'.1, [], p.1⟩ : Pk)) true 0 (by first | exact Nat.zero_le _ | omega | (simp only; omega)) (by first | exact Nat.zero_le _ | omega | (simp only; omega))) ?_ (hle := by (repeat' first | refine And.intro ?_ ?_ | exact xeC | fail) <;> (first | exact hx0.symm | omega))
        rintro v h' ⟨rfl, rfl⟩ hcaps
        refine rH15pE0 ?_
        repeat' (first | (fail_if_success (with_reducible refine xstp ?_)); first | ((with_reducible refine And.intro (fun (hb : _ = true) => ?_) (fun (hb : _ = false) => ?_)) <;> replace hb := xnC hb <;> (try first | exact xfC | exact bff hb (by assumption) | exact bff (by assumption) hb)) | (with_reducible refine Both.mk ?_ ?_) | ((with_reducible refine And.intro ?_ ?_); focus exact xoC) | ((with_reducible refine Or.inl ⟨?_, ?_, ?_⟩); (focus rfl); focus exact xaC) | ((with_reducible refine xwB ?_ ?_); focus exact xaC) | ((with_reducible refine xwC ?_ ?_); focus exact xaC) | ((with_reducible refine xwD ?_ ?_); focus exact xaC) | ((with_reducible refine xwE ?_ ?_); focus exact xaC) | (with_reducible intro hc; (try simp only [capsP, and_true] at hc); (try exact xfC)) | ((fail_if_success (with_reducible first | refine xgon ?_ | intro _)); (conv => whnf); (fail_if_success (fail_if_success (with_reducible first | refine xstp ?_ | refine Both.mk ?_ ?_ | refine xgon ?_ | intro _)))))
        · rw [if_pos (by omega)] at hD
          rw [hD]
          refine FinK.mk ⟨[99], _, _, ⟨0, rfl, rfl⟩, ?_⟩
          (repeat' first | refine And.intro ?_ ?_ | exact xeC | fail)
          all_goals first | rfl | (intro i hi; exact absurd hi (Nat.not_lt_zero i))
        · rw [if_neg (by omega)] at hD
          rw [hD]
          refine FinK.mk ⟨[99], _, _, ⟨0, rfl, rfl⟩, ?_⟩
          (repeat' first | refine And.intro ?_ ?_ | exact xeC | fail)
          all_goals first | rfl | exact hx0.symm | exact hx0 | (intro i hi; exact absurd hi (Nat.not_lt_zero i))
    · have b4 : ¬ (r0.1 = 1 ∨ r0.1 = 5) := by omega
      have hD := dec_of er0 he0 hk0 (x := (⟨r0.1, f.1, t.1, w.1, r.1, q.1, fi.1, la.1, at'.1, [], []⟩ : Pk)) (a := at'.2.1) (e := at'.2.2) (by simp only [decF, if_neg b3, if_neg b4, ef, et, ew, er, eq, efi, ela, eat', rdL]; first | done | rfl)
      refine xcal (σ := []) (nl := []) (cREnd s (at'.2.1) (at'.2.2)) ?_
      rintro v h' ⟨rfl, rfl⟩ hcaps
      generalize endV s (at'.2.1) (at'.2.2) = z at *
      refine rH15pE0 ?_
      repeat' (first | (fail_if_success (with_reducible refine xstp ?_)); first | ((with_reducible refine And.intro (fun (hb : _ = true) => ?_) (fun (hb : _ = false) => ?_)) <;> replace hb := xnC hb <;> (try first | exact xfC | exact bff hb (by assumption) | exact bff (by assumption) hb)) | (with_reducible refine Both.mk ?_ ?_) | ((with_reducible refine And.intro ?_ ?_); focus exact xoC) | ((with_reducible refine Or.inl ⟨?_, ?_, ?_⟩); (focus rfl); focus exact xaC) | ((with_reducible refine xwB ?_ ?_); focus exact xaC) | ((with_reducible refine xwC ?_ ?_); focus exact xaC) | ((with_reducible refine xwD ?_ ?_); focus exact xaC) | ((with_reducible refine xwE ?_ ?_); focus exact xaC) | (with_reducible intro hc; (try simp only [capsP, and_true] at hc); (try exact xfC)) | ((fail_if_success (with_reducible first | refine xgon ?_ | intro _)); (conv => whnf); (fail_if_success (fail_if_success (with_reducible first | refine xstp ?_ | refine Both.mk ?_ ?_ | refine xgon ?_ | intro _)))))
      · rw [if_pos (by omega)] at hD
        rw [hD]
        refine FinK.mk ⟨[99], _, _, ⟨0, rfl, rfl⟩, ?_⟩
        (repeat' first | refine And.intro ?_ ?_ | exact xeC | fail)
        all_goals first | rfl | (intro i hi; exact absurd hi (Nat.not_lt_zero i))
      · rw [if_neg (by omega)] at hD
        refine xcal (σ := [.whole 3]) (nl := [.one (ints true noI 0)]) (cCheckR ((⟨r0.1, f.1, t.1, w.1, r.1, q.1, fi.1, la.1, at'.1, [], []⟩ : Pk)) true 0 (by first | exact Nat.zero_le _ | omega | (simp only; omega)) (by first | exact Nat.zero_le _ | omega | (simp only; omega))) ?_ (hle := by (repeat' first | refine And.intro ?_ ?_ | exact xeC | fail) <;> (first | exact hx0.symm | omega))
        rintro v h' ⟨rfl, rfl⟩ hcaps
        refine rH15pE0 ?_
        repeat' (first | (fail_if_success (with_reducible refine xstp ?_)); first | ((with_reducible refine And.intro (fun (hb : _ = true) => ?_) (fun (hb : _ = false) => ?_)) <;> replace hb := xnC hb <;> (try first | exact xfC | exact bff hb (by assumption) | exact bff (by assumption) hb)) | (with_reducible refine Both.mk ?_ ?_) | ((with_reducible refine And.intro ?_ ?_); focus exact xoC) | ((with_reducible refine Or.inl ⟨?_, ?_, ?_⟩); (focus rfl); focus exact xaC) | ((with_reducible refine xwB ?_ ?_); focus exact xaC) | ((with_reducible refine xwC ?_ ?_); focus exact xaC) | ((with_reducible refine xwD ?_ ?_); focus exact xaC) | ((with_reducible refine xwE ?_ ?_); focus exact xaC) | (with_reducible intro hc; (try simp only [capsP, and_true] at hc); (try exact xfC)) | ((fail_if_success (with_reducible first | refine xgon ?_ | intro _)); (conv => whnf); (fail_if_success (fail_if_success (with_reducible first | refine xstp ?_ | refine Both.mk ?_ ?_ | refine xgon ?_ | intro _)))))
        · rw [if_pos (by omega)] at hD
          rw [hD]
          refine FinK.mk ⟨[99], _, _, ⟨0, rfl, rfl⟩, ?_⟩
          (repeat' first | refine And.intro ?_ ?_ | exact xeC | fail)
          all_goals first | rfl | (intro i hi; exact absurd hi (Nat.not_lt_zero i))
        · rw [if_neg (by omega)] at hD
          rw [hD]
          refine FinK.mk ⟨[99], _, _, ⟨0, rfl, rfl⟩, ?_⟩
          (repeat' first | refine And.intro ?_ ?_ | exact xeC | fail)
          all_goals first | rfl | exact hx0.symm | exact hx0 | (intro i hi; exact absurd hi (Nat.not_lt_zero i))
end Go.Proofs.Ytgaodeffbgppmaa

namespace Go.Proofs.Ytgaodeffbgppmaa
open Go.X
set_option linter.unusedSimpArgs false
set_option linter.unusedVariables false
structure Fg where
  (id ix ct : Int) (d : List UInt8)
deriving Inhabited, DecidableEq
def encG (f : Fg) : List C := [.i .i64 f.id, .i .i64 f.ix, .i .i64 f.ct, .s (mkS f.d)]
def okF (f : Fg) : Prop := (0 ≤ f.id ∧ f.id ≤ 1099511627776) ∧ (1 ≤ f.ct ∧ f.ct ≤ 64) ∧ (0 ≤ f.ix ∧ f.ix < f.ct) ∧ f.d.length ≤ 4000
instance (f : Fg) : Decidable (okF f) := by unfold okF; infer_instance
/-- An incomplete string. -/
structure Tx where
  (id : Nat) (fr i ct : Int) (M : List (Nat × Int × List UInt8)) (ck : Nat)
deriving Inhabited
def txD (fm y : Nat) (t : Tx) : Ck := .cells true [.i .i64 t.fr, .i .i64 t.i, .i .i64 t.ct, .mp fm y]
def paC (t : Tx) : Ck := .map true false t.ck t.M.length fun i => ((t.M.getD i default).1, .i (t.M.getD i default).2.1, .c (.s (mkS (t.M.getD i default).2.2)))
def txG (fm y : Nat) (L : List Tx) (x : Nat) : Ck := match L.find? fun t => t.id == x with | none => .no | some t => txD fm y t
abbrev txO (fm : Nat) (L : List Tx) (x : Nat) : Ck := txG fm x L x
def paO (L : List Tx) (x : Nat) : Ck := match L.find? fun t => t.id == x with | none => .no | some t => paC t
def encId (F : Nat) (x : Nat) : List C := [.p F x 0]
def encK (p : Int × Int) : List C := [.i .i64 p.1, .i .i64 p.2]
abbrev asm (mo : Int) (fo fd : Nat) (o n c nd cd : Nat) : Ck := .cells true [.i .i64 mo, .sl fo 0 1 o n c, .sl fd 0 2 0 nd cd]
abbrev opnR (F : Nat) (l : List Nat) (c : Nat) : Ck := .row true true 84 1 l.length c (rowOf (encId F) l)
abbrev donR (l : List (Int × Int)) (c : Nat) : Ck := .row true false 83 2 l.length c (rowOf encK l)
def idsOf (L : List Tx) : List Nat := L.map Tx.id
/-- A whole assembler: J names what was dropped at the front. -/
abbrev asmB (mo : Int) (J : List Nat) (L : List Tx) (dn : List (Int × Int)) (c cd : Nat) : List Fam :=
  [.one (asm mo 1 2 J.length L.length c dn.length cd), .one (opnR 3 (J ++ idsOf L) (J.length + c)), .one (donR dn cd), .many (txO 4 L), .many (paO L)]

abbrev keyR (p : Int × Int) : Ck := .row true false 83 1 2 2 (chunkOf 1 (encK p))

theorem find_id {L : List Tx} {x : Nat} {t : Tx} (h : L.find? (fun t => t.id == x) = some t) : t.id = x ∧ t ∈ L := by
  have h1 := List.find?_some h
  exact ⟨by simpa using h1, List.mem_of_find?_eq_some h⟩
theorem mtO_bel {n fm y : Nat} {L : List Tx} {x : Nat} (h : Nat.blt fm n = true) : (txG fm y L x).belK n True := by
  unfold txG
  split
  · trivial
  · show ifB _ True
    simp [C.belB, h, ifB]
theorem winO_bel {n : Nat} {L : List Tx} {x : Nat} : (paO L x).belK n True := by
  unfold paO
  split
  · trivial
  · exact ⟨fun i hi => rfl, trivial⟩
theorem mtG_rk (σ : List Sg) (N fm y : Nat) (L : List Tx) (x : Nat) : (txG fm y L x).rk σ N = txG (key σ N fm y).1 (key σ N fm y).2 L x := by
  unfold txG
  split
  · rfl
  · simp [txD, Ck.rk, C.rk]
theorem mtO_rk {σ : List Sg} {N fm fm' x : Nat} {L : List Tx} (h : key σ N fm x = (fm', x)) : (txO fm L x).rk σ N = txO fm' L x := by
  rw [mtG_rk, h]
theorem map_rk_id (σ : List Sg) (N F : Nat) (l : List Nat) (i : Nat) : List.map (C.rk σ N) (rowOf (encId F) l i) = [.p (key σ N F (l.getD i default)).1 (key σ N F (l.getD i default)).2 0] := rfl
theorem winO_rk (σ : List Sg) (N : Nat) (L : List Tx) (x : Nat) : (paO L x).rk σ N = paO L x := by
  unfold paO
  split <;> rfl
theorem mtR_bel {σ : List Sg} {n N fm fm' x : Nat} {L : List Tx} (hk : key σ N fm x = (fm', x)) (h : Nat.blt fm' n = true) : ((txO fm L x).rk σ N).belK n True := by
  rw [mtO_rk hk]; exact mtO_bel h
theorem winR_bel {σ : List Sg} {n N : Nat} {L : List Tx} {x : Nat} : ((paO L x).rk σ N).belK n True := by
  rw [winO_rk]; exact winO_bel
theorem mtO_le {σ : List Sg} {N N' fm fm' x : Nat} {L : List Tx} (h : key σ N' fm x = (fm', x)) : (txO fm' L x).leK N ((txO fm L x).rk σ N') True := by
  rw [mtO_rk h]
  unfold txO txG
  split
  · trivial
  · simp [txD, Ck.leK, sameB, eqL, C.eqK, sameK, ifB, kNat]
theorem winO_le {σ : List Sg} {N N' : Nat} {L : List Tx} {x : Nat} : (paO L x).leK N ((paO L x).rk σ N') True := by
  rw [winO_rk]
  unfold paO
  split
  · trivial
  · exact ⟨rfl, rfl, rfl, rfl, fun _ _ => rfl, trivial⟩

theorem xmC {p : Prop} (h : p := by first | exact fun _ => trivial | exact fun x => mtO_le rfl | exact fun x => winO_le | exact fun x => mtO_bel rfl | exact fun x => winO_bel | exact fun x => mtR_bel rfl rfl | exact fun x => winR_bel | fail) : p := h

theorem rH15qA0 {σ : List Sg} {H h' : List Fam} {v : T} {K : T → List Fam → Prop} {H' : List Fam} {v' : T} {N : Nat} (hk : K v' H') (hN : H.length = N := by (try simp only [↓List.length_cons, ↓List.length_nil, Nat.reduceAdd]) <;> rfl) (h : givesF σ N H σ h' = some H' := by (try simp (maxSteps := 1000000) only [givesF, setF, updF, Fam.zeroth, Fam.rk, Ck.rk, C.rk, E.rk, T.rk, key, List.map_cons, List.map_nil, List.cons_append, List.nil_append, List.length_cons, List.length_nil, Option.map_some, Option.bind_some, Nat.reduceAdd, Nat.zero_add, Nat.add_zero, Nat.add_sub_cancel_left, Int.toNat_natCast, reps, List.all_cons, List.all_nil, C.flat, List.append_eq, Bool.not_true, Bool.and_true, Bool.or_false, Bool.or_self, Bool.not_false, List.append_nil, Bool.and_self, encG]) <;> rfl) (hv : v.rk σ N = v' := by (try simp only [givesF, setF, updF, Fam.zeroth, Fam.rk, Ck.rk, C.rk, E.rk, T.rk, key, List.map_cons, List.map_nil, List.cons_append, List.nil_append, List.length_cons, List.length_nil, Option.map_some, Option.bind_some, Nat.reduceAdd, Nat.zero_add, Nat.add_zero, Nat.add_sub_cancel_left, Int.toNat_natCast, reps, List.all_cons, List.all_nil, C.flat, List.append_eq, Bool.not_true, Bool.and_true, Bool.or_false, Bool.or_self, Bool.not_false, List.append_nil, Bool.and_self, encG]) <;> rfl) : RetG σ H h' v K := ret_mk3 hN h hv hk
set_option maxRecDepth 10000 in
theorem cvalid (f : Fg) :
    Ctr Try.prog 35 [.a (encG f)] [] fun v h => v = .c (.b (decide (okF f))) ∧ h = [] := by
  have hz : (mkS f.d).size = f.d.length := rfl
  refine Ctr.mk' tbv mixed Try.func35 rfl rfl rfl (fun _ _ => by kernel_rfl) (by kernel_rfl) (by rfl) (by rfl) (by (repeat' first | refine And.intro ?_ ?_ | exact xeC | fail)) ?_
  repeat' (first | (fail_if_success (with_reducible refine xstp ?_)); first | ((with_reducible refine And.intro (fun (hb : _ = true) => ?_) (fun (hb : _ = false) => ?_)) <;> replace hb := xnC hb <;> (try first | exact xfC | exact bff hb (by assumption) | exact bff (by assumption) hb)) | (with_reducible refine Both.mk ?_ ?_) | ((with_reducible refine And.intro ?_ ?_); focus exact xoC) | ((with_reducible refine Or.inl ⟨?_, ?_, ?_⟩); (focus rfl); focus exact xaC) | ((with_reducible refine xwB ?_ ?_); focus exact xaC) | ((with_reducible refine xwC ?_ ?_); focus exact xaC) | ((with_reducible refine xwD ?_ ?_); focus exact xaC) | ((with_reducible refine xwE ?_ ?_); focus exact xaC) | (with_reducible intro hc; (try simp only [capsP, and_true] at hc); (try exact xfC)) | ((fail_if_success (with_reducible first | refine xgon ?_ | intro _)); (conv => whnf); (fail_if_success (fail_if_success (with_reducible first | refine xstp ?_ | refine Both.mk ?_ ?_ | refine xgon ?_ | intro _)))))
  refine xcal (σ := []) (nl := []) (cwithin (f.id) (0) (1099511627776)) ?_
  rintro v h' ⟨rfl, rfl⟩ hcaps
  refine rH15qA0 ?_
  repeat' (first | (fail_if_success (with_reducible refine xstp ?_)); first | ((with_reducible refine And.intro (fun (hb : _ = true) => ?_) (fun (hb : _ = false) => ?_)) <;> replace hb := xnC hb <;> (try first | exact xfC | exact bff hb (by assumption) | exact bff (by assumption) hb)) | (with_reducible refine Both.mk ?_ ?_) | ((with_reducible refine And.intro ?_ ?_); focus exact xoC) | ((with_reducible refine Or.inl ⟨?_, ?_, ?_⟩); (focus rfl); focus exact xaC) | ((with_reducible refine xwB ?_ ?_); focus exact xaC) | ((with_reducible refine xwC ?_ ?_); focus exact xaC) | ((with_reducible refine xwD ?_ ?_); focus exact xaC) | ((with_reducible refine xwE ?_ ?_); focus exact xaC) | (with_reducible intro hc; (try simp only [capsP, and_true] at hc); (try exact xfC)) | ((fail_if_success (with_reducible first | refine xgon ?_ | intro _)); (conv => whnf); (fail_if_success (fail_if_success (with_reducible first | refine xstp ?_ | refine Both.mk ?_ ?_ | refine xgon ?_ | intro _)))))
  all_goals first
    | (refine FinK.mk ⟨[], _, _, ⟨rfl, rfl⟩, ?_⟩; (repeat' first | refine And.intro ?_ ?_ | exact xeC | fail)
       all_goals (first | exact decide_eq_true (by unfold okF; omega) | exact decide_eq_false (by unfold okF; omega) | exact (decide_eq_true (by unfold okF; omega)).symm | exact (decide_eq_false (by unfold okF; omega)).symm | exact decide_eq_decide.2 (by unfold okF; omega))
       done)
    | skip
  refine xcal (σ := []) (nl := []) (cwithin (f.ct) (1) (64)) ?_
  rintro v h' ⟨rfl, rfl⟩ hcaps
  refine rH15qA0 ?_
  repeat' (first | (fail_if_success (with_reducible refine xstp ?_)); first | ((with_reducible refine And.intro (fun (hb : _ = true) => ?_) (fun (hb : _ = false) => ?_)) <;> replace hb := xnC hb <;> (try first | exact xfC | exact bff hb (by assumption) | exact bff (by assumption) hb)) | (with_reducible refine Both.mk ?_ ?_) | ((with_reducible refine And.intro ?_ ?_); focus exact xoC) | ((with_reducible refine Or.inl ⟨?_, ?_, ?_⟩); (focus rfl); focus exact xaC) | ((with_reducible refine xwB ?_ ?_); focus exact xaC) | ((with_reducible refine xwC ?_ ?_); focus exact xaC) | ((with_reducible refine xwD ?_ ?_); focus exact xaC) | ((with_reducible refine xwE ?_ ?_); focus exact xaC) | (with_reducible intro hc; (try simp only [capsP, and_true] at hc); (try exact xfC)) | ((fail_if_success (with_reducible first | refine xgon ?_ | intro _)); (conv => whnf); (fail_if_success (fail_if_success (with_reducible first | refine xstp ?_ | refine Both.mk ?_ ?_ | refine xgon ?_ | intro _)))))
  all_goals first
    | (refine FinK.mk ⟨[], _, _, ⟨rfl, rfl⟩, ?_⟩; (repeat' first | refine And.intro ?_ ?_ | exact xeC | fail)
       all_goals (first | exact decide_eq_true (by unfold okF; omega) | exact decide_eq_false (by unfold okF; omega) | exact (decide_eq_true (by unfold okF; omega)).symm | exact (decide_eq_false (by unfold okF; omega)).symm | exact decide_eq_decide.2 (by unfold okF; omega))
       done)
    | skip
  refine xcal (σ := []) (nl := []) (cwithin (f.ix) (0) (f.ct - 1)) ?_
  rintro v h' ⟨rfl, rfl⟩ hcaps
  refine rH15qA0 ?_
  repeat' (first | (fail_if_success (with_reducible refine xstp ?_)); first | ((with_reducible refine And.intro (fun (hb : _ = true) => ?_) (fun (hb : _ = false) => ?_)) <;> replace hb := xnC hb <;> (try first | exact xfC | exact bff hb (by assumption) | exact bff (by assumption) hb)) | (with_reducible refine Both.mk ?_ ?_) | ((with_reducible refine And.intro ?_ ?_); focus exact xoC) | ((with_reducible refine Or.inl ⟨?_, ?_, ?_⟩); (focus rfl); focus exact xaC) | ((with_reducible refine xwB ?_ ?_); focus exact xaC) | ((with_reducible refine xwC ?_ ?_); focus exact xaC) | ((with_reducible refine xwD ?_ ?_); focus exact xaC) | ((with_reducible refine xwE ?_ ?_); focus exact xaC) | (with_reducible intro hc; (try simp only [capsP, and_true] at hc); (try exact xfC)) | ((fail_if_success (with_reducible first | refine xgon ?_ | intro _)); (conv => whnf); (fail_if_success (fail_if_success (with_reducible first | refine xstp ?_ | refine Both.mk ?_ ?_ | refine xgon ?_ | intro _)))))
  all_goals first
    | (refine FinK.mk ⟨[], _, _, ⟨rfl, rfl⟩, ?_⟩; (repeat' first | refine And.intro ?_ ?_ | exact xeC | fail)
       all_goals (first | exact decide_eq_true (by unfold okF; omega) | exact decide_eq_false (by unfold okF; omega) | exact (decide_eq_true (by unfold okF; omega)).symm | exact (decide_eq_false (by unfold okF; omega)).symm | exact decide_eq_decide.2 (by unfold okF; omega))
       done)
    | skip

set_option maxRecDepth 10000 in
theorem cNewA (n : Int) :
    Ctr Try.prog 11 [.c (.i .i64 n)] [] fun v h => v = .c (.p 0 0 0) ∧ h = asmB (max 1 (min 256 n)) [] [] [] 0 0 := by
  refine Ctr.mk' tbv mixed Try.func11 rfl rfl rfl (fun _ _ => by kernel_rfl) (by kernel_rfl) (by rfl) (by rfl) (by (repeat' first | refine And.intro ?_ ?_ | exact xeC | fail)) ?_
  repeat' (first | (fail_if_success (with_reducible refine xstp ?_)); first | ((with_reducible refine And.intro (fun (hb : _ = true) => ?_) (fun (hb : _ = false) => ?_)) <;> replace hb := xnC hb <;> (try first | exact xfC | exact bff hb (by assumption) | exact bff (by assumption) hb)) | (with_reducible refine Both.mk ?_ ?_) | ((with_reducible refine And.intro ?_ ?_); focus exact xoC) | ((with_reducible refine Or.inl ⟨?_, ?_, ?_⟩); (focus rfl); focus exact xaC) | ((with_reducible refine xwB ?_ ?_); focus exact xaC) | ((with_reducible refine xwC ?_ ?_); focus exact xaC) | ((with_reducible refine xwD ?_ ?_); focus exact xaC) | ((with_reducible refine xwE ?_ ?_); focus exact xaC) | (with_reducible intro hc; (try simp only [capsP, and_true] at hc); (try exact xfC)) | ((fail_if_success (with_reducible first | refine xgon ?_ | intro _)); (conv => whnf); (fail_if_success (fail_if_success (with_reducible first | refine xstp ?_ | refine Both.mk ?_ ?_ | refine xgon ?_ | intro _)))))
  refine FinK.mk ⟨[0, 99, 98, 97, 96], _, _, ⟨rfl, rfl⟩, ?_⟩
  (repeat' first | refine And.intro ?_ ?_ | exact xeC | fail)
  all_goals first | exact fun _ => rfl | exact fun _ => trivial | (exact xmC)

set_option maxRecDepth 10000 in
theorem cOpenA (mo : Int) (J : List Nat) (L : List Tx) (dn : List (Int × Int)) (c cd : Nat) :
    Ctr Try.prog 15 [.c (.p 0 0 0)] [.one (asm mo 1 2 J.length L.length c dn.length cd), .one .no, .one .no] fun v h => v = .c (.i .i64 L.length) ∧ h = [.one (asm mo 1 2 J.length L.length c dn.length cd), .one .no, .one .no] := by
  refine Ctr.mk' tbv mixed Try.func15 rfl rfl rfl (fun _ _ => by kernel_rfl) (by kernel_rfl) (by rfl) (by rfl) (by (repeat' first | refine And.intro ?_ ?_ | exact xeC | fail)) ?_
  repeat' (first | (fail_if_success (with_reducible refine xstp ?_)); first | ((with_reducible refine And.intro (fun (hb : _ = true) => ?_) (fun (hb : _ = false) => ?_)) <;> replace hb := xnC hb <;> (try first | exact xfC | exact bff hb (by assumption) | exact bff (by assumption) hb)) | (with_reducible refine Both.mk ?_ ?_) | ((with_reducible refine And.intro ?_ ?_); focus exact xoC) | ((with_reducible refine Or.inl ⟨?_, ?_, ?_⟩); (focus rfl); focus exact xaC) | ((with_reducible refine xwB ?_ ?_); focus exact xaC) | ((with_reducible refine xwC ?_ ?_); focus exact xaC) | ((with_reducible refine xwD ?_ ?_); focus exact xaC) | ((with_reducible refine xwE ?_ ?_); focus exact xaC) | (with_reducible intro hc; (try simp only [capsP, and_true] at hc); (try exact xfC)) | ((fail_if_success (with_reducible first | refine xgon ?_ | intro _)); (conv => whnf); (fail_if_success (fail_if_success (with_reducible first | refine xstp ?_ | refine Both.mk ?_ ?_ | refine xgon ?_ | intro _)))))
  refine FinK.mk ⟨[0, 1, 2], _, _, ⟨rfl, rfl⟩, ?_⟩; (repeat' first | refine And.intro ?_ ?_ | exact xeC | fail)

set_option maxRecDepth 10000 in
theorem ccompleted (mo : Int) (n nn c : Nat) (dn : List (Int × Int)) (cd : Nat) (p : Int × Int) (hdn : dn.length ≤ 1000000) :
    Ctr Try.prog 37 [.c (.p 0 0 0), .a (encK p)] [.one (asm mo 1 2 n nn c dn.length cd), .one .no, .one (donR dn cd)] fun v h => v = .c (.b (decide (p ∈ dn))) ∧ h = [.one (asm mo 1 2 n nn c dn.length cd), .one .no, .one (donR dn cd)] := by
  refine Ctr.mk' tbv mixed Try.func37 rfl rfl rfl (fun _ _ => by kernel_rfl) (by kernel_rfl) (by rfl) (by rfl) (by (repeat' first | refine And.intro ?_ ?_ | exact xeC | fail)) ?_
  repeat' (first | (fail_if_success (with_reducible refine xstp ?_)); first | ((with_reducible refine And.intro (fun (hb : _ = true) => ?_) (fun (hb : _ = false) => ?_)) <;> replace hb := xnC hb <;> (try first | exact xfC | exact bff hb (by assumption) | exact bff (by assumption) hb)) | (with_reducible refine Both.mk ?_ ?_) | ((with_reducible refine And.intro ?_ ?_); focus exact xoC) | ((with_reducible refine Or.inl ⟨?_, ?_, ?_⟩); (focus rfl); focus exact xaC) | ((with_reducible refine xwB ?_ ?_); focus exact xaC) | ((with_reducible refine xwC ?_ ?_); focus exact xaC) | ((with_reducible refine xwD ?_ ?_); focus exact xaC) | ((with_reducible refine xwE ?_ ?_); focus exact xaC) | (with_reducible intro hc; (try simp only [capsP, and_true] at hc); (try exact xfC)) | ((fail_if_success (with_reducible first | refine xgon ?_ | intro _)); (conv => whnf); (fail_if_success (fail_if_success (with_reducible first | refine xstp ?_ | refine Both.mk ?_ ?_ | refine xgon ?_ | intro _)))))
  refine LoopK.mk' {i : Nat // i ≤ dn.length ∧ p ∉ dn.take i}
    (fun ⟨i, _⟩ => ⟨[(3, .c (.pe 3 0 1 0 0)), (10, .c (.sl 2 0 2 0 dn.length cd)), (11, .c (.i .i64 (dn.length : Nat))), (12, .c (.i .i64 (i : Nat)))], [.one (asm mo 1 2 n nn c dn.length cd), .one .no, .one (donR dn cd), .one (keyR p)]⟩) (fun k => dn.length - k.1)
    ⟨⟨0, Nat.zero_le _, by simp⟩, [0, 1, 2, 3], ?_⟩ ?_
  · (repeat' first | refine And.intro ?_ ?_ | exact xeC | fail)
  rintro ⟨i, hi, hno⟩
  repeat' (first | (fail_if_success (with_reducible refine xstp ?_)); first | ((with_reducible refine And.intro (fun (hb : _ = true) => ?_) (fun (hb : _ = false) => ?_)) <;> replace hb := xnC hb <;> (try first | exact xfC | exact bff hb (by assumption) | exact bff (by assumption) hb)) | (with_reducible refine Both.mk ?_ ?_) | ((with_reducible refine And.intro ?_ ?_); focus exact xoC) | ((with_reducible refine Or.inl ⟨?_, ?_, ?_⟩); (focus rfl); focus exact xaC) | ((with_reducible refine xwB ?_ ?_); focus exact xaC) | ((with_reducible refine xwC ?_ ?_); focus exact xaC) | ((with_reducible refine xwD ?_ ?_); focus exact xaC) | ((with_reducible refine xwE ?_ ?_); focus exact xaC) | (with_reducible intro hc; (try simp only [capsP, and_true] at hc); (try exact xfC)) | ((fail_if_success (with_reducible first | refine xgon ?_ | intro _)); (conv => whnf); (fail_if_success (fail_if_success (with_reducible first | refine xstp ?_ | refine Both.mk ?_ ?_ | refine xgon ?_ | intro _)))))
  · have e : dn.getD i default = p := Prod.ext hb.1 hb.2
    rw [show decide (p ∈ dn) = true from decide_eq_true (by rw [← e, getD_at (by omega)]; exact List.getElem_mem _)]
    refine FinK.mk ⟨[0, 1, 2], _, _, ⟨rfl, rfl⟩, ?_⟩; (repeat' first | refine And.intro ?_ ?_ | exact xeC | fail)
  · refine ⟨⟨i + 1, by omega, fun hm => ?_⟩, [0, 1, 2, 3], by simp only; omega, ?_⟩
    · rw [take_snocG dn (by omega), List.mem_append] at hm
      rcases hm with hm | hm
      · exact hno hm
      · rw [← List.mem_singleton.1 hm] at hb
        rcases hb with hb | hb <;> exact hb rfl
    · (repeat' first | refine And.intro ?_ ?_ | exact xeC | fail)
  · rw [List.take_of_length_le (by omega)] at hno
    rw [show decide (p ∈ dn) = false from decide_eq_false hno]
    refine FinK.mk ⟨[0, 1, 2], _, _, ⟨rfl, rfl⟩, ?_⟩; (repeat' first | refine And.intro ?_ ?_ | exact xeC | fail)

/-- Where a key is. -/
def fnd (L : List Tx) (p : Int × Int) : Option Nat := L.findIdx? fun t => decide (t.fr = p.1 ∧ t.i = p.2)
def resF (L : List Tx) (p : Int × Int) : T := match fnd L p with | none => .t [.c (.i .i64 (-1)), .c .nilp] | some k => .t [.c (.i .i64 (k : Nat)), .c (.p 3 (L.getD k default).id 0)]
theorem resF_some {L : List Tx} {p : Int × Int} {k : Nat} (h : fnd L p = some k) : resF L p = .t [.c (.i .i64 (k : Nat)), .c (.p 3 (L.getD k default).id 0)] := by unfold resF; rw [h]
theorem resF_none {L : List Tx} {p : Int × Int} (h : fnd L p = none) : resF L p = .t [.c (.i .i64 (-1)), .c .nilp] := by unfold resF; rw [h]

set_option maxRecDepth 10000 in
theorem cfind (mo : Int) (J : List Nat) (L : List Tx) (dn : List (Int × Int)) (c cd : Nat) (p : Int × Int) (hL : L.length ≤ 1000000) (hid : ∀ i, i < L.length → L.find? (fun t => t.id == (L.getD i default).id) = some (L.getD i default)) :
    Ctr Try.prog 36 [.c (.p 0 0 0), .a (encK p)] [.one (asm mo 1 2 J.length L.length c dn.length cd), .one (opnR 3 (J ++ idsOf L) (J.length + c)), .one .no, .many (txO 4 L), .one .no]
     fun v h => v = resF L p ∧ h = [.one (asm mo 1 2 J.length L.length c dn.length cd), .one (opnR 3 (J ++ idsOf L) (J.length + c)), .one .no, .many (txO 4 L), .one .no] := by
  refine Ctr.mk' tbv mixed Try.func36 rfl rfl rfl (fun _ _ => by kernel_rfl) (by kernel_rfl) (by rfl) (by rfl) (by (repeat' first | refine And.intro ?_ ?_ | exact xeC | fail) <;> (exact xmC)) ?_
  repeat' (first | (fail_if_success (with_reducible refine xstp ?_)); first | ((with_reducible refine And.intro (fun (hb : _ = true) => ?_) (fun (hb : _ = false) => ?_)) <;> replace hb := xnC hb <;> (try first | exact xfC | exact bff hb (by assumption) | exact bff (by assumption) hb)) | (with_reducible refine Both.mk ?_ ?_) | ((with_reducible refine And.intro ?_ ?_); focus exact xoC) | ((with_reducible refine Or.inl ⟨?_, ?_, ?_⟩); (focus rfl); focus exact xaC) | ((with_reducible refine xwB ?_ ?_); focus exact xaC) | ((with_reducible refine xwC ?_ ?_); focus exact xaC) | ((with_reducible refine xwD ?_ ?_); focus exact xaC) | ((with_reducible refine xwE ?_ ?_); focus exact xaC) | (with_reducible intro hc; (try simp only [capsP, and_true] at hc); (try exact xfC)) | ((fail_if_success (with_reducible first | refine xgon ?_ | intro _)); (conv => whnf); (fail_if_success (fail_if_success (with_reducible first | refine xstp ?_ | refine Both.mk ?_ ?_ | refine xgon ?_ | intro _)))))
  refine LoopK.mk' {i : Nat // i ≤ L.length ∧ ∀ j, j < i → ¬ ((L.getD j default).fr = p.1 ∧ (L.getD j default).i = p.2)}
    (fun ⟨i, _⟩ => ⟨[(3, .c (.pe 5 0 1 0 0)), (11, .c (.sl 1 0 1 J.length L.length c)), (12, .c (.i .i64 (L.length : Nat))), (13, .c (.i .i64 (i : Nat)))], [.one (asm mo 1 2 J.length L.length c dn.length cd), .one (opnR 3 (J ++ idsOf L) (J.length + c)), .one .no, .many (txO 4 L), .one .no, .one (keyR p)]⟩) (fun k => L.length - k.1)
    ⟨⟨0, Nat.zero_le _, by intro j h; omega⟩, [0, 1, 2, 3, 4, 5], ?_⟩ ?_
  · (repeat' first | refine And.intro ?_ ?_ | exact xeC | fail)
    all_goals (exact xmC)
  rintro ⟨i, hi, hno⟩
  have hJL : (J ++ idsOf L).length = J.length + L.length := by simp [idsOf]
  have hgx : i < L.length → (J ++ idsOf L).getD (J.length + (i : Int).toNat) default = (L.getD i default).id := by
    intro h
    simp [List.getD, List.getElem?_append_right, idsOf, List.getElem?_eq_getElem h]
  repeat' (first | (fail_if_success (with_reducible refine xstp ?_)); first | ((with_reducible refine And.intro (fun (hb : _ = true) => ?_) (fun (hb : _ = false) => ?_)) <;> replace hb := xnC hb <;> (try first | exact xfC | exact bff hb (by assumption) | exact bff (by assumption) hb)) | (with_reducible refine Both.mk ?_ ?_) | ((with_reducible refine And.intro ?_ ?_); focus exact xoC) | ((with_reducible refine Or.inl ⟨?_, ?_, ?_⟩); (focus rfl); focus exact xaC) | ((with_reducible refine xwB ?_ ?_); focus exact xaC) | ((with_reducible refine xwC ?_ ?_); focus exact xaC) | ((with_reducible refine xwD ?_ ?_); focus exact xaC) | ((with_reducible refine xwE ?_ ?_); focus exact xaC) | (with_reducible intro hc; (try simp only [capsP, and_true] at hc); (try exact xfC)) | ((fail_if_success (with_reducible first | refine xgon ?_ | intro _)); (conv => whnf); (fail_if_success (fail_if_success (with_reducible first | refine xstp ?_ | refine Both.mk ?_ ?_ | refine xgon ?_ | intro _)))))
  · rw [hgx (by omega)]
    have hx := hid i (by omega)
    refine ManyK.mk ⟨txD 4 (L.getD i default).id (L.getD i default), by unfold txO txG; rw [hx], ?_⟩
    repeat' (first | (fail_if_success (with_reducible refine xstp ?_)); first | ((with_reducible refine And.intro (fun (hb : _ = true) => ?_) (fun (hb : _ = false) => ?_)) <;> replace hb := xnC hb <;> (try first | exact xfC | exact bff hb (by assumption) | exact bff (by assumption) hb)) | (with_reducible refine Both.mk ?_ ?_) | ((with_reducible refine And.intro ?_ ?_); focus exact xoC) | ((with_reducible refine Or.inl ⟨?_, ?_, ?_⟩); (focus rfl); focus exact xaC) | ((with_reducible refine xwB ?_ ?_); focus exact xaC) | ((with_reducible refine xwC ?_ ?_); focus exact xaC) | ((with_reducible refine xwD ?_ ?_); focus exact xaC) | ((with_reducible refine xwE ?_ ?_); focus exact xaC) | (with_reducible intro hc; (try simp only [capsP, and_true] at hc); (try exact xfC)) | ((fail_if_success (with_reducible first | refine xgon ?_ | intro _)); (conv => whnf); (fail_if_success (fail_if_success (with_reducible first | refine xstp ?_ | refine Both.mk ?_ ?_ | refine xgon ?_ | intro _)))))
    · have hf : fnd L p = some i := by
        unfold fnd
        rw [List.findIdx?_eq_some_iff_getElem]
        refine ⟨by omega, ?_, fun j hj => ?_⟩
        · rw [← getD_at (by omega)]
          simp only [decide_eq_true_eq]
          exact hb
        · rw [← getD_at (by omega)]
          have := hno j hj
          simpa using this
      rw [resF_some hf]
      refine FinK.mk ⟨[0, 1, 2, 3, 4], _, _, ⟨rfl, rfl⟩, ?_⟩; (repeat' first | refine And.intro ?_ ?_ | exact xeC | fail)
      all_goals (exact xmC)
    · refine ⟨⟨i + 1, by omega, fun j hj => ?_⟩, [0, 1, 2, 3, 4, 5], by simp only; omega, ?_⟩
      · rcases (by omega : j < i ∨ j = i) with h | rfl
        · exact hno j h
        · rcases hb with hb | hb
          · exact fun h => hb h.1
          · exact fun h => hb h.2
      · (repeat' first | refine And.intro ?_ ?_ | exact xeC | fail)
        all_goals (exact xmC)
  · have hf : fnd L p = none := by
      unfold fnd
      rw [List.findIdx?_eq_none_iff_findIdx_eq]
      apply List.findIdx_eq_length.2
      intro t ht
      obtain ⟨j, hj, rfl⟩ := List.mem_iff_getElem.1 ht
      exact decide_eq_false (by rw [← getD_at hj]; exact hno j (by omega))
    rw [resF_none hf]
    refine FinK.mk ⟨[0, 1, 2, 3, 4], _, _, ⟨rfl, rfl⟩, ?_⟩; (repeat' first | refine And.intro ?_ ?_ | exact xeC | fail)
    all_goals (exact xmC)
end Go.Proofs.Ytgaodeffbgppmaa

namespace Go.Proofs.Ytgaodeffbgppmaa
open Go.X
set_option linter.unusedSimpArgs false
set_option linter.unusedVariables false
def cntD (dn : List (Int × Int)) (f : Int) : Nat := dn.countP fun q => decide (q.1 = f)
/-- What is remembered: the first of the sender's goes if there are 64. -/
def remD (dn : List (Int × Int)) (p : Int × Int) : List (Int × Int) := (if 64 ≤ cntD dn p.1 then dn.eraseP fun q => decide (q.1 = p.1) else dn) ++ [p]
theorem cntD_snoc (dn : List (Int × Int)) (f : Int) {i : Nat} (h : i < dn.length) : cntD (dn.take (i + 1)) f = cntD (dn.take i) f + (if (dn.getD i default).1 = f then 1 else 0) := by
  unfold cntD
  rw [take_snocG dn h, List.countP_append]
  simp [List.countP_cons]
theorem cntD_le (dn : List (Int × Int)) (f : Int) : cntD dn f ≤ dn.length := List.countP_le_length

theorem eraseP_at {dn : List (Int × Int)} {f : Int} {i : Nat} (hi : i < dn.length) (h1 : (dn.getD i default).1 = f) (h2 : ∀ j, j < i → (dn.getD j default).1 ≠ f) : dn.eraseP (fun q => decide (q.1 = f)) = dn.take i ++ dn.drop (i + 1) := by
  have e : dn = dn.take i ++ (dn.getD i default :: dn.drop (i + 1)) := by rw [← drop_consG dn hi, List.take_append_drop]
  have hn : ∀ b ∈ dn.take i, ¬ (decide (b.1 = f)) = true := by
    intro b hb
    obtain ⟨j, hj, rfl⟩ := List.mem_iff_getElem.1 hb
    rw [List.length_take] at hj
    have := h2 j (by omega)
    rw [getD_at (by omega)] at this
    simpa using this
  conv => lhs; rw [e]
  rw [List.eraseP_append_right _ hn, List.eraseP_cons_of_pos (by simpa using h1)]

theorem cut_row {α : Type} [Inhabited α] (enc : α → List C) (l : List α) (k : Nat) (hk : k < l.length) (i : Nat) (hi : i < k + (l.length - (k + 1))) :
    appF k (rowOf enc l) (k + 1) (rowOf enc l) i = rowOf enc (l.take k ++ l.drop (k + 1)) i := by
  unfold appF rowOf
  by_cases h : i < k
  · rw [if_pos h]
    simp only [List.getD]
    rw [List.getElem?_append_left (by rw [List.length_take]; omega), List.getElem?_take_of_lt h]
  · rw [if_neg h]
    simp only [List.getD]
    rw [List.getElem?_append_right (by rw [List.length_take]; omega), List.getElem?_drop, List.length_take, Nat.min_eq_left (by omega)]
theorem remD_at {dn : List (Int × Int)} {p : Int × Int} {j : Nat} (hj : j < dn.length) (h : 64 ≤ cntD dn p.1) (h1 : (dn.getD j default).1 = p.1) (h2 : ∀ q, q < j → ¬ (64 ≤ cntD dn p.1 ∧ (dn.getD q default).1 = p.1)) : remD dn p = (dn.take j ++ dn.drop (j + 1)) ++ [p] := by
  unfold remD
  rw [if_pos h, eraseP_at hj h1 (fun q hq e => h2 q hq ⟨h, e⟩)]
theorem remD_no {dn : List (Int × Int)} {p : Int × Int} (h2 : ∀ q, q < dn.length → ¬ (64 ≤ cntD dn p.1 ∧ (dn.getD q default).1 = p.1)) : remD dn p = dn ++ [p] := by
  unfold remD
  by_cases h : 64 ≤ cntD dn p.1
  · exfalso
    have hp : 0 < cntD dn p.1 := by omega
    unfold cntD at hp
    obtain ⟨q, hq, he⟩ := List.countP_pos_iff.1 hp
    obtain ⟨j, hj, rfl⟩ := List.mem_iff_getElem.1 hq
    refine h2 j hj ⟨h, ?_⟩
    rw [getD_at hj]
    simpa using he
  · rw [if_neg h]

set_option maxRecDepth 10000 in
set_option maxHeartbeats 1000000 in
theorem cremember (mo : Int) (n nn c : Nat) (dn : List (Int × Int)) (cd : Nat) (p : Int × Int) (hdn : dn.length ≤ 1000000) :
    Ctr Try.prog 38 [.c (.p 0 0 0), .a (encK p)] [.one (asm mo 1 2 n nn c dn.length cd), .one .no, .one (donR dn cd)]
      fun v h => ∃ c', v = .t [] ∧ h = [.one (asm mo 1 3 n nn c (remD dn p).length c'), .one .no, .one .no, .one (donR (remD dn p) c')] := by
  refine Ctr.mk' tbv mixed Try.func38 rfl rfl rfl (fun _ _ => by kernel_rfl) (by kernel_rfl) (by rfl) (by rfl) (by (repeat' first | refine And.intro ?_ ?_ | exact xeC | fail)) ?_
  repeat' (first | (fail_if_success (with_reducible refine xstp ?_)); first | ((with_reducible refine And.intro (fun (hb : _ = true) => ?_) (fun (hb : _ = false) => ?_)) <;> replace hb := xnC hb <;> (try first | exact xfC | exact bff hb (by assumption) | exact bff (by assumption) hb)) | (with_reducible refine Both.mk ?_ ?_) | ((with_reducible refine And.intro ?_ ?_); focus exact xoC) | ((with_reducible refine Or.inl ⟨?_, ?_, ?_⟩); (focus rfl); focus exact xaC) | ((with_reducible refine xwB ?_ ?_); focus exact xaC) | ((with_reducible refine xwC ?_ ?_); focus exact xaC) | ((with_reducible refine xwD ?_ ?_); focus exact xaC) | ((with_reducible refine xwE ?_ ?_); focus exact xaC) | (with_reducible intro hc; (try simp only [capsP, and_true] at hc); (try exact xfC)) | ((fail_if_success (with_reducible first | refine xgon ?_ | intro _)); (conv => whnf); (fail_if_success (fail_if_success (with_reducible first | refine xstp ?_ | refine Both.mk ?_ ?_ | refine xgon ?_ | intro _)))))
  refine LoopK.mk' {i : Nat // i ≤ dn.length}
    (fun ⟨i, _⟩ => ⟨[(0, .c (.p 0 0 0)), (3, .c (.pe 3 0 1 0 0)), (4, .c (.i .i64 (cntD (dn.take i) p.1 : Nat))), (12, .c (.sl 2 0 2 0 dn.length cd)), (13, .c (.i .i64 (dn.length : Nat))), (14, .c (.i .i64 (i : Nat)))], [.one (asm mo 1 2 n nn c dn.length cd), .one .no, .one (donR dn cd), .one (keyR p)]⟩) (fun k => dn.length - k.1)
    ⟨⟨0, Nat.zero_le _⟩, [0, 1, 2, 3], ?_⟩ ?_
  · (repeat' first | refine And.intro ?_ ?_ | exact xeC | fail)
  rintro ⟨i, hi⟩
  have hc1 := cntD_le (dn.take i) p.1
  rw [List.length_take] at hc1
  repeat' (first | (fail_if_success (with_reducible refine xstp ?_)); first | ((with_reducible refine And.intro (fun (hb : _ = true) => ?_) (fun (hb : _ = false) => ?_)) <;> replace hb := xnC hb <;> (try first | exact xfC | exact bff hb (by assumption) | exact bff (by assumption) hb)) | (with_reducible refine Both.mk ?_ ?_) | ((with_reducible refine And.intro ?_ ?_); focus exact xoC) | ((with_reducible refine Or.inl ⟨?_, ?_, ?_⟩); (focus rfl); focus exact xaC) | ((with_reducible refine xwB ?_ ?_); focus exact xaC) | ((with_reducible refine xwC ?_ ?_); focus exact xaC) | ((with_reducible refine xwD ?_ ?_); focus exact xaC) | ((with_reducible refine xwE ?_ ?_); focus exact xaC) | (with_reducible intro hc; (try simp only [capsP, and_true] at hc); (try exact xfC)) | ((fail_if_success (with_reducible first | refine xgon ?_ | intro _)); (conv => whnf); (fail_if_success (fail_if_success (with_reducible first | refine xstp ?_ | refine Both.mk ?_ ?_ | refine xgon ?_ | intro _)))))
  · refine ⟨⟨i + 1, by omega⟩, [0, 1, 2, 3], by simp only; omega, ?_⟩
    have := cntD_snoc dn p.1 (i := i) (by omega)
    rw [if_pos hb] at this
    (repeat' first | refine And.intro ?_ ?_ | exact xeC | fail)
    omega
  · refine ⟨⟨i + 1, by omega⟩, [0, 1, 2, 3], by simp only; omega, ?_⟩
    have := cntD_snoc dn p.1 (i := i) (by omega)
    rw [if_neg hb] at this
    (repeat' first | refine And.intro ?_ ?_ | exact xeC | fail)
    omega
  refine LoopK.mk' {j : Nat // j ≤ dn.length ∧ ∀ q, q < j → ¬ (64 ≤ cntD dn p.1 ∧ (dn.getD q default).1 = p.1)}
    (fun ⟨j, _⟩ => ⟨[(0, .c (.p 0 0 0)), (3, .c (.pe 3 0 1 0 0)), (4, .c (.i .i64 (cntD dn p.1 : Nat))), (29, .c (.sl 2 0 2 0 dn.length cd)), (30, .c (.i .i64 (dn.length : Nat))), (31, .c (.i .i64 (j : Nat)))], [.one (asm mo 1 2 n nn c dn.length cd), .one .no, .one (donR dn cd), .one (keyR p)]⟩) (fun k => dn.length - k.1)
    ⟨⟨0, Nat.zero_le _, by intro q h; omega⟩, [0, 1, 2, 3], ?_⟩ ?_
  · (repeat' first | refine And.intro ?_ ?_ | exact xeC | fail)
    rw [List.take_of_length_le (by omega)]
  rintro ⟨j, hj, hno⟩
  repeat' (first | (fail_if_success (with_reducible refine xstp ?_)); first | ((with_reducible refine And.intro (fun (hb : _ = true) => ?_) (fun (hb : _ = false) => ?_)) <;> replace hb := xnC hb <;> (try first | exact xfC | exact bff hb (by assumption) | exact bff (by assumption) hb)) | (with_reducible refine Both.mk ?_ ?_) | ((with_reducible refine And.intro ?_ ?_); focus exact xoC) | ((with_reducible refine Or.inl ⟨?_, ?_, ?_⟩); (focus rfl); focus exact xaC) | ((with_reducible refine xwB ?_ ?_); focus exact xaC) | ((with_reducible refine xwC ?_ ?_); focus exact xaC) | ((with_reducible refine xwD ?_ ?_); focus exact xaC) | ((with_reducible refine xwE ?_ ?_); focus exact xaC) | (with_reducible intro hc; (try simp only [capsP, and_true] at hc); (try exact xfC)) | ((fail_if_success (with_reducible first | refine xgon ?_ | intro _)); (conv => whnf); (fail_if_success (fail_if_success (with_reducible first | refine xstp ?_ | refine Both.mk ?_ ?_ | refine xgon ?_ | intro _)))))
  · rename_i c2
    have hjl : j < dn.length := by omega
    have hr := remD_at (p := p) hjl (by omega) hb hno
    have hlen : (remD dn p).length = j + (dn.length - (j + 1)) + 1 := by
      rw [hr]; simp only [List.length_append, List.length_take, List.length_drop, List.length_singleton]; omega
    refine FinK.mk ⟨[0, 1, 2, 7], _, _, ⟨c2, rfl, rfl⟩, ?_⟩
    (repeat' first | refine And.intro ?_ ?_ | exact xeC | fail)
    · simp only [Int.toNat_natCast]; omega
    · simp only [Int.toNat_natCast]; omega
    · intro i hi
      have e1 : ((j : Int) + 1).toNat = j + 1 := by omega
      rw [hlen] at hi
      simp only [Int.toNat_natCast, e1]
      have hm : (dn.take j ++ dn.drop (j + 1)).length = j + (dn.length - (j + 1)) := by
        simp only [List.length_append, List.length_take, List.length_drop]; omega
      have := app_rowG encK (dn.take j ++ dn.drop (j + 1)) p (chunkOf 2 (encK p)) rfl i (by rw [List.length_append, hm]; simpa using hi)
      rw [hr, ← this, hm]
      unfold appF
      by_cases hlt : i < j + (dn.length - (j + 1))
      · rw [if_pos hlt, if_pos hlt]
        have hcr := cut_row encK dn j hjl i hlt
        unfold appF at hcr
        by_cases h0 : i < j
        · rw [if_pos h0] at hcr ⊢; exact hcr
        · rw [if_neg h0] at hcr ⊢
          rw [← hcr]
          split
          · exfalso; omega
          · congr 1; omega
      · rw [if_neg hlt, if_neg hlt]
        rfl
  · refine ⟨⟨j + 1, by omega, fun q hq => ?_⟩, [0, 1, 2, 3], by simp only; omega, ?_⟩
    · rcases (by omega : q < j ∨ q = j) with h | rfl
      · exact hno q h
      · exact fun h => hb h.2
    · (repeat' first | refine And.intro ?_ ?_ | exact xeC | fail)
  · refine ⟨⟨j + 1, by omega, fun q hq => ?_⟩, [0, 1, 2, 3], by simp only; omega, ?_⟩
    · rcases (by omega : q < j ∨ q = j) with h | rfl
      · exact hno q h
      · exact fun h => by have := h.1; omega
    · (repeat' first | refine And.intro ?_ ?_ | exact xeC | fail)
  · rename_i c2
    have hr := remD_no (p := p) (fun q hq => hno q (by omega))
    have hlen : (remD dn p).length = dn.length + 1 := by rw [hr]; simp
    refine FinK.mk ⟨[0, 1, 2, 5], _, _, ⟨c2, rfl, rfl⟩, ?_⟩
    (repeat' first | refine And.intro ?_ ?_ | exact xeC | fail)
    · omega
    · omega
    · intro i hi
      rw [hlen] at hi
      rw [hr]
      exact app_rowG encK dn p _ rfl i (by simpa using hi)
end Go.Proofs.Ytgaodeffbgppmaa

namespace Go.Proofs.Ytgaodeffbgppmaa
open Go.X
set_option linter.unusedSimpArgs false
set_option linter.unusedVariables false
def pget (M : List (Nat × Int × List UInt8)) (ix : Int) : Option (List UInt8) := (M.find? fun e => e.2.1 == ix).map fun e => e.2.2
def outS (ct : Int) (M : List (Nat × Int × List UInt8)) (n : Nat) : List UInt8 := (List.range n).flatMap fun i => (pget M (i : Nat)).getD []
def insT (t : Tx) (f : Fg) : Tx := ⟨t.id, t.fr, t.i, t.ct, t.M ++ [(t.ck, f.ix, f.d)], t.ck + 1⟩
def newT (N : Nat) (fr : Int) (f : Fg) : Tx := ⟨N, fr, f.id, f.ct, [(0, f.ix, f.d)], 1⟩
abbrev AR := List Tx × List (Int × Int) × List UInt8 × Bool × Nat
def cutL (L : List Tx) (k : Nat) : List Tx := L.take k ++ L.drop (k + 1)
def addA (mo : Int) (N : Nat) (L : List Tx) (dn : List (Int × Int)) (fr : Int) (f : Fg) : AR :=
  if ¬ ((0 ≤ fr ∧ fr ≤ 7) ∧ okF f) then (L, dn, [], false, 4)
  else match fnd L (fr, f.id) with
  | some k =>
    if (L.getD k default).ct ≠ f.ct then (L, dn, [], false, 2)
    else match pget (L.getD k default).M f.ix with
    | some d => if d ≠ f.d then (L, dn, [], false, 2) else (L, dn, [], false, 0)
    | none =>
      if ((L.getD k default).M.length : Int) + 1 < f.ct then (L.set k (insT (L.getD k default) f), dn, [], false, 0)
      else (cutL L k, remD dn (fr, f.id), outS f.ct (insT (L.getD k default) f).M f.ct.toNat, true, 0)
  | none =>
    if (fr, f.id) ∈ dn then (L, dn, [], false, 0)
    else if 1 < f.ct then ((if mo < L.length + 1 then L.drop 1 else L) ++ [newT N fr f], dn, [], false, 0)
    else (L, remD dn (fr, f.id), f.d, true, 0)
theorem addA_some {mo : Int} {N : Nat} {L : List Tx} {dn : List (Int × Int)} {fr : Int} {f : Fg} {k : Nat} (h : (0 ≤ fr ∧ fr ≤ 7) ∧ okF f) (hf : fnd L (fr, f.id) = some k) : addA mo N L dn fr f =
    if (L.getD k default).ct ≠ f.ct then (L, dn, [], false, 2)
    else match pget (L.getD k default).M f.ix with
    | some d => if d ≠ f.d then (L, dn, [], false, 2) else (L, dn, [], false, 0)
    | none =>
      if ((L.getD k default).M.length : Int) + 1 < f.ct then (L.set k (insT (L.getD k default) f), dn, [], false, 0)
      else (cutL L k, remD dn (fr, f.id), outS f.ct (insT (L.getD k default) f).M f.ct.toNat, true, 0) := by
  unfold addA
  rw [if_neg (fun h' => h' h), hf]
theorem addA_none {mo : Int} {N : Nat} {L : List Tx} {dn : List (Int × Int)} {fr : Int} {f : Fg} (h : (0 ≤ fr ∧ fr ≤ 7) ∧ okF f) (hf : fnd L (fr, f.id) = none) : addA mo N L dn fr f =
    if (fr, f.id) ∈ dn then (L, dn, [], false, 0)
    else if 1 < f.ct then ((if mo < L.length + 1 then L.drop 1 else L) ++ [newT N fr f], dn, [], false, 0)
    else (L, remD dn (fr, f.id), f.d, true, 0) := by
  unfold addA
  rw [if_neg (fun h' => h' h), hf]
theorem fnd_lt {L : List Tx} {p : Int × Int} {k : Nat} (h : fnd L p = some k) : k < L.length := by
  unfold fnd at h
  rw [List.findIdx?_eq_some_iff_getElem] at h
  exact h.1
theorem pget_at {M : List (Nat × Int × List UInt8)} {ix : Int} {i : Nat} (hd : ∀ a b, a < b → b < M.length → (M.getD a default).2.1 ≠ (M.getD b default).2.1) (hi : i < M.length) (hk : (M.getD i default).2.1 = ix) : pget M ix = some (M.getD i default).2.2 := by
  unfold pget
  have h : M.find? (fun e => e.2.1 == ix) = some (M.getD i default) := by
    rw [List.find?_eq_some_iff_getElem]
    refine ⟨by simpa using hk, i, hi, (getD_at hi).symm, fun j hj => ?_⟩
    have := hd j i hj hi
    rw [getD_at (by omega), hk] at this
    simpa using this
  rw [h]
  rfl
theorem pget_no {M : List (Nat × Int × List UInt8)} {ix : Int} (h : ∀ i, i < M.length → (M.getD i default).2.1 ≠ ix) : pget M ix = none := by
  unfold pget
  rw [List.find?_eq_none.2 ?_]
  · rfl
  · intro e he
    obtain ⟨i, hi, rfl⟩ := List.mem_iff_getElem.1 he
    have := h i hi
    rw [getD_at hi] at this
    simpa using this
theorem find_nd : ∀ {L : List Tx}, (idsOf L).Nodup → ∀ i, i < L.length → L.find? (fun t => t.id == (L.getD i default).id) = some (L.getD i default)
  | [], _, i, h => by simp at h
  | a :: l, hn, 0, _ => by simp [List.getD]
  | a :: l, hn, i + 1, h => by
    have hn' := List.nodup_cons.1 hn
    have hi : i < l.length := by simpa using h
    have e : (a :: l).getD (i + 1) default = l.getD i default := rfl
    rw [e, List.find?_cons, find_nd hn'.2 i hi]
    have : (a.id == (l.getD i default).id) = false := by
      rw [beq_eq_false_iff_ne]
      intro e
      apply hn'.1
      rw [e, getD_at hi]
      exact List.mem_map.2 ⟨_, List.getElem_mem _, rfl⟩
    rw [this]
theorem find_set : ∀ {L : List Tx} {k : Nat} {t : Tx}, (idsOf L).Nodup → k < L.length → t.id = (L.getD k default).id → ∀ x, (L.set k t).find? (fun t => t.id == x) = if x = t.id then some t else L.find? (fun t => t.id == x)
  | [], k, t, _, h, _, _ => by simp at h
  | a :: l, 0, t, hn, _, ht, x => by
    have ht : t.id = a.id := ht
    rw [List.set_cons_zero, List.find?_cons, List.find?_cons, ← ht]
    by_cases hx : x = t.id
    · subst hx; simp
    · have : (t.id == x) = false := by rw [beq_eq_false_iff_ne]; exact fun e => hx e.symm
      rw [this, if_neg hx]
  | a :: l, k + 1, t, hn, h, ht, x => by
    have hn' := List.nodup_cons.1 hn
    have hk : k < l.length := by simpa using h
    have ht : t.id = (l.getD k default).id := ht
    rw [List.set_cons_succ, List.find?_cons, List.find?_cons, find_set hn'.2 hk ht x]
    by_cases hx : a.id == x
    · rw [hx]
      have : x ≠ t.id := by
        intro e
        apply hn'.1
        rw [show a.id = t.id from (by simpa using hx : a.id = x).trans e, ht, getD_at hk]
        exact List.mem_map.2 ⟨_, List.getElem_mem _, rfl⟩
      simp only [if_neg this]
    · rw [Bool.not_eq_true] at hx
      rw [hx]
theorem find_cut : ∀ {L : List Tx} {k : Nat}, (idsOf L).Nodup → k < L.length → ∀ x, (L.take k ++ L.drop (k + 1)).find? (fun t => t.id == x) = if x = (L.getD k default).id then none else L.find? (fun t => t.id == x)
  | [], k, _, h, _ => by simp at h
  | a :: l, 0, hn, _, x => by
    have hn' := List.nodup_cons.1 hn
    show l.find? _ = if x = a.id then none else (a :: l).find? _
    rw [List.find?_cons]
    by_cases hx : x = a.id
    · subst hx
      rw [if_pos rfl, List.find?_eq_none]
      intro t ht e
      apply hn'.1
      rw [← (by simpa using e : t.id = a.id)]
      exact List.mem_map.2 ⟨_, ht, rfl⟩
    · rw [if_neg hx, show (a.id == x) = false by rw [beq_eq_false_iff_ne]; exact fun e => hx e.symm]
  | a :: l, k + 1, hn, h, x => by
    have hn' := List.nodup_cons.1 hn
    have hk : k < l.length := by simpa using h
    show (a :: (l.take k ++ l.drop (k + 1))).find? _ = if x = (l.getD k default).id then none else (a :: l).find? _
    rw [List.find?_cons, List.find?_cons, find_cut hn'.2 hk x]
    by_cases hx : a.id == x
    · rw [hx]
      have : x ≠ (l.getD k default).id := by
        intro e
        apply hn'.1
        rw [show a.id = _ from (by simpa using hx : a.id = x).trans e, getD_at hk]
        exact List.mem_map.2 ⟨_, List.getElem_mem _, rfl⟩
      simp only [if_neg this]
    · rw [Bool.not_eq_true] at hx
      rw [hx]
theorem txG_set {fm y : Nat} {L : List Tx} {k : Nat} {f : Fg} (hn : (idsOf L).Nodup) (hk : k < L.length) (x : Nat) : txG fm y (L.set k (insT (L.getD k default) f)) x = txG fm y L x := by
  unfold txG
  rw [find_set (t := insT (L.getD k default) f) hn hk rfl x]
  by_cases hx : x = (insT (L.getD k default) f).id
  · rw [if_pos hx, hx, show (insT (L.getD k default) f).id = (L.getD k default).id from rfl, find_nd hn k hk]
    rfl
  · rw [if_neg hx]
theorem paO_set {L : List Tx} {k : Nat} {f : Fg} (hn : (idsOf L).Nodup) (hk : k < L.length) (x : Nat) : paO (L.set k (insT (L.getD k default) f)) x = if x = (L.getD k default).id then paC (insT (L.getD k default) f) else paO L x := by
  unfold paO
  rw [find_set (t := insT (L.getD k default) f) hn hk rfl x]
  by_cases hx : x = (insT (L.getD k default) f).id
  · rw [if_pos hx, if_pos (show x = (L.getD k default).id from hx)]
  · rw [if_neg hx, if_neg (show ¬ x = (L.getD k default).id from hx)]
theorem txG_cut {fm y : Nat} {L : List Tx} {k : Nat} (hn : (idsOf L).Nodup) (hk : k < L.length) (x : Nat) : txG fm y (L.take k ++ L.drop (k + 1)) x = if x = (L.getD k default).id then .no else txG fm y L x := by
  unfold txG
  rw [find_cut hn hk x]
  by_cases hx : x = (L.getD k default).id
  · rw [if_pos hx, if_pos hx]
  · rw [if_neg hx, if_neg hx]
theorem paO_cut {L : List Tx} {k : Nat} (hn : (idsOf L).Nodup) (hk : k < L.length) (x : Nat) : paO (L.take k ++ L.drop (k + 1)) x = if x = (L.getD k default).id then .no else paO L x := by
  unfold paO
  rw [find_cut hn hk x]
  by_cases hx : x = (L.getD k default).id
  · rw [if_pos hx, if_pos hx]
  · rw [if_neg hx, if_neg hx]
theorem idsOf_set {L : List Tx} {k : Nat} {f : Fg} (hk : k < L.length) : idsOf (L.set k (insT (L.getD k default) f)) = idsOf L := by
  unfold idsOf
  rw [List.map_set]
  apply List.ext_getElem?
  intro i
  rw [List.getElem?_set]
  split
  · rename_i h
    subst h
    simp [insT, List.getD, hk]
  · rfl
theorem map_le {N N' : Nat} {σ : List Sg} {t : Tx} (f : Fg) :
    (Ck.map true false (t.ck + 1) (t.M.length + 1) (fun j => if j = t.M.length then (t.ck, Key.i f.ix, E.c (.s (mkS f.d))) else ((t.M.getD j default).1, .i (t.M.getD j default).2.1, .c (.s (mkS (t.M.getD j default).2.2))))).leK N ((paC (insT t f)).rk σ N') True := by
  refine ⟨rfl, rfl, rfl, ?_, ?_, trivial⟩
  · simp [insT]
  · intro i hi
    by_cases h : i = t.M.length
    · subst h
      simp [insT, List.getD]
    · have : i < t.M.length := by simp [insT] at hi; omega
      simp [insT, List.getD, h, List.getElem?_append_left this]
theorem le_tx_set {σ : List Sg} {N N' x : Nat} {L : List Tx} {k : Nat} {f : Fg} (h : key σ N' 8 x = (4, x)) (hn : (idsOf L).Nodup) (hk : k < L.length) : (txG 4 x L x).leK N ((txG 8 x (L.set k (insT (L.getD k default) f)) x).rk σ N') True := by
  rw [txG_set hn hk]
  exact mtO_le h
theorem le_pa_set {σ : List Sg} {N N' x : Nat} {L : List Tx} {k : Nat} {f : Fg} (hn : (idsOf L).Nodup) (hk : k < L.length) :
    (if x = (L.getD k default).id then Ck.map true false ((L.getD k default).ck + 1) ((L.getD k default).M.length + 1) (fun j => if j = (L.getD k default).M.length then ((L.getD k default).ck, Key.i f.ix, E.c (.s (mkS f.d))) else (((L.getD k default).M.getD j default).1, .i ((L.getD k default).M.getD j default).2.1, .c (.s (mkS ((L.getD k default).M.getD j default).2.2))))
     else paO L x).leK N ((paO (L.set k (insT (L.getD k default) f)) x).rk σ N') True := by
  rw [paO_set hn hk]
  by_cases hx : x = (L.getD k default).id
  · rw [if_pos hx, if_pos hx]
    exact map_le f
  · rw [if_neg hx, if_neg hx]
    exact winO_le
theorem outS_succ (ct : Int) (M : List (Nat × Int × List UInt8)) (n : Nat) : outS ct M (n + 1) = outS ct M n ++ (pget M (n : Nat)).getD [] := by
  unfold outS
  rw [List.range_succ, List.flatMap_append]
  simp
theorem pget_le {M : List (Nat × Int × List UInt8)} (h : ∀ e ∈ M, e.2.2.length ≤ 4000) (ix : Int) : ((pget M ix).getD []).length ≤ 4000 := by
  unfold pget
  cases hf : M.find? fun e => e.2.1 == ix with
  | none => simp
  | some e => simpa using h e (List.mem_of_find?_eq_some hf)
theorem outS_le (ct : Int) {M : List (Nat × Int × List UInt8)} (h : ∀ e ∈ M, e.2.2.length ≤ 4000) : ∀ n, (outS ct M n).length ≤ 4000 * n
  | 0 => by simp [outS]
  | n + 1 => by
    rw [outS_succ, List.length_append]
    have := outS_le ct h n
    have := pget_le h (n : Nat)
    omega
theorem key_snoc {M : List (Nat × Int × List UInt8)} {s : Nat} {ix : Int} {d : List UInt8} (h : ∀ i j, i < j → j < M.length → (M.getD i default).2.1 ≠ (M.getD j default).2.1) (hno : ∀ i, i < M.length → (M.getD i default).2.1 ≠ ix) :
    ∀ i j, i < j → j < (M ++ [(s, ix, d)]).length → ((M ++ [(s, ix, d)]).getD i default).2.1 ≠ ((M ++ [(s, ix, d)]).getD j default).2.1 := by
  intro i j hij hj
  rw [List.length_append, List.length_singleton] at hj
  have hi : (M ++ [(s, ix, d)]).getD i default = M.getD i default := by simp [List.getD, List.getElem?_append_left (show i < M.length by omega)]
  rw [hi]
  by_cases h2 : j < M.length
  · rw [show (M ++ [(s, ix, d)]).getD j default = M.getD j default by simp [List.getD, List.getElem?_append_left h2]]
    exact h i j hij h2
  · obtain rfl : j = M.length := by omega
    rw [show (M ++ [(s, ix, d)]).getD M.length default = (s, ix, d) by simp [List.getD]]
    exact hno i hij
theorem cutL_len {L : List Tx} {k : Nat} (h : k < L.length) : (cutL L k).length = k + (L.length - (k + 1)) := by
  unfold cutL; simp only [List.length_append, List.length_take, List.length_drop]; omega
theorem ids_cut {L : List Tx} {k : Nat} : idsOf (cutL L k) = (idsOf L).take k ++ (idsOf L).drop (k + 1) := by
  unfold idsOf cutL; rw [List.map_append, List.map_take, List.map_drop]
theorem le_tx_cut {σ : List Sg} {N N' x : Nat} {L : List Tx} {k : Nat} (h : key σ N' 8 x = (4, x)) (hn : (idsOf L).Nodup) (hk : k < L.length) : (txG 4 x L x).leK N ((txG 8 x (cutL L k) x).rk σ N') True := by
  unfold cutL
  rw [txG_cut hn hk]
  by_cases hx : x = (L.getD k default).id
  · rw [if_pos hx]
    unfold txG
    split <;> trivial
  · rw [if_neg hx]
    exact mtO_le h
theorem le_pa_cut {σ : List Sg} {N N' x : Nat} {L : List Tx} {k : Nat} {f : Fg} (hn : (idsOf L).Nodup) (hk : k < L.length) : (paO (L.set k (insT (L.getD k default) f)) x).leK N ((paO (cutL L k) x).rk σ N') True := by
  unfold cutL
  rw [paO_cut hn hk, paO_set hn hk]
  by_cases hx : x = (L.getD k default).id
  · rw [if_pos hx, if_pos hx]
    trivial
  · rw [if_neg hx, if_neg hx]
    exact winO_le
theorem le_pa_setK {N x : Nat} {L : List Tx} {k : Nat} {f : Fg} (hn : (idsOf L).Nodup) (hk : k < L.length) {σ : List Sg} {N' : Nat} :
    ((if x = (L.getD k default).id then Ck.map true false ((L.getD k default).ck + 1) ((L.getD k default).M.length + 1) (fun j => if j = (L.getD k default).M.length then ((L.getD k default).ck, Key.i f.ix, E.c (.s (mkS f.d))) else (((L.getD k default).M.getD j default).1, .i ((L.getD k default).M.getD j default).2.1, .c (.s (mkS ((L.getD k default).M.getD j default).2.2))))
     else paO L x)).leK N ((paO (L.set k (insT (L.getD k default) f)) x).rk σ N') True := le_pa_set hn hk
theorem cut_ids {J ids : List Nat} {k c : Nat} {F : Nat} (hk : k < ids.length) (hc : ids.length ≤ c) (i : Nat) (hi : i < k + (ids.length - (k + 1))) :
    appF k (fun i => [C.p F ((J ++ ids).getD (J.length + i) default) 0]) (if c = k + 1 then J.length else J.length + (k + 1)) (fun i => [C.p F ((J ++ ids).getD i default) 0]) i = rowOf (encId F) (ids.take k ++ ids.drop (k + 1)) i := by
  rw [← cut_row (encId F) ids k hk i hi]
  unfold appF rowOf encId
  have e : ∀ q, (J ++ ids).getD (J.length + q) default = ids.getD q default := by
    intro q
    simp [List.getD, List.getElem?_append_right]
  by_cases h : i < k
  · rw [if_pos h, if_pos h]
    simp only [e]
  · rw [if_neg h, if_neg h]
    split
    · exfalso; omega
    · rw [show J.length + (k + 1) + (i - k) = J.length + ((k + 1) + (i - k)) by omega]
      simp only [e]
theorem txG_ne {fm y : Nat} {M : List Tx} {t : Tx} {x : Nat} (h : x ≠ t.id) : txG fm y (M ++ [t]) x = txG fm y M x := by
  unfold txG
  rw [List.find?_append, List.find?_cons, show (t.id == x) = false by rw [beq_eq_false_iff_ne]; exact fun e => h e.symm]
  simp
theorem paO_ne {M : List Tx} {t : Tx} {x : Nat} (h : x ≠ t.id) : paO (M ++ [t]) x = paO M x := by
  unfold paO
  rw [List.find?_append, List.find?_cons, show (t.id == x) = false by rw [beq_eq_false_iff_ne]; exact fun e => h e.symm]
  simp
theorem txG_new {fm y : Nat} {M : List Tx} {t : Tx} (h : ∀ u ∈ M, u.id ≠ t.id) : txG fm y (M ++ [t]) t.id = txD fm y t := by
  unfold txG
  rw [List.find?_append, List.find?_eq_none.2 (fun u hu => by simpa using h u hu), List.find?_cons, beq_self_eq_true]
  rfl
theorem paO_new {M : List Tx} {t : Tx} (h : ∀ u ∈ M, u.id ≠ t.id) : paO (M ++ [t]) t.id = paC t := by
  unfold paO
  rw [List.find?_append, List.find?_eq_none.2 (fun u hu => by simpa using h u hu), List.find?_cons, beq_self_eq_true]
  rfl
theorem leK_cong {N : Nat} {q q' q'' : Ck} {A : Prop} (h : q' = q'') (hk : q.leK N q'' A) : q.leK N q' A := by
  rw [h]; exact hk
theorem le_tx_new {σ : List Sg} {N1 N' N : Nat} {M : List Tx} {fr : Int} {f : Fg} {q : Ck} {A : Prop} (hM : ∀ u ∈ M, u.id ≠ N) (h : key σ N' 8 N = (7, 0)) (hq : q = .cells true [.i .i64 fr, .i .i64 f.id, .i .i64 f.ct, .mp 7 0]) (hA : A) : q.leK N1 ((txG 8 N (M ++ [newT N fr f]) N).rk σ N') A := by
  rw [show txG 8 N (M ++ [newT N fr f]) N = txD 8 N (newT N fr f) from txG_new (t := newT N fr f) hM, hq]
  simpa [txD, newT, Ck.rk, C.rk, h, Ck.leK, sameB, eqL, C.eqK, sameK, ifB, kNat] using hA
theorem le_pa_new {σ : List Sg} {N1 N' N : Nat} {M : List Tx} {fr : Int} {f : Fg} {g : Nat → Nat × Key × E} {b : Bool} {A : Prop} (hM : ∀ u ∈ M, u.id ≠ N) (hb : b = false) (hg : g 0 = (0, Key.i f.ix, E.c (.s (mkS f.d)))) (hA : A) : (Ck.map true b (0 + 1) (0 + 1) g).leK N1 ((paO (M ++ [newT N fr f]) N).rk σ N') A := by
  rw [show paO (M ++ [newT N fr f]) N = paC (newT N fr f) from paO_new (t := newT N fr f) hM]
  subst hb
  refine ⟨rfl, rfl, rfl, rfl, fun i hi => ?_, hA⟩
  have : i = 0 := by simp [newT] at hi; omega
  subst this
  rw [hg]
  rfl
theorem adopt_ids {σ : List Sg} {N : Nat} {J ids ids' : List Nat} (hk : ∀ x, key σ 0 7 x = (if x = N then 8 else 3, if x = N then 0 else x)) (hN : ∀ x ∈ ids, x ≠ N) (he : ids' = ids ++ [N]) (g : Nat → List C) (hg : g 0 = [.p 8 0 0]) (i : Nat) (hi : i < ids'.length) :
    appF ids.length (fun i => [C.p 3 ((J ++ ids).getD (J.length + i) default) 0]) 0 g i = List.map (C.rk σ 0) (rowOf (encId 7) ids' i) := by
  subst he
  rw [map_rk_id, hk]
  unfold appF
  rw [List.length_append, List.length_singleton] at hi
  by_cases h : i < ids.length
  · rw [if_pos h]
    have e : (ids ++ [N]).getD i default = ids.getD i default := by simp [List.getD, List.getElem?_append_left h]
    have e2 : (J ++ ids).getD (J.length + i) default = ids.getD i default := by simp [List.getD, List.getElem?_append_right]
    have e3 : ids.getD i default ≠ N := hN _ (by rw [getD_at h]; exact List.getElem_mem _)
    simp only [e, e2, if_neg e3]
  · rw [if_neg h]
    obtain rfl : i = ids.length := by omega
    have e : (ids ++ [N]).getD ids.length default = N := by simp [List.getD]
    simp only [e, if_true, Nat.sub_self, hg]
theorem le_pa_drop {σ : List Sg} {N N' x : Nat} {L : List Tx} (hn : (idsOf L).Nodup) (hk : 0 < L.length) : (paO L x).leK N ((paO (L.drop 1) x).rk σ N') True := by
  have h := paO_cut (L := L) (k := 0) hn hk x
  rw [List.take_zero, List.nil_append] at h
  rw [h]
  by_cases hx : x = (L.getD 0 default).id
  · rw [if_pos hx]
    trivial
  · rw [if_neg hx]
    exact winO_le
structure AOk (mo : Int) (N : Nat) (J : List Nat) (L : List Tx) (dn : List (Int × Int)) : Prop where
  mo1 : 1 ≤ mo
  mo2 : mo ≤ 256
  len : (L.length : Int) ≤ mo
  dn : dn.length ≤ 1000000
  nd : (idsOf L).Nodup
  idN : ∀ t ∈ L, t.id < N
  jN : ∀ j ∈ J, j < N
  jl : J.length ≤ 1
  ct : ∀ t ∈ L, 1 ≤ t.ct ∧ t.ct ≤ 64
  mlen : ∀ t ∈ L, (t.M.length : Int) < t.ct
  dat : ∀ t ∈ L, ∀ e ∈ t.M, e.2.2.length ≤ 4000
  ix : ∀ t ∈ L, ∀ e ∈ t.M, 0 ≤ e.2.1 ∧ e.2.1 < t.ct
  key : ∀ t ∈ L, ∀ i j, i < j → j < t.M.length → (t.M.getD i default).2.1 ≠ (t.M.getD j default).2.1
abbrev asmA (mo : Int) (J : List Nat) (L : List Tx) (dn : List (Int × Int)) (c cd : Nat) : List Fam :=
  [.one (asm mo 5 6 J.length L.length c dn.length cd), .one .no, .one .no, .one .no, .one .no, .one (opnR 7 (J ++ idsOf L) (J.length + c)), .one (donR dn cd), .many (txO 8 L), .many (paO L)]

theorem rH15qC0 {σ : List Sg} {H h' : List Fam} {v : T} {K : T → List Fam → Prop} {H' : List Fam} {v' : T} {N : Nat} (hk : K v' H') (hN : H.length = N := by (try simp only [↓List.length_cons, ↓List.length_nil, Nat.reduceAdd]) <;> rfl) (h : givesF σ N H σ h' = some H' := by (try simp (maxSteps := 1000000) only [givesF, setF, updF, Fam.zeroth, Fam.rk, Ck.rk, C.rk, E.rk, T.rk, key, List.map_cons, List.map_nil, List.cons_append, List.nil_append, List.length_cons, List.length_nil, Option.map_some, Option.bind_some, Nat.reduceAdd, Nat.zero_add, Nat.add_zero, Nat.add_sub_cancel_left, Int.toNat_natCast, reps, List.all_cons, List.all_nil, C.flat, List.append_eq, Bool.not_true, Bool.and_true, Bool.or_false, Bool.or_self, Bool.not_false, List.append_nil, Bool.and_self, ↓mtG_rk, ↓winO_rk, encG]) <;> rfl) (hv : v.rk σ N = v' := by (try simp only [givesF, setF, updF, Fam.zeroth, Fam.rk, Ck.rk, C.rk, E.rk, T.rk, key, List.map_cons, List.map_nil, List.cons_append, List.nil_append, List.length_cons, List.length_nil, Option.map_some, Option.bind_some, Nat.reduceAdd, Nat.zero_add, Nat.add_zero, Nat.add_sub_cancel_left, Int.toNat_natCast, reps, List.all_cons, List.all_nil, C.flat, List.append_eq, Bool.not_true, Bool.and_true, Bool.or_false, Bool.or_self, Bool.not_false, List.append_nil, Bool.and_self, ↓mtG_rk, ↓winO_rk, encG]) <;> rfl) : RetG σ H h' v K := ret_mk3 hN h hv hk
theorem rH15qC1 {σ : List Sg} {H h' : List Fam} {v : T} {K : T → List Fam → Prop} {H' : List Fam} {v' : T} {N : Nat} (hk : K v' H') (hN : H.length = N := by (try simp only [↓List.length_cons, ↓List.length_nil, Nat.reduceAdd]) <;> rfl) (h : givesF σ N H σ h' = some H' := by (try simp (maxSteps := 1000000) only [givesF, setF, updF, Fam.zeroth, Fam.rk, Ck.rk, C.rk, E.rk, T.rk, key, List.map_cons, List.map_nil, List.cons_append, List.nil_append, List.length_cons, List.length_nil, Option.map_some, Option.bind_some, Nat.reduceAdd, Nat.zero_add, Nat.add_zero, Nat.add_sub_cancel_left, Int.toNat_natCast, reps, List.all_cons, List.all_nil, C.flat, List.append_eq, Bool.not_true, Bool.and_true, Bool.or_false, Bool.or_self, Bool.not_false, List.append_nil, Bool.and_self, ↓mtG_rk, ↓winO_rk, encG, encK, map_rk_id]) <;> rfl) (hv : v.rk σ N = v' := by (try simp only [givesF, setF, updF, Fam.zeroth, Fam.rk, Ck.rk, C.rk, E.rk, T.rk, key, List.map_cons, List.map_nil, List.cons_append, List.nil_append, List.length_cons, List.length_nil, Option.map_some, Option.bind_some, Nat.reduceAdd, Nat.zero_add, Nat.add_zero, Nat.add_sub_cancel_left, Int.toNat_natCast, reps, List.all_cons, List.all_nil, C.flat, List.append_eq, Bool.not_true, Bool.and_true, Bool.or_false, Bool.or_self, Bool.not_false, List.append_nil, Bool.and_self, ↓mtG_rk, ↓winO_rk, encG, encK, map_rk_id]) <;> rfl) : RetG σ H h' v K := ret_mk3 hN h hv hk
theorem rH15qC2 {σ : List Sg} {H h' : List Fam} {v : T} {K : T → List Fam → Prop} {H' : List Fam} {v' : T} {N : Nat} (hk : K v' H') (hN : H.length = N := by (try simp only [↓List.length_cons, ↓List.length_nil, Nat.reduceAdd]) <;> rfl) (h : givesF σ N H σ h' = some H' := by (try simp (maxSteps := 1000000) only [givesF, setF, updF, Fam.zeroth, Fam.rk, Ck.rk, C.rk, E.rk, T.rk, key, List.map_cons, List.map_nil, List.cons_append, List.nil_append, List.length_cons, List.length_nil, Option.map_some, Option.bind_some, Nat.reduceAdd, Nat.zero_add, Nat.add_zero, Nat.add_sub_cancel_left, Int.toNat_natCast, reps, List.all_cons, List.all_nil, C.flat, List.append_eq, Bool.not_true, Bool.and_true, Bool.or_false, Bool.or_self, Bool.not_false, List.append_nil, Bool.and_self, ↓mtG_rk, ↓winO_rk, encG, encK]) <;> rfl) (hv : v.rk σ N = v' := by (try simp only [givesF, setF, updF, Fam.zeroth, Fam.rk, Ck.rk, C.rk, E.rk, T.rk, key, List.map_cons, List.map_nil, List.cons_append, List.nil_append, List.length_cons, List.length_nil, Option.map_some, Option.bind_some, Nat.reduceAdd, Nat.zero_add, Nat.add_zero, Nat.add_sub_cancel_left, Int.toNat_natCast, reps, List.all_cons, List.all_nil, C.flat, List.append_eq, Bool.not_true, Bool.and_true, Bool.or_false, Bool.or_self, Bool.not_false, List.append_nil, Bool.and_self, ↓mtG_rk, ↓winO_rk, encG, encK]) <;> rfl) : RetG σ H h' v K := ret_mk3 hN h hv hk
theorem cH15qC3 {P : Program} {F : Nat} {args : List T} {H : List Fam} {K : T → List Fam → Prop} {σ : List Sg} {nl : List Fam} {args0 : List T} {h0 : List Fam} {Q : T → List Fam → Prop} {H2 H1 : List Fam} {N n : Nat} (hc : Ctr P F args0 h0 Q) (hk : ∀ v h', Q v h' → capsP h' → RetG σ H2 h' v K) (hap : apart σ = true := by rfl) (hnl : nl.all nilB = true := by rfl) (h1 : H ++ nl = H1 := by first | exact List.append_nil _ | ((try simp only [List.cons_append, List.nil_append]) <;> rfl)) (hN : H1.length = N := by (try simp only [↓List.length_cons, ↓List.length_nil, Nat.reduceAdd]) <;> rfl) (hn : H.length = n := by (try simp only [↓List.length_cons, ↓List.length_nil, Nat.reduceAdd]) <;> rfl) (hH : givesF σ N H1 σ h0 = some H2 := by (try simp (maxSteps := 1000000) only [givesF, setF, updF, Fam.zeroth, Fam.rk, Ck.rk, C.rk, E.rk, T.rk, key, List.map_cons, List.map_nil, List.cons_append, List.nil_append, List.length_cons, List.length_nil, Option.map_some, Option.bind_some, Nat.reduceAdd, Nat.zero_add, Nat.add_zero, Nat.add_sub_cancel_left, Int.toNat_natCast, reps, List.all_cons, List.all_nil, C.flat, List.append_eq, Bool.not_true, Bool.and_true, Bool.or_false, Bool.or_self, Bool.not_false, List.append_nil, Bool.and_self, ↓mtG_rk, ↓winO_rk]) <;> rfl) (hle : leS n H1 σ N σ h0 (belsK N (h0.map (Fam.rk σ N)) (argsK n args (args0.map (T.rk σ N)) True)) := by repeat' first | refine And.intro ?_ ?_ | exact xeC | fail) : CallK P F args H K := CallK.mk3 hc hap hnl h1 hN hn hH hle hk
set_option maxRecDepth 20000 in
set_option maxHeartbeats 4000000 in
theorem cAdd (mo : Int) (N : Nat) (J : List Nat) (L : List Tx) (dn : List (Int × Int)) (c cd : Nat) (fr : Int) (f : Fg) (hA : AOk mo N J L dn) :
    Ctr Try.prog 13 [.c (.p 0 0 0), .c (.i .i64 fr), .a (encG f)] (asmB mo J L dn c cd)
      fun v h => ∃ J' c' cd', (∀ j ∈ J', j < N + 1) ∧ J'.length ≤ 1 ∧ v = .t [.c (.s (mkS (addA mo N L dn fr f).2.2.1)), .c (.b (addA mo N L dn fr f).2.2.2.1), .c (.i .i64 ((addA mo N L dn fr f).2.2.2.2 : Nat))] ∧ h = asmA mo J' (addA mo N L dn fr f).1 (addA mo N L dn fr f).2.1 c' cd' := by
  have hz : (mkS f.d).size = f.d.length := rfl
  have hLl := hA.len
  have hmo := hA.mo2
  have hmo1 := hA.mo1
  have hJL : (J ++ idsOf L).length = J.length + L.length := by simp [idsOf]
  have hJl := hA.jl
  have hdl := hA.dn
  have hidN : ∀ x ∈ idsOf L, x ≠ N := fun x hx => by
    obtain ⟨t, ht, rfl⟩ := List.mem_map.1 hx
    have := hA.idN t ht
    omega
  have huN : ∀ u ∈ L, u.id ≠ N := fun u hu => by have := hA.idN u hu; omega
  have hil : (idsOf L).length = L.length := by simp [idsOf]
  refine Ctr.mk' tbv mixed Try.func13 rfl rfl rfl (fun _ _ => by kernel_rfl) (by kernel_rfl) (by rfl) (by rfl) (by (repeat' first | refine And.intro ?_ ?_ | exact xeC | fail) <;> (exact xmC)) ?_
  repeat' (first | (fail_if_success (with_reducible refine xstp ?_)); first | ((with_reducible refine And.intro (fun (hb : _ = true) => ?_) (fun (hb : _ = false) => ?_)) <;> replace hb := xnC hb <;> (try first | exact xfC | exact bff hb (by assumption) | exact bff (by assumption) hb)) | (with_reducible refine Both.mk ?_ ?_) | ((with_reducible refine And.intro ?_ ?_); focus exact xoC) | ((with_reducible refine Or.inl ⟨?_, ?_, ?_⟩); (focus rfl); focus exact xaC) | ((with_reducible refine xwB ?_ ?_); focus exact xaC) | ((with_reducible refine xwC ?_ ?_); focus exact xaC) | ((with_reducible refine xwD ?_ ?_); focus exact xaC) | ((with_reducible refine xwE ?_ ?_); focus exact xaC) | (with_reducible intro hc; (try simp only [capsP, and_true] at hc); (try exact xfC)) | ((fail_if_success (with_reducible first | refine xgon ?_ | intro _)); (conv => whnf); (fail_if_success (fail_if_success (with_reducible first | refine xstp ?_ | refine Both.mk ?_ ?_ | refine xgon ?_ | intro _)))))
  refine cH15qC3 (σ := []) (nl := []) (cwithin fr 0 7) ?_
  rintro v h' ⟨rfl, rfl⟩ hcaps
  refine rH15qC0 ?_
  repeat' (first | (fail_if_success (with_reducible refine xstp ?_)); first | ((with_reducible refine And.intro (fun (hb : _ = true) => ?_) (fun (hb : _ = false) => ?_)) <;> replace hb := xnC hb <;> (try first | exact xfC | exact bff hb (by assumption) | exact bff (by assumption) hb)) | (with_reducible refine Both.mk ?_ ?_) | ((with_reducible refine And.intro ?_ ?_); focus exact xoC) | ((with_reducible refine Or.inl ⟨?_, ?_, ?_⟩); (focus rfl); focus exact xaC) | ((with_reducible refine xwB ?_ ?_); focus exact xaC) | ((with_reducible refine xwC ?_ ?_); focus exact xaC) | ((with_reducible refine xwD ?_ ?_); focus exact xaC) | ((with_reducible refine xwE ?_ ?_); focus exact xaC) | (with_reducible intro hc; (try simp only [capsP, and_true] at hc); (try exact xfC)) | ((fail_if_success (with_reducible first | refine xgon ?_ | intro _)); (conv => whnf); (fail_if_success (fail_if_success (with_reducible first | refine xstp ?_ | refine Both.mk ?_ ?_ | refine xgon ?_ | intro _)))))
  · skip
    have hadd : addA mo N L dn fr f = (L, dn, [], false, 4) := by unfold addA; rw [if_pos (fun h => hb h.1)]
    rw [hadd]
    refine FinK.mk ⟨[0, 1, 2, 3, 4, 1, 2, 3, 4], _, _, ⟨J, c, cd, fun j hj => Nat.lt_succ_of_lt (hA.jN j hj), hA.jl, rfl, rfl⟩, ?_⟩
    (repeat' first | refine And.intro ?_ ?_ | exact xeC | fail)
    all_goals (exact xmC)
  refine cH15qC3 (σ := []) (nl := []) (cvalid f) ?_
  rintro v h' ⟨rfl, rfl⟩ hcaps
  refine rH15qC0 ?_
  repeat' (first | (fail_if_success (with_reducible refine xstp ?_)); first | ((with_reducible refine And.intro (fun (hb : _ = true) => ?_) (fun (hb : _ = false) => ?_)) <;> replace hb := xnC hb <;> (try first | exact xfC | exact bff hb (by assumption) | exact bff (by assumption) hb)) | (with_reducible refine Both.mk ?_ ?_) | ((with_reducible refine And.intro ?_ ?_); focus exact xoC) | ((with_reducible refine Or.inl ⟨?_, ?_, ?_⟩); (focus rfl); focus exact xaC) | ((with_reducible refine xwB ?_ ?_); focus exact xaC) | ((with_reducible refine xwC ?_ ?_); focus exact xaC) | ((with_reducible refine xwD ?_ ?_); focus exact xaC) | ((with_reducible refine xwE ?_ ?_); focus exact xaC) | (with_reducible intro hc; (try simp only [capsP, and_true] at hc); (try exact xfC)) | ((fail_if_success (with_reducible first | refine xgon ?_ | intro _)); (conv => whnf); (fail_if_success (fail_if_success (with_reducible first | refine xstp ?_ | refine Both.mk ?_ ?_ | refine xgon ?_ | intro _)))))
  · skip
    have hadd : addA mo N L dn fr f = (L, dn, [], false, 4) := by unfold addA; rw [if_pos (fun h => hb h.2)]
    rw [hadd]
    refine FinK.mk ⟨[0, 1, 2, 3, 4, 1, 2, 3, 4], _, _, ⟨J, c, cd, fun j hj => Nat.lt_succ_of_lt (hA.jN j hj), hA.jl, rfl, rfl⟩, ?_⟩
    (repeat' first | refine And.intro ?_ ?_ | exact xeC | fail)
    all_goals (exact xmC)
  have hok : (0 ≤ fr ∧ fr ≤ 7) ∧ okF f := ⟨by assumption, hb⟩
  have hokf := hok.2
  unfold okF at hokf
  refine cH15qC3 (σ := [.whole 0, .whole 1, .name 2, .whole 3, .name 4]) (nl := []) (cfind mo J L dn c cd (fr, f.id) (by omega) (find_nd hA.nd)) ?_ (hle := by (repeat' first | refine And.intro ?_ ?_ | exact xeC | fail) <;> (exact xmC))
  rintro v h' ⟨rfl, rfl⟩ hcaps
  rcases (by cases fnd L (fr, f.id) <;> simp : (∃ k, fnd L (fr, f.id) = some k) ∨ fnd L (fr, f.id) = none) with ⟨k, hf⟩ | hf
  · rw [resF_some hf]
    have hadd0 := addA_some (mo := mo) (N := N) (dn := dn) hok hf
    have hk := fnd_lt hf
    have hx := find_nd hA.nd k hk
    refine rH15qC1 ?_
    repeat' (first | (fail_if_success (with_reducible refine xstp ?_)); first | ((with_reducible refine And.intro (fun (hb : _ = true) => ?_) (fun (hb : _ = false) => ?_)) <;> replace hb := xnC hb <;> (try first | exact xfC | exact bff hb (by assumption) | exact bff (by assumption) hb)) | (with_reducible refine Both.mk ?_ ?_) | ((with_reducible refine And.intro ?_ ?_); focus exact xoC) | ((with_reducible refine Or.inl ⟨?_, ?_, ?_⟩); (focus rfl); focus exact xaC) | ((with_reducible refine xwB ?_ ?_); focus exact xaC) | ((with_reducible refine xwC ?_ ?_); focus exact xaC) | ((with_reducible refine xwD ?_ ?_); focus exact xaC) | ((with_reducible refine xwE ?_ ?_); focus exact xaC) | (with_reducible intro hc; (try simp only [capsP, and_true] at hc); (try exact xfC)) | ((fail_if_success (with_reducible first | refine xgon ?_ | intro _)); (conv => whnf); (fail_if_success (fail_if_success (with_reducible first | refine xstp ?_ | refine Both.mk ?_ ?_ | refine xgon ?_ | intro _)))))
    refine ManyK.mk ⟨txD 4 (L.getD k default).id (L.getD k default), by show txG _ _ _ _ = _; unfold txG; rw [hx], ?_⟩
    repeat' (first | (fail_if_success (with_reducible refine xstp ?_)); first | ((with_reducible refine And.intro (fun (hb : _ = true) => ?_) (fun (hb : _ = false) => ?_)) <;> replace hb := xnC hb <;> (try first | exact xfC | exact bff hb (by assumption) | exact bff (by assumption) hb)) | (with_reducible refine Both.mk ?_ ?_) | ((with_reducible refine And.intro ?_ ?_); focus exact xoC) | ((with_reducible refine Or.inl ⟨?_, ?_, ?_⟩); (focus rfl); focus exact xaC) | ((with_reducible refine xwB ?_ ?_); focus exact xaC) | ((with_reducible refine xwC ?_ ?_); focus exact xaC) | ((with_reducible refine xwD ?_ ?_); focus exact xaC) | ((with_reducible refine xwE ?_ ?_); focus exact xaC) | (with_reducible intro hc; (try simp only [capsP, and_true] at hc); (try exact xfC)) | ((fail_if_success (with_reducible first | refine xgon ?_ | intro _)); (conv => whnf); (fail_if_success (fail_if_success (with_reducible first | refine xstp ?_ | refine Both.mk ?_ ?_ | refine xgon ?_ | intro _)))))
    refine ManyK.mk ⟨paC (L.getD k default), by show paO _ _ = _; unfold paO; rw [hx], ?_⟩
    repeat' (first | (fail_if_success (with_reducible refine xstp ?_)); first | ((with_reducible refine And.intro (fun (hb : _ = true) => ?_) (fun (hb : _ = false) => ?_)) <;> replace hb := xnC hb <;> (try first | exact xfC | exact bff hb (by assumption) | exact bff (by assumption) hb)) | (with_reducible refine Both.mk ?_ ?_) | ((with_reducible refine And.intro ?_ ?_); focus exact xoC) | ((with_reducible refine Or.inl ⟨?_, ?_, ?_⟩); (focus rfl); focus exact xaC) | ((with_reducible refine xwB ?_ ?_); focus exact xaC) | ((with_reducible refine xwC ?_ ?_); focus exact xaC) | ((with_reducible refine xwD ?_ ?_); focus exact xaC) | ((with_reducible refine xwE ?_ ?_); focus exact xaC) | (with_reducible intro hc; (try simp only [capsP, and_true] at hc); (try exact xfC)) | ((fail_if_success (with_reducible first | refine xgon ?_ | intro _)); (conv => whnf); (fail_if_success (fail_if_success (with_reducible first | refine xstp ?_ | refine Both.mk ?_ ?_ | refine xgon ?_ | intro _)))))
    · rename_i i hi
      have hki : ((L.getD k default).M.getD i default).2.1 = f.ix := Key.i.inj hc
      have hpg := pget_at (hA.key _ (by rw [getD_at hk]; exact List.getElem_mem _)) hi hki
      rw [hpg] at hadd0
      refine ManyK.mk ⟨txD 4 (L.getD k default).id (L.getD k default), by show txG _ _ _ _ = _; unfold txG; rw [hx], ?_⟩
      repeat' (first | (fail_if_success (with_reducible refine xstp ?_)); first | ((with_reducible refine And.intro (fun (hb : _ = true) => ?_) (fun (hb : _ = false) => ?_)) <;> replace hb := xnC hb <;> (try first | exact xfC | exact bff hb (by assumption) | exact bff (by assumption) hb)) | (with_reducible refine Both.mk ?_ ?_) | ((with_reducible refine And.intro ?_ ?_); focus exact xoC) | ((with_reducible refine Or.inl ⟨?_, ?_, ?_⟩); (focus rfl); focus exact xaC) | ((with_reducible refine xwB ?_ ?_); focus exact xaC) | ((with_reducible refine xwC ?_ ?_); focus exact xaC) | ((with_reducible refine xwD ?_ ?_); focus exact xaC) | ((with_reducible refine xwE ?_ ?_); focus exact xaC) | (with_reducible intro hc; (try simp only [capsP, and_true] at hc); (try exact xfC)) | ((fail_if_success (with_reducible first | refine xgon ?_ | intro _)); (conv => whnf); (fail_if_success (fail_if_success (with_reducible first | refine xstp ?_ | refine Both.mk ?_ ?_ | refine xgon ?_ | intro _)))))
      · skip
        have hadd : addA mo N L dn fr f = (L, dn, [], false, 2) := by rw [hadd0, if_pos hb]
        rw [hadd]
        refine FinK.mk ⟨[0, 1, 2, 3, 4, 1, 2, 3, 4], _, _, ⟨J, c, cd, fun j hj => Nat.lt_succ_of_lt (hA.jN j hj), hA.jl, rfl, rfl⟩, ?_⟩
        (repeat' first | refine And.intro ?_ ?_ | exact xeC | fail)
        all_goals (exact xmC)
      · skip
        have hadd : addA mo N L dn fr f = (L, dn, [], false, 2) := by rw [hadd0, if_neg (by simpa using ‹(L.getD k default).ct = f.ct›)]; exact if_pos (fun e => hb (by rw [e]))
        rw [hadd]
        refine FinK.mk ⟨[0, 1, 2, 3, 4, 1, 2, 3, 4], _, _, ⟨J, c, cd, fun j hj => Nat.lt_succ_of_lt (hA.jN j hj), hA.jl, rfl, rfl⟩, ?_⟩
        (repeat' first | refine And.intro ?_ ?_ | exact xeC | fail)
        all_goals (exact xmC)
      · skip
        have hadd : addA mo N L dn fr f = (L, dn, [], false, 0) := by rw [hadd0, if_neg (by simpa using ‹(L.getD k default).ct = f.ct›)]; exact if_neg (fun e => e (mkS_inj.1 hb))
        rw [hadd]
        refine FinK.mk ⟨[0, 1, 2, 3, 4, 1, 2, 3, 4], _, _, ⟨J, c, cd, fun j hj => Nat.lt_succ_of_lt (hA.jN j hj), hA.jl, rfl, rfl⟩, ?_⟩
        (repeat' first | refine And.intro ?_ ?_ | exact xeC | fail)
        all_goals (exact xmC)
    · have hno0 := hc
      have hpg : pget (L.getD k default).M f.ix = none := pget_no (fun i hi e => hc i hi (by rw [e]))
      rw [hpg] at hadd0
      refine ManyK.mk ⟨txD 4 (L.getD k default).id (L.getD k default), by show txG _ _ _ _ = _; unfold txG; rw [hx], ?_⟩
      repeat' (first | (fail_if_success (with_reducible refine xstp ?_)); first | ((with_reducible refine And.intro (fun (hb : _ = true) => ?_) (fun (hb : _ = false) => ?_)) <;> replace hb := xnC hb <;> (try first | exact xfC | exact bff hb (by assumption) | exact bff (by assumption) hb)) | (with_reducible refine Both.mk ?_ ?_) | ((with_reducible refine And.intro ?_ ?_); focus exact xoC) | ((with_reducible refine Or.inl ⟨?_, ?_, ?_⟩); (focus rfl); focus exact xaC) | ((with_reducible refine xwB ?_ ?_); focus exact xaC) | ((with_reducible refine xwC ?_ ?_); focus exact xaC) | ((with_reducible refine xwD ?_ ?_); focus exact xaC) | ((with_reducible refine xwE ?_ ?_); focus exact xaC) | (with_reducible intro hc; (try simp only [capsP, and_true] at hc); (try exact xfC)) | ((fail_if_success (with_reducible first | refine xgon ?_ | intro _)); (conv => whnf); (fail_if_success (fail_if_success (with_reducible first | refine xstp ?_ | refine Both.mk ?_ ?_ | refine xgon ?_ | intro _)))))
      · skip
        have hadd : addA mo N L dn fr f = (L, dn, [], false, 2) := by rw [hadd0, if_pos hb]
        rw [hadd]
        refine FinK.mk ⟨[0, 1, 2, 3, 4, 1, 2, 3, 4], _, _, ⟨J, c, cd, fun j hj => Nat.lt_succ_of_lt (hA.jN j hj), hA.jl, rfl, rfl⟩, ?_⟩
        (repeat' first | refine And.intro ?_ ?_ | exact xeC | fail)
        all_goals (exact xmC)
      have hct := hb
      rw [if_neg (by simpa using hct)] at hadd0
      simp only at hadd0
      have htm : L.getD k default ∈ L := by rw [getD_at hk]; exact List.getElem_mem _
      have htc := hA.ct _ htm
      have htl := hA.mlen _ htm
      refine ManyK.mk ⟨txD 4 (L.getD k default).id (L.getD k default), by show txG _ _ _ _ = _; unfold txG; rw [hx], ?_⟩
      repeat' (first | (fail_if_success (with_reducible refine xstp ?_)); first | ((with_reducible refine And.intro (fun (hb : _ = true) => ?_) (fun (hb : _ = false) => ?_)) <;> replace hb := xnC hb <;> (try first | exact xfC | exact bff hb (by assumption) | exact bff (by assumption) hb)) | (with_reducible refine Both.mk ?_ ?_) | ((with_reducible refine And.intro ?_ ?_); focus exact xoC) | ((with_reducible refine Or.inl ⟨?_, ?_, ?_⟩); (focus rfl); focus exact xaC) | ((with_reducible refine xwB ?_ ?_); focus exact xaC) | ((with_reducible refine xwC ?_ ?_); focus exact xaC) | ((with_reducible refine xwD ?_ ?_); focus exact xaC) | ((with_reducible refine xwE ?_ ?_); focus exact xaC) | (with_reducible intro hc; (try simp only [capsP, and_true] at hc); (try exact xfC)) | ((fail_if_success (with_reducible first | refine xgon ?_ | intro _)); (conv => whnf); (fail_if_success (fail_if_success (with_reducible first | refine xstp ?_ | refine Both.mk ?_ ?_ | refine xgon ?_ | intro _)))))
      refine ManyK.mk ⟨paC (L.getD k default), by show paO _ _ = _; unfold paO; rw [hx], ?_⟩
      repeat' (first | (fail_if_success (with_reducible refine xstp ?_)); first | ((with_reducible refine And.intro (fun (hb : _ = true) => ?_) (fun (hb : _ = false) => ?_)) <;> replace hb := xnC hb <;> (try first | exact xfC | exact bff hb (by assumption) | exact bff (by assumption) hb)) | (with_reducible refine Both.mk ?_ ?_) | ((with_reducible refine And.intro ?_ ?_); focus exact xoC) | ((with_reducible refine Or.inl ⟨?_, ?_, ?_⟩); (focus rfl); focus exact xaC) | ((with_reducible refine xwB ?_ ?_); focus exact xaC) | ((with_reducible refine xwC ?_ ?_); focus exact xaC) | ((with_reducible refine xwD ?_ ?_); focus exact xaC) | ((with_reducible refine xwE ?_ ?_); focus exact xaC) | (with_reducible intro hc; (try simp only [capsP, and_true] at hc); (try exact xfC)) | ((fail_if_success (with_reducible first | refine xgon ?_ | intro _)); (conv => whnf); (fail_if_success (fail_if_success (with_reducible first | refine xstp ?_ | refine Both.mk ?_ ?_ | refine xgon ?_ | intro _)))))
      · rename_i i hi
        exact absurd hc (hno0 i hi)
      refine ManyK.mk ⟨txD 4 (L.getD k default).id (L.getD k default), by show txG _ _ _ _ = _; unfold txG; rw [hx], ?_⟩
      repeat' (first | (fail_if_success (with_reducible refine xstp ?_)); first | ((with_reducible refine And.intro (fun (hb : _ = true) => ?_) (fun (hb : _ = false) => ?_)) <;> replace hb := xnC hb <;> (try first | exact xfC | exact bff hb (by assumption) | exact bff (by assumption) hb)) | (with_reducible refine Both.mk ?_ ?_) | ((with_reducible refine And.intro ?_ ?_); focus exact xoC) | ((with_reducible refine Or.inl ⟨?_, ?_, ?_⟩); (focus rfl); focus exact xaC) | ((with_reducible refine xwB ?_ ?_); focus exact xaC) | ((with_reducible refine xwC ?_ ?_); focus exact xaC) | ((with_reducible refine xwD ?_ ?_); focus exact xaC) | ((with_reducible refine xwE ?_ ?_); focus exact xaC) | (with_reducible intro hc; (try simp only [capsP, and_true] at hc); (try exact xfC)) | ((fail_if_success (with_reducible first | refine xgon ?_ | intro _)); (conv => whnf); (fail_if_success (fail_if_success (with_reducible first | refine xstp ?_ | refine Both.mk ?_ ?_ | refine xgon ?_ | intro _)))))
      refine ManyK.mk ⟨_, if_pos rfl, ?_⟩
      repeat' (first | (fail_if_success (with_reducible refine xstp ?_)); first | ((with_reducible refine And.intro (fun (hb : _ = true) => ?_) (fun (hb : _ = false) => ?_)) <;> replace hb := xnC hb <;> (try first | exact xfC | exact bff hb (by assumption) | exact bff (by assumption) hb)) | (with_reducible refine Both.mk ?_ ?_) | ((with_reducible refine And.intro ?_ ?_); focus exact xoC) | ((with_reducible refine Or.inl ⟨?_, ?_, ?_⟩); (focus rfl); focus exact xaC) | ((with_reducible refine xwB ?_ ?_); focus exact xaC) | ((with_reducible refine xwC ?_ ?_); focus exact xaC) | ((with_reducible refine xwD ?_ ?_); focus exact xaC) | ((with_reducible refine xwE ?_ ?_); focus exact xaC) | (with_reducible intro hc; (try simp only [capsP, and_true] at hc); (try exact xfC)) | ((fail_if_success (with_reducible first | refine xgon ?_ | intro _)); (conv => whnf); (fail_if_success (fail_if_success (with_reducible first | refine xstp ?_ | refine Both.mk ?_ ?_ | refine xgon ?_ | intro _)))))
      refine ManyK.mk ⟨txD 4 (L.getD k default).id (L.getD k default), by show txG _ _ _ _ = _; unfold txG; rw [hx], ?_⟩
      repeat' (first | (fail_if_success (with_reducible refine xstp ?_)); first | ((with_reducible refine And.intro (fun (hb : _ = true) => ?_) (fun (hb : _ = false) => ?_)) <;> replace hb := xnC hb <;> (try first | exact xfC | exact bff hb (by assumption) | exact bff (by assumption) hb)) | (with_reducible refine Both.mk ?_ ?_) | ((with_reducible refine And.intro ?_ ?_); focus exact xoC) | ((with_reducible refine Or.inl ⟨?_, ?_, ?_⟩); (focus rfl); focus exact xaC) | ((with_reducible refine xwB ?_ ?_); focus exact xaC) | ((with_reducible refine xwC ?_ ?_); focus exact xaC) | ((with_reducible refine xwD ?_ ?_); focus exact xaC) | ((with_reducible refine xwE ?_ ?_); focus exact xaC) | (with_reducible intro hc; (try simp only [capsP, and_true] at hc); (try exact xfC)) | ((fail_if_success (with_reducible first | refine xgon ?_ | intro _)); (conv => whnf); (fail_if_success (fail_if_success (with_reducible first | refine xstp ?_ | refine Both.mk ?_ ?_ | refine xgon ?_ | intro _)))))
      · rw [if_pos (by omega)] at hadd0
        rw [hadd0]
        refine FinK.mk ⟨[0, 1, 2, 3, 4, 1, 2, 3, 4], _, asmA mo J (L.set k (insT (L.getD k default) f)) dn c cd, ⟨J, c, cd, fun j hj => Nat.lt_succ_of_lt (hA.jN j hj), hA.jl, rfl, rfl⟩, ?_⟩
        rw [asmA, idsOf_set hk, List.length_set]
        (repeat' first | refine And.intro ?_ ?_ | exact xeC | fail)
        · exact fun x => le_tx_set rfl hA.nd hk
        · exact fun x => le_pa_set hA.nd hk
        all_goals (exact xmC)
      · rw [if_neg (by omega)] at hadd0
        rw [hadd0]
        rename_i c2
        have e1 : ((k : Int) + 1).toNat = k + 1 := by omega
        simp only [Int.toNat_natCast, e1] at *
        refine cH15qC3 (σ := [.whole 0, .name 7, .whole 2]) (nl := []) (cremember mo 0 (k + (L.length - (k + 1))) c2 dn cd (fr, f.id) (by omega)) ?_
        rintro v h' ⟨c3, rfl, rfl⟩ hcaps
        refine rH15qC2 ?_
        repeat' (first | (fail_if_success (with_reducible refine xstp ?_)); first | ((with_reducible refine And.intro (fun (hb : _ = true) => ?_) (fun (hb : _ = false) => ?_)) <;> replace hb := xnC hb <;> (try first | exact xfC | exact bff hb (by assumption) | exact bff (by assumption) hb)) | (with_reducible refine Both.mk ?_ ?_) | ((with_reducible refine And.intro ?_ ?_); focus exact xoC) | ((with_reducible refine Or.inl ⟨?_, ?_, ?_⟩); (focus rfl); focus exact xaC) | ((with_reducible refine xwB ?_ ?_); focus exact xaC) | ((with_reducible refine xwC ?_ ?_); focus exact xaC) | ((with_reducible refine xwD ?_ ?_); focus exact xaC) | ((with_reducible refine xwE ?_ ?_); focus exact xaC) | (with_reducible intro hc; (try simp only [capsP, and_true] at hc); (try exact xfC)) | ((fail_if_success (with_reducible first | refine xgon ?_ | intro _)); (conv => whnf); (fail_if_success (fail_if_success (with_reducible first | refine xstp ?_ | refine Both.mk ?_ ?_ | refine xgon ?_ | intro _)))))
        refine ManyK.mk ⟨txD 4 (L.getD k default).id (L.getD k default), by show txG _ _ _ _ = _; unfold txG; rw [hx], ?_⟩
        repeat' (first | (fail_if_success (with_reducible refine xstp ?_)); first | ((with_reducible refine And.intro (fun (hb : _ = true) => ?_) (fun (hb : _ = false) => ?_)) <;> replace hb := xnC hb <;> (try first | exact xfC | exact bff hb (by assumption) | exact bff (by assumption) hb)) | (with_reducible refine Both.mk ?_ ?_) | ((with_reducible refine And.intro ?_ ?_); focus exact xoC) | ((with_reducible refine Or.inl ⟨?_, ?_, ?_⟩); (focus rfl); focus exact xaC) | ((with_reducible refine xwB ?_ ?_); focus exact xaC) | ((with_reducible refine xwC ?_ ?_); focus exact xaC) | ((with_reducible refine xwD ?_ ?_); focus exact xaC) | ((with_reducible refine xwE ?_ ?_); focus exact xaC) | (with_reducible intro hc; (try simp only [capsP, and_true] at hc); (try exact xfC)) | ((fail_if_success (with_reducible first | refine xgon ?_ | intro _)); (conv => whnf); (fail_if_success (fail_if_success (with_reducible first | refine xstp ?_ | refine Both.mk ?_ ?_ | refine xgon ?_ | intro _)))))
        have hno1 : ∀ i, i < (L.getD k default).M.length → ((L.getD k default).M.getD i default).2.1 ≠ f.ix := fun i hi e => hno0 i hi (by rw [e])
        have hkd : ∀ i j, i < j → j < (insT (L.getD k default) f).M.length → ((insT (L.getD k default) f).M.getD i default).2.1 ≠ ((insT (L.getD k default) f).M.getD j default).2.1 := key_snoc (s := (L.getD k default).ck) (d := f.d) (hA.key _ htm) hno1
        have hdd : ∀ e ∈ (insT (L.getD k default) f).M, e.2.2.length ≤ 4000 := by
          intro e he
          rcases List.mem_append.1 he with he | he
          · exact hA.dat _ htm e he
          · rw [List.mem_singleton.1 he]; exact hokf.2.2.2
        have hlc := cutL_len hk
        have hci : (idsOf (cutL L k)).length = (cutL L k).length := by simp [idsOf]
        refine LoopK.mk' {i : Nat // (i : Int) ≤ (L.getD k default).ct}
          (fun ⟨i, _⟩ => ⟨[(11, .c (.p 3 (L.getD k default).id 0)), (14, .c (.s (mkS (outS f.ct (insT (L.getD k default) f).M i)))), (152, .c (.i .i64 (L.getD k default).ct)), (153, .c (.i .i64 (i : Nat)))],
            [.one (asm mo 7 8 0 (cutL L k).length c2 (remD dn (fr, f.id)).length c3), .one .no, .one .no, .many (fun x => txG 4 x L x), .many (paO (L.set k (insT (L.getD k default) f))), .one .no, .one .no, .one (opnR 3 (idsOf (cutL L k)) c2), .one (donR (remD dn (fr, f.id)) c3)]⟩) (fun i => (L.getD k default).ct.toNat - i.1)
          ⟨⟨0, by omega⟩, [0, 1, 2, 3, 4, 5, 6, 7, 8], ?_⟩ ?_
        · (repeat' first | refine And.intro ?_ ?_ | exact xeC | fail)
          all_goals first
            | omega
            | exact fun x => mtO_le rfl
            | exact fun x => le_pa_set hA.nd hk
            | (exact xmC)
            | (intro i hi
               rw [hci, hlc] at hi
               have hcu := cut_ids (F := 3) (J := J) (ids := idsOf L) (k := k) (c := c) (by omega) (by omega) i (by omega)
               rw [← ids_cut] at hcu
               exact hcu)
        rintro ⟨i, hi⟩
        have hol := outS_le f.ct hdd i
        have hoz : (mkS (outS f.ct (insT (L.getD k default) f).M i)).size = (outS f.ct (insT (L.getD k default) f).M i).length := rfl
        have hpl := pget_le hdd (i : Nat)
        repeat' (first | (fail_if_success (with_reducible refine xstp ?_)); first | ((with_reducible refine And.intro (fun (hb : _ = true) => ?_) (fun (hb : _ = false) => ?_)) <;> replace hb := xnC hb <;> (try first | exact xfC | exact bff hb (by assumption) | exact bff (by assumption) hb)) | (with_reducible refine Both.mk ?_ ?_) | ((with_reducible refine And.intro ?_ ?_); focus exact xoC) | ((with_reducible refine Or.inl ⟨?_, ?_, ?_⟩); (focus rfl); focus exact xaC) | ((with_reducible refine xwB ?_ ?_); focus exact xaC) | ((with_reducible refine xwC ?_ ?_); focus exact xaC) | ((with_reducible refine xwD ?_ ?_); focus exact xaC) | ((with_reducible refine xwE ?_ ?_); focus exact xaC) | (with_reducible intro hc; (try simp only [capsP, and_true] at hc); (try exact xfC)) | ((fail_if_success (with_reducible first | refine xgon ?_ | intro _)); (conv => whnf); (fail_if_success (fail_if_success (with_reducible first | refine xstp ?_ | refine Both.mk ?_ ?_ | refine xgon ?_ | intro _)))))
        · skip
          refine ManyK.mk ⟨txD 4 (L.getD k default).id (L.getD k default), by show txG _ _ _ _ = _; unfold txG; rw [hx], ?_⟩
          repeat' (first | (fail_if_success (with_reducible refine xstp ?_)); first | ((with_reducible refine And.intro (fun (hb : _ = true) => ?_) (fun (hb : _ = false) => ?_)) <;> replace hb := xnC hb <;> (try first | exact xfC | exact bff hb (by assumption) | exact bff (by assumption) hb)) | (with_reducible refine Both.mk ?_ ?_) | ((with_reducible refine And.intro ?_ ?_); focus exact xoC) | ((with_reducible refine Or.inl ⟨?_, ?_, ?_⟩); (focus rfl); focus exact xaC) | ((with_reducible refine xwB ?_ ?_); focus exact xaC) | ((with_reducible refine xwC ?_ ?_); focus exact xaC) | ((with_reducible refine xwD ?_ ?_); focus exact xaC) | ((with_reducible refine xwE ?_ ?_); focus exact xaC) | (with_reducible intro hc; (try simp only [capsP, and_true] at hc); (try exact xfC)) | ((fail_if_success (with_reducible first | refine xgon ?_ | intro _)); (conv => whnf); (fail_if_success (fail_if_success (with_reducible first | refine xstp ?_ | refine Both.mk ?_ ?_ | refine xgon ?_ | intro _)))))
          refine ManyK.mk ⟨paC (insT (L.getD k default) f), by rw [paO_set hA.nd hk, if_pos rfl], ?_⟩
          repeat' (first | (fail_if_success (with_reducible refine xstp ?_)); first | ((with_reducible refine And.intro (fun (hb : _ = true) => ?_) (fun (hb : _ = false) => ?_)) <;> replace hb := xnC hb <;> (try first | exact xfC | exact bff hb (by assumption) | exact bff (by assumption) hb)) | (with_reducible refine Both.mk ?_ ?_) | ((with_reducible refine And.intro ?_ ?_); focus exact xoC) | ((with_reducible refine Or.inl ⟨?_, ?_, ?_⟩); (focus rfl); focus exact xaC) | ((with_reducible refine xwB ?_ ?_); focus exact xaC) | ((with_reducible refine xwC ?_ ?_); focus exact xaC) | ((with_reducible refine xwD ?_ ?_); focus exact xaC) | ((with_reducible refine xwE ?_ ?_); focus exact xaC) | (with_reducible intro hc; (try simp only [capsP, and_true] at hc); (try exact xfC)) | ((fail_if_success (with_reducible first | refine xgon ?_ | intro _)); (conv => whnf); (fail_if_success (fail_if_success (with_reducible first | refine xstp ?_ | refine Both.mk ?_ ?_ | refine xgon ?_ | intro _)))))
          · rename_i q hq
            have hkq : ((insT (L.getD k default) f).M.getD q default).2.1 = (i : Nat) := Key.i.inj hc
            have hpq := pget_at hkd hq hkq
            have hq4 : (mkS ((insT (L.getD k default) f).M.getD q default).2.2).size ≤ 4000 := hdd _ (by rw [getD_at hq]; exact List.getElem_mem _)
            repeat' (first | (fail_if_success (with_reducible refine xstp ?_)); first | ((with_reducible refine And.intro (fun (hb : _ = true) => ?_) (fun (hb : _ = false) => ?_)) <;> replace hb := xnC hb <;> (try first | exact xfC | exact bff hb (by assumption) | exact bff (by assumption) hb)) | (with_reducible refine Both.mk ?_ ?_) | ((with_reducible refine And.intro ?_ ?_); focus exact xoC) | ((with_reducible refine Or.inl ⟨?_, ?_, ?_⟩); (focus rfl); focus exact xaC) | ((with_reducible refine xwB ?_ ?_); focus exact xaC) | ((with_reducible refine xwC ?_ ?_); focus exact xaC) | ((with_reducible refine xwD ?_ ?_); focus exact xaC) | ((with_reducible refine xwE ?_ ?_); focus exact xaC) | (with_reducible intro hc; (try simp only [capsP, and_true] at hc); (try exact xfC)) | ((fail_if_success (with_reducible first | refine xgon ?_ | intro _)); (conv => whnf); (fail_if_success (fail_if_success (with_reducible first | refine xstp ?_ | refine Both.mk ?_ ?_ | refine xgon ?_ | intro _)))))
            rw [mkS_append]
            refine ⟨⟨i + 1, by omega⟩, [0, 1, 2, 3, 4, 5, 6, 7, 8], by simp only; omega, ?_⟩
            (repeat' first | refine And.intro ?_ ?_ | exact xeC | fail)
            all_goals first
              | (exact xmC)
              | (rw [outS_succ]
                 show mkS _ = mkS (_ ++ (pget (insT (L.getD k default) f).M _).getD [])
                 rw [hpq]
                 rfl)
          · have hpq : pget (insT (L.getD k default) f).M (i : Nat) = none := pget_no (fun q hq e => hc q hq (by rw [e]))
            have he0 : (({ data := #[] } : ByteArray)).size = 0 := rfl
            repeat' (first | (fail_if_success (with_reducible refine xstp ?_)); first | ((with_reducible refine And.intro (fun (hb : _ = true) => ?_) (fun (hb : _ = false) => ?_)) <;> replace hb := xnC hb <;> (try first | exact xfC | exact bff hb (by assumption) | exact bff (by assumption) hb)) | (with_reducible refine Both.mk ?_ ?_) | ((with_reducible refine And.intro ?_ ?_); focus exact xoC) | ((with_reducible refine Or.inl ⟨?_, ?_, ?_⟩); (focus rfl); focus exact xaC) | ((with_reducible refine xwB ?_ ?_); focus exact xaC) | ((with_reducible refine xwC ?_ ?_); focus exact xaC) | ((with_reducible refine xwD ?_ ?_); focus exact xaC) | ((with_reducible refine xwE ?_ ?_); focus exact xaC) | (with_reducible intro hc; (try simp only [capsP, and_true] at hc); (try exact xfC)) | ((fail_if_success (with_reducible first | refine xgon ?_ | intro _)); (conv => whnf); (fail_if_success (fail_if_success (with_reducible first | refine xstp ?_ | refine Both.mk ?_ ?_ | refine xgon ?_ | intro _)))))
            rw [show ({ data := #[] } : ByteArray) = mkS [] from rfl, mkS_append]
            refine ⟨⟨i + 1, by omega⟩, [0, 1, 2, 3, 4, 5, 6, 7, 8], by simp only; omega, ?_⟩
            (repeat' first | refine And.intro ?_ ?_ | exact xeC | fail)
            all_goals first
              | (exact xmC)
              | (rw [outS_succ, hpq]
                 rfl)
        · obtain rfl : i = f.ct.toNat := by omega
          refine FinK.mk ⟨[0, 1, 2, 3, 4, 7, 8, 3, 4], _, asmA mo [] (cutL L k) (remD dn (fr, f.id)) c2 c3, ⟨[], c2, c3, by simp, by simp, rfl, rfl⟩, ?_⟩
          (repeat' first | refine And.intro ?_ ?_ | exact xeC | fail)
          all_goals first
            | exact fun x => le_tx_cut rfl hA.nd hk
            | exact fun x => le_pa_cut hA.nd hk
            | (exact xmC)
            | simp
  · rw [resF_none hf]
    have hadd0 := addA_none (mo := mo) (N := N) (dn := dn) hok hf
    refine rH15qC1 ?_
    repeat' (first | (fail_if_success (with_reducible refine xstp ?_)); first | ((with_reducible refine And.intro (fun (hb : _ = true) => ?_) (fun (hb : _ = false) => ?_)) <;> replace hb := xnC hb <;> (try first | exact xfC | exact bff hb (by assumption) | exact bff (by assumption) hb)) | (with_reducible refine Both.mk ?_ ?_) | ((with_reducible refine And.intro ?_ ?_); focus exact xoC) | ((with_reducible refine Or.inl ⟨?_, ?_, ?_⟩); (focus rfl); focus exact xaC) | ((with_reducible refine xwB ?_ ?_); focus exact xaC) | ((with_reducible refine xwC ?_ ?_); focus exact xaC) | ((with_reducible refine xwD ?_ ?_); focus exact xaC) | ((with_reducible refine xwE ?_ ?_); focus exact xaC) | (with_reducible intro hc; (try simp only [capsP, and_true] at hc); (try exact xfC)) | ((fail_if_success (with_reducible first | refine xgon ?_ | intro _)); (conv => whnf); (fail_if_success (fail_if_success (with_reducible first | refine xstp ?_ | refine Both.mk ?_ ?_ | refine xgon ?_ | intro _)))))
    refine cH15qC3 (σ := [.whole 0, .name 1, .whole 2]) (nl := []) (ccompleted mo J.length L.length c dn cd (fr, f.id) (by omega)) ?_
    rintro v h' ⟨rfl, rfl⟩ hcaps
    refine rH15qC2 ?_
    repeat' (first | (fail_if_success (with_reducible refine xstp ?_)); first | ((with_reducible refine And.intro (fun (hb : _ = true) => ?_) (fun (hb : _ = false) => ?_)) <;> replace hb := xnC hb <;> (try first | exact xfC | exact bff hb (by assumption) | exact bff (by assumption) hb)) | (with_reducible refine Both.mk ?_ ?_) | ((with_reducible refine And.intro ?_ ?_); focus exact xoC) | ((with_reducible refine Or.inl ⟨?_, ?_, ?_⟩); (focus rfl); focus exact xaC) | ((with_reducible refine xwB ?_ ?_); focus exact xaC) | ((with_reducible refine xwC ?_ ?_); focus exact xaC) | ((with_reducible refine xwD ?_ ?_); focus exact xaC) | ((with_reducible refine xwE ?_ ?_); focus exact xaC) | (with_reducible intro hc; (try simp only [capsP, and_true] at hc); (try exact xfC)) | ((fail_if_success (with_reducible first | refine xgon ?_ | intro _)); (conv => whnf); (fail_if_success (fail_if_success (with_reducible first | refine xstp ?_ | refine Both.mk ?_ ?_ | refine xgon ?_ | intro _)))))
    · skip
      have hadd : addA mo N L dn fr f = (L, dn, [], false, 0) := by rw [hadd0, if_pos hb]
      rw [hadd]
      refine FinK.mk ⟨[0, 1, 2, 3, 4, 1, 2, 3, 4], _, _, ⟨J, c, cd, fun j hj => Nat.lt_succ_of_lt (hA.jN j hj), hA.jl, rfl, rfl⟩, ?_⟩
      (repeat' first | refine And.intro ?_ ?_ | exact xeC | fail)
      all_goals (exact xmC)
    all_goals rw [if_neg (by assumption)] at hadd0
    · rename_i c2 _ _
      rw [if_pos (by omega), if_pos (by omega)] at hadd0
      rw [hadd0]
      have h0L : 0 < L.length := by omega
      have eids : idsOf L = (L.getD 0 default).id :: idsOf (L.drop 1) := by
        cases L with
        | nil => simp at h0L
        | cons a l => rfl
      have huN1 : ∀ u ∈ L.drop 1, u.id ≠ N := fun u hu => huN u (List.mem_of_mem_drop hu)
      refine FinK.mk ⟨[0, 1, 2, 3, 4, 10, 2, .adopt 3 N 8, .adopt 4 N 7], _, asmA mo [(L.getD 0 default).id] (L.drop 1 ++ [newT N fr f]) dn (c2 - 1) cd, ⟨[(L.getD 0 default).id], c2 - 1, cd, fun j hj => by
        rw [List.mem_singleton.1 hj]
        have := hA.idN (L.getD 0 default) (by rw [getD_at h0L]; exact List.getElem_mem _)
        omega, by simp, rfl, rfl⟩, ?_⟩
      (repeat' first | refine And.intro ?_ ?_ | exact xeC | fail)
      all_goals first
        | (simp; omega)
        | (simp [idsOf]; omega)
        | (intro i hi
           have had := adopt_ids (σ := [0, 1, 2, 3, 4, 10, 2, .adopt 3 N 8, .adopt 4 N 7]) (N := N) (J := J) (ids := idsOf L) (ids' := [(L.getD 0 default).id] ++ idsOf (L.drop 1 ++ [newT N fr f])) (fun x => by simp [key]) hidN (by rw [eids]; simp [idsOf, newT]) (chunkOf 1 [.p 8 0 0]) rfl i hi
           rw [hil] at had
           exact had)
        | (intro x hx
           show Ck.leK _ (txG 4 x L x) (Ck.rk _ _ (txG 8 x (L.drop 1 ++ [newT N fr f]) x)) True
           rw [txG_ne (by exact hx)]
           exact le_tx_cut (k := 0) (by simp [key, hx]) hA.nd h0L)
        | (intro x hx
           show Ck.leK _ (paO L x) (Ck.rk _ _ (paO (L.drop 1 ++ [newT N fr f]) x)) True
           rw [paO_ne (by exact hx)]
           exact le_pa_drop hA.nd h0L)
        | (exact xmC)
        | skip
      refine le_tx_new huN1 (by simp [key]) rfl ?_
      (repeat' first | refine And.intro ?_ ?_ | exact xeC | fail)
      all_goals first
        | (intro x hx
           show Ck.leK _ (paO L x) (Ck.rk _ _ (paO (L.drop 1 ++ [newT N fr f]) x)) True
           rw [paO_ne (by exact hx)]
           exact le_pa_drop hA.nd h0L)
        | skip
      refine le_pa_new huN1 rfl rfl ?_
      (repeat' first | refine And.intro ?_ ?_ | exact xeC | fail)
      all_goals (exact xmC)
    · rename_i c2 _ _
      rw [if_pos (by omega), if_neg (by omega)] at hadd0
      rw [hadd0]
      refine FinK.mk ⟨[0, 1, 2, 3, 4, 10, 2, .adopt 3 N 8, .adopt 4 N 7], _, asmA mo [] (L ++ [newT N fr f]) dn c2 cd, ⟨[], c2, cd, by simp, by simp, rfl, rfl⟩, ?_⟩
      (repeat' first | refine And.intro ?_ ?_ | exact xeC | fail)
      all_goals first
        | (simp; done)
        | (simp [idsOf]; done)
        | (intro i hi
           have had := adopt_ids (σ := [0, 1, 2, 3, 4, 10, 2, .adopt 3 N 8, .adopt 4 N 7]) (N := N) (J := J) (ids := idsOf L) (ids' := [] ++ idsOf (L ++ [newT N fr f])) (fun x => by simp [key]) hidN (by simp [idsOf, newT]) (chunkOf 1 [.p 8 0 0]) rfl i hi
           rw [hil] at had
           exact had)
        | (intro x hx
           show Ck.leK _ (txG 4 x L x) (Ck.rk _ _ (txG 8 x (L ++ [newT N fr f]) x)) True
           rw [txG_ne (by exact hx)]
           exact mtO_le (by simp [key, hx]))
        | (intro x hx
           show Ck.leK _ (paO L x) (Ck.rk _ _ (paO (L ++ [newT N fr f]) x)) True
           rw [paO_ne (by exact hx)]
           exact winO_le)
        | (exact xmC)
        | skip
      refine le_tx_new huN (by simp [key]) rfl ?_
      (repeat' first | refine And.intro ?_ ?_ | exact xeC | fail)
      · intro x hx
        show Ck.leK _ (paO L x) (Ck.rk _ _ (paO (L ++ [newT N fr f]) x)) True
        rw [paO_ne (by exact hx)]
        exact winO_le
      refine le_pa_new huN rfl rfl ?_
      (repeat' first | refine And.intro ?_ ?_ | exact xeC | fail)
      all_goals (exact xmC)
    · rw [if_neg (by omega)] at hadd0
      rw [hadd0]
      rename_i c2
      have e0 : ((L.length : Int)).toNat + (L.length + 1 - ((L.length : Int) + 1).toNat) = L.length := by omega
      rw [e0]
      refine cH15qC3 (σ := [.whole 0, .name 11, .whole 2]) (nl := []) (cremember mo 0 L.length c2 dn cd (fr, f.id) (by omega)) ?_
      rintro v h' ⟨c3, rfl, rfl⟩ hcaps
      refine rH15qC2 ?_
      repeat' (first | (fail_if_success (with_reducible refine xstp ?_)); first | ((with_reducible refine And.intro (fun (hb : _ = true) => ?_) (fun (hb : _ = false) => ?_)) <;> replace hb := xnC hb <;> (try first | exact xfC | exact bff hb (by assumption) | exact bff (by assumption) hb)) | (with_reducible refine Both.mk ?_ ?_) | ((with_reducible refine And.intro ?_ ?_); focus exact xoC) | ((with_reducible refine Or.inl ⟨?_, ?_, ?_⟩); (focus rfl); focus exact xaC) | ((with_reducible refine xwB ?_ ?_); focus exact xaC) | ((with_reducible refine xwC ?_ ?_); focus exact xaC) | ((with_reducible refine xwD ?_ ?_); focus exact xaC) | ((with_reducible refine xwE ?_ ?_); focus exact xaC) | (with_reducible intro hc; (try simp only [capsP, and_true] at hc); (try exact xfC)) | ((fail_if_success (with_reducible first | refine xgon ?_ | intro _)); (conv => whnf); (fail_if_success (fail_if_success (with_reducible first | refine xstp ?_ | refine Both.mk ?_ ?_ | refine xgon ?_ | intro _)))))
      have hct1 : f.ct = 1 := by omega
      have hix : f.ix = 0 := by omega
      have hml : ∀ i, (mkS (if i = 0 then [] else f.d)).size ≤ 4000 := by
        intro i
        split
        · exact Nat.zero_le _
        · exact hokf.2.2.2
      refine LoopK.mk' {i : Nat // (i : Int) ≤ f.ct}
        (fun ⟨i, _⟩ => ⟨[(11, .c (.p 8 0 0)), (14, .c (.s (mkS (if i = 0 then [] else f.d)))), (152, .c (.i .i64 f.ct)), (153, .c (.i .i64 (i : Nat)))],
          [.one (asm mo 11 12 0 L.length c2 (remD dn (fr, f.id)).length c3), .one .no, .one .no, .many (fun x => txG 4 x L x), .many (paO L), .one .no, .one .no, .one (.map true false 1 1 fun _ => (0, Key.i f.ix, E.c (C.s (mkS f.d)))), .one (.cells true [.i .i64 fr, .i .i64 f.id, .i .i64 f.ct, .mp 7 0]), .one .no, .one .no, .one (opnR 3 (idsOf L) c2), .one (donR (remD dn (fr, f.id)) c3)]⟩) (fun i => f.ct.toNat - i.1)
        ⟨⟨0, by omega⟩, [0, 1, 2, 3, 4, 5, 6, 7, 8, 9, 10, 11, 12], ?_⟩ ?_
      · (repeat' first | refine And.intro ?_ ?_ | exact xeC | fail)
        all_goals first
          | omega
          | (exact xmC)
          | (intro i hi
             have hi : i < L.length := by omega
             simp [appF, hi, rowOf, encId, List.getD, List.getElem?_append_right]
             rfl)
          | (intro i hi
             obtain rfl : i = 0 := by omega
             rfl)
          | skip
      rintro ⟨i, hi⟩
      have hoz := hml i
      repeat' (first | (fail_if_success (with_reducible refine xstp ?_)); first | ((with_reducible refine And.intro (fun (hb : _ = true) => ?_) (fun (hb : _ = false) => ?_)) <;> replace hb := xnC hb <;> (try first | exact xfC | exact bff hb (by assumption) | exact bff (by assumption) hb)) | (with_reducible refine Both.mk ?_ ?_) | ((with_reducible refine And.intro ?_ ?_); focus exact xoC) | ((with_reducible refine Or.inl ⟨?_, ?_, ?_⟩); (focus rfl); focus exact xaC) | ((with_reducible refine xwB ?_ ?_); focus exact xaC) | ((with_reducible refine xwC ?_ ?_); focus exact xaC) | ((with_reducible refine xwD ?_ ?_); focus exact xaC) | ((with_reducible refine xwE ?_ ?_); focus exact xaC) | (with_reducible intro hc; (try simp only [capsP, and_true] at hc); (try exact xfC)) | ((fail_if_success (with_reducible first | refine xgon ?_ | intro _)); (conv => whnf); (fail_if_success (fail_if_success (with_reducible first | refine xstp ?_ | refine Both.mk ?_ ?_ | refine xgon ?_ | intro _)))))
      · have hi0 : i = 0 := by omega
        subst hi0
        rename_i q hq
        repeat' (first | (fail_if_success (with_reducible refine xstp ?_)); first | ((with_reducible refine And.intro (fun (hb : _ = true) => ?_) (fun (hb : _ = false) => ?_)) <;> replace hb := xnC hb <;> (try first | exact xfC | exact bff hb (by assumption) | exact bff (by assumption) hb)) | (with_reducible refine Both.mk ?_ ?_) | ((with_reducible refine And.intro ?_ ?_); focus exact xoC) | ((with_reducible refine Or.inl ⟨?_, ?_, ?_⟩); (focus rfl); focus exact xaC) | ((with_reducible refine xwB ?_ ?_); focus exact xaC) | ((with_reducible refine xwC ?_ ?_); focus exact xaC) | ((with_reducible refine xwD ?_ ?_); focus exact xaC) | ((with_reducible refine xwE ?_ ?_); focus exact xaC) | (with_reducible intro hc; (try simp only [capsP, and_true] at hc); (try exact xfC)) | ((fail_if_success (with_reducible first | refine xgon ?_ | intro _)); (conv => whnf); (fail_if_success (fail_if_success (with_reducible first | refine xstp ?_ | refine Both.mk ?_ ?_ | refine xgon ?_ | intro _)))))
        rw [mkS_append]
        refine ⟨⟨1, by omega⟩, [0, 1, 2, 3, 4, 5, 6, 7, 8, 9, 10, 11, 12], by simp only; omega, ?_⟩
        (repeat' first | refine And.intro ?_ ?_ | exact xeC | fail)
        all_goals (exact xmC)
      · exfalso
        exact hc 0 (by omega) (by show Key.i f.ix = _; rw [hix, show i = 0 by omega]; rfl)
      · have hi1 : i = 1 := by omega
        subst hi1
        refine FinK.mk ⟨[0, 1, 2, 3, 4, 11, 12, 3, 4], _, asmA mo [] L (remD dn (fr, f.id)) c2 c3, ⟨[], c2, c3, by simp, by simp, rfl, rfl⟩, ?_⟩
        (repeat' first | refine And.intro ?_ ?_ | exact xeC | fail)
        all_goals first | (exact xmC) | simp
end Go.Proofs.Ytgaodeffbgppmaa
