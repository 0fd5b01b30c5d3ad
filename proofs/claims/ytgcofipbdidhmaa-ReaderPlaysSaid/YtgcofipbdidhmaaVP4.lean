/- Part 4 of the texts that a walk of this program rests on: an abstract machine, its soundness, contracts of functions. No statement of the seat is proved in this file. -/
import Derived.Test.YtgcofipbdidhmaaVP3
namespace Go.Proofs.Ytgcofipbdidhmaa
open Go.X
set_option linter.unusedSimpArgs false
set_option linter.unusedVariables false

def okN (n : Int) : Prop := 1 ≤ n ∧ n ≤ 1099511627776
instance (n : Int) : Decidable (okN n) := by unfold okN; infer_instance
def checkP (x : Pkt) : Int :=
  if x.k = 1 then (if okN x.q ∧ 0 ≤ x.at' ∧ x.at' ≤ 1099511627776 ∧ x.p.size ≤ 2000 then 0 else 4)
  else if x.k = 4 then (if (x.q = 0 ∨ x.q = 1) ∧ okN x.f ∧ x.f - 1 ≤ x.la ∧ x.la ≤ 1099511627776 then 0 else 4)
  else if x.k = 2 then (if okN x.f ∧ x.f - 1 ≤ x.la ∧ x.la ≤ 1099511627776 then 0 else 4)
  else 10

set_option maxRecDepth 10000 in
set_option maxHeartbeats 4000000 in
theorem ccheck (x : Pkt) (n c : Nat) (xm : Nat := 0) : Ctr Try.prog 32 [.a (encP (.sl 0 xm 1 0 n c) x)] [.one .no] fun v h => v = .c (.i .i64 (checkP x)) ∧ h = [.one .no] := by
  refine Ctr.mk' tbv mixed Try.func32 rfl rfl rfl (fun _ _ => by kernel_rfl) (by kernel_rfl) (by rfl) (by rfl) (by (repeat' first | refine And.intro ?_ ?_ | exact xeC | fail)) ?_
  repeat' (first | (fail_if_success (with_reducible refine xstp ?_)); first | ((with_reducible refine And.intro (fun (hb : _ = true) => ?_) (fun (hb : _ = false) => ?_)) <;> replace hb := xnC hb <;> (try first | exact xfC | exact bff hb (by assumption) | exact bff (by assumption) hb)) | (with_reducible intro hc; (try simp only [capsP, and_true] at hc); (try exact xfC)) | ((fail_if_success (with_reducible first | refine xgon ?_ | intro _)); (conv => whnf); (fail_if_success (fail_if_success (with_reducible first | refine xstp ?_ | refine xgon ?_ | intro _)))))
  · refine xcal (σ := []) (nl := []) (cnumber x.q) ?_
    rintro v h' ⟨rfl, rfl⟩ hcaps
    refine xret ?_
    repeat' (first | (fail_if_success (with_reducible refine xstp ?_)); first | ((with_reducible refine And.intro (fun (hb : _ = true) => ?_) (fun (hb : _ = false) => ?_)) <;> replace hb := xnC hb <;> (try first | exact xfC | exact bff hb (by assumption) | exact bff (by assumption) hb)) | ((fail_if_success (with_reducible first | refine xgon ?_ | intro _)); (conv => whnf); (fail_if_success (fail_if_success (with_reducible first | refine xstp ?_ | refine xgon ?_ | intro _)))))
    all_goals (
      refine FinK.mk ⟨[0], _, _, ⟨rfl, rfl⟩, ?_⟩; (repeat' first | refine And.intro ?_ ?_ | exact xeC | fail)
      all_goals (unfold checkP okN; repeat' split)
      all_goals omega)
  · refine xcal (σ := []) (nl := []) (cnumber x.f) ?_
    rintro v h' ⟨rfl, rfl⟩ hcaps
    refine xret ?_
    repeat' (first | (fail_if_success (with_reducible refine xstp ?_)); first | ((with_reducible refine And.intro (fun (hb : _ = true) => ?_) (fun (hb : _ = false) => ?_)) <;> replace hb := xnC hb <;> (try first | exact xfC | exact bff hb (by assumption) | exact bff (by assumption) hb)) | ((with_reducible refine And.intro ?_ ?_); focus exact xoC) | ((fail_if_success (with_reducible first | refine xgon ?_ | intro _)); (conv => whnf); (fail_if_success (fail_if_success (with_reducible first | refine xstp ?_ | refine xgon ?_ | intro _)))))
    all_goals (
      refine FinK.mk ⟨[0], _, _, ⟨rfl, rfl⟩, ?_⟩; (repeat' first | refine And.intro ?_ ?_ | exact xeC | fail)
      all_goals (unfold checkP okN; repeat' split)
      all_goals omega)
  · refine xcal (σ := []) (nl := []) (cnumber x.f) ?_
    rintro v h' ⟨rfl, rfl⟩ hcaps
    refine xret ?_
    repeat' (first | (fail_if_success (with_reducible refine xstp ?_)); first | ((with_reducible refine And.intro (fun (hb : _ = true) => ?_) (fun (hb : _ = false) => ?_)) <;> replace hb := xnC hb <;> (try first | exact xfC | exact bff hb (by assumption) | exact bff (by assumption) hb)) | ((with_reducible refine And.intro ?_ ?_); focus exact xoC) | ((fail_if_success (with_reducible first | refine xgon ?_ | intro _)); (conv => whnf); (fail_if_success (fail_if_success (with_reducible first | refine xstp ?_ | refine xgon ?_ | intro _)))))
    all_goals (
      refine FinK.mk ⟨[0], _, _, ⟨rfl, rfl⟩, ?_⟩; (repeat' first | refine And.intro ?_ ?_ | exact xeC | fail)
      all_goals (unfold checkP okN; repeat' split)
      all_goals omega)
  · refine FinK.mk ⟨[0], _, _, ⟨rfl, rfl⟩, ?_⟩; (repeat' first | refine And.intro ?_ ?_ | exact xeC | fail)
    all_goals (unfold checkP okN; repeat' split)
    all_goals omega
  · refine xcal (σ := []) (nl := []) (cnumber x.f) ?_
    rintro v h' ⟨rfl, rfl⟩ hcaps
    refine xret ?_
    repeat' (first | (fail_if_success (with_reducible refine xstp ?_)); first | ((with_reducible refine And.intro (fun (hb : _ = true) => ?_) (fun (hb : _ = false) => ?_)) <;> replace hb := xnC hb <;> (try first | exact xfC | exact bff hb (by assumption) | exact bff (by assumption) hb)) | ((with_reducible refine And.intro ?_ ?_); focus exact xoC) | ((fail_if_success (with_reducible first | refine xgon ?_ | intro _)); (conv => whnf); (fail_if_success (fail_if_success (with_reducible first | refine xstp ?_ | refine xgon ?_ | intro _)))))
    all_goals (
      refine FinK.mk ⟨[0], _, _, ⟨rfl, rfl⟩, ?_⟩; (repeat' first | refine And.intro ?_ ?_ | exact xeC | fail)
      all_goals (unfold checkP okN; repeat' split)
      all_goals omega)
  · refine FinK.mk ⟨[0], _, _, ⟨rfl, rfl⟩, ?_⟩; (repeat' first | refine And.intro ?_ ?_ | exact xeC | fail)
    all_goals (unfold checkP okN; repeat' split)
    all_goals omega

def smpOf (x : Pkt) : Smp := ⟨x.w, x.q, x.at', x.p⟩
def openB (r : Rs) (n : Int) : Prop := r.ex ≤ n ∧ n - r.ex < 256 ∧ ∀ i, i < r.W.length → (r.W.getD i default).2.1 ≠ n
instance (r : Rs) (n : Int) : Decidable (openB r n) := by unfold openB; infer_instance
def putW (n : Int) (s : Slt) (r : Rs) : Rs := ⟨r.l, r.ls, r.ex, r.W ++ [(r.ck, n, s)], r.ck + 1⟩
theorem lap_len (w ex e : Int) : (lapL w ex e).length ≤ 256 := by
  unfold lapL
  simp only [List.length_map, List.length_range]
  omega
theorem encW_put (W : Win) (ck : Nat) (n : Int) (s : Slt) (i : Nat) : (if i = W.length then (ck, Key.i n, E.a (.i .i64 s.st :: encS s.x)) else encW W i) = encW (W ++ [(ck, n, s)]) i := by
  unfold encW
  by_cases h : i = W.length
  · subst h
    rw [if_pos rfl]
    simp [List.getD]
  · rw [if_neg h]
    rcases Nat.lt_or_gt_of_ne h with h | h
    · simp [List.getD, List.getElem?_append_left h]
    · have e1 : (W ++ [(ck, n, s)])[i]? = none := List.getElem?_eq_none (by simp; omega)
      have e2 : W[i]? = none := List.getElem?_eq_none (by omega)
      simp [List.getD, e1, e2]
theorem put_ok {r : Rs} {n : Int} {s : Slt} (hW : WOk r.W r.ex) (h : openB r n) (hn : n ≤ 1099511627776) : WOk (putW n s r).W (putW n s r).ex where
  nd := by
    simp only [putW, List.map_append, List.map_cons, List.map_nil]
    rw [List.nodup_append]
    refine ⟨hW.nd, by simp, ?_⟩
    intro a ha b hb
    simp at hb
    subst hb
    obtain ⟨e, he, rfl⟩ := List.mem_map.1 ha
    obtain ⟨i, hi, rfl⟩ := List.mem_iff_getElem.1 he
    have := h.2.2 i hi
    rwa [getD_at hi] at this
  rg := fun e he => by
    rcases List.mem_append.1 he with he | he
    · exact hW.rg e he
    · simp at he
      subst he
      show r.ex ≤ n ∧ n < r.ex + 256
      have h1 := h.1
      have h2 := h.2.1
      omega
  mx := fun e he => by
    rcases List.mem_append.1 he with he | he
    · exact hW.mx e he
    · simp at he
      subst he
      exact hn
def dataF (q : Qos) (w : Int) (rel : Bool) (x : Pkt) (r : Rs) : Rs :=
  if x.q < r.ex then r
  else if rel = false then ⟨newS q r.l (smpOf x), dlvL q r.l (r.ls ++ lapL w r.ex x.q) (smpOf x), x.q + 1, r.W, r.ck⟩
  else if openB r x.q then mv q w (r.W.length + 1) (putW x.q ⟨1, smpOf x⟩ r)
  else r

theorem rH19x0 {σ : List Sg} {H h' : List Fam} {v : T} {K : T → List Fam → Prop} {H' : List Fam} {v' : T} {N : Nat} (hk : K v' H') (hN : H.length = N := by (try simp only [↓List.length_cons, ↓List.length_nil, Nat.reduceAdd]) <;> rfl) (h : givesF σ N H σ h' = some H' := by (try simp (maxSteps := 1000000) only [givesF, setF, updF, Fam.zeroth, Fam.rk, Ck.rk, C.rk, E.rk, T.rk, key, List.map_cons, List.map_nil, List.cons_append, List.nil_append, List.length_cons, List.length_nil, Option.map_some, Option.bind_some, Nat.reduceAdd, Nat.zero_add, Nat.add_zero, Nat.add_sub_cancel_left, Int.toNat_natCast, reps, List.all_cons, List.all_nil, C.flat, List.append_eq, Bool.not_true, Bool.and_true, Bool.or_false, Bool.or_self, Bool.not_false, List.append_nil, Bool.and_self, encP]) <;> rfl) (hv : v.rk σ N = v' := by (try simp only [givesF, setF, updF, Fam.zeroth, Fam.rk, Ck.rk, C.rk, E.rk, T.rk, key, List.map_cons, List.map_nil, List.cons_append, List.nil_append, List.length_cons, List.length_nil, Option.map_some, Option.bind_some, Nat.reduceAdd, Nat.zero_add, Nat.add_zero, Nat.add_sub_cancel_left, Int.toNat_natCast, reps, List.all_cons, List.all_nil, C.flat, List.append_eq, Bool.not_true, Bool.and_true, Bool.or_false, Bool.or_self, Bool.not_false, List.append_nil, Bool.and_self, encP]) <;> rfl) : RetG σ H h' v K := ret_mk3 hN h hv hk
set_option maxRecDepth 10000 in
set_option maxHeartbeats 4000000 in
theorem cdata (id : Int) (q : Qos) (w nd : Int) (rel : Bool) (r : Rs) (c cl n cm : Nat) (x : Pkt) (hW : WOk r.W r.ex) (hex : 1 ≤ r.ex ∧ r.ex ≤ 1099511627777) (hl : r.l.length + r.W.length ≤ 800000) (hls : r.ls.length + 2 * r.W.length ≤ 700000) (hx : okN x.q) (xm : Nat := 0) :
    Ctr Try.prog 33 [.c (.p 0 0 0), .c (.p 5 0 0), .a (encP (.sl 7 xm 1 0 n cm) x)] [.one (rdr 1 2 3 id q r.ls.length cl), .one (hist 4 q r.l.length c), .one .no, .one (lss true r.ls cl), .one (smps true r.l c), .one (mtcf 6 w nd r.ex rel), .one (wnd r.W r.ck), .one .no]
      fun v h => v = .t [] ∧ ∃ c' cl', h = [.one (rdr 1 2 8 id q (dataF q w rel x r).ls.length cl'), .one (hist 9 q (dataF q w rel x r).l.length c'), .one .no, .one .no, .one .no, .one (mtcf 6 w nd (dataF q w rel x r).ex rel), .one (wnd (dataF q w rel x r).W (dataF q w rel x r).ck), .one .no,
        .one (lss true (dataF q w rel x r).ls cl'), .one (smps true (dataF q w rel x r).l c')] := by
  have hx := hx
  unfold okN at hx
  refine Ctr.mk' tbv mixed Try.func33 rfl rfl rfl (fun _ _ => by kernel_rfl) (by kernel_rfl) (by rfl) (by rfl) (by (repeat' first | refine And.intro ?_ ?_ | exact xeC | fail)) ?_
  generalize hR : dataF q w rel x r = R
  unfold dataF at hR
  repeat' (first | (fail_if_success (with_reducible refine xstp ?_)); first | (with_reducible intro hc; (try simp only [capsP, and_true] at hc); (try exact xfC)) | ((fail_if_success (with_reducible first | refine xgon ?_ | intro _)); (conv => whnf); (fail_if_success (fail_if_success (with_reducible first | refine xstp ?_ | refine xgon ?_ | intro _)))))
  refine xcal (σ := [.whole 5, .name 6]) (nl := []) (cpast w nd r.ex rel x.q) ?_
  rintro v h' ⟨rfl, rfl⟩ hcaps
  refine rH19x0 ?_
  have hll : (r.ls ++ lapL w r.ex x.q).length ≤ 900000 := by
    have := lap_len w r.ex x.q
    simp only [List.length_append]; omega
  repeat' (first | (fail_if_success (with_reducible refine xstp ?_)); first | ((with_reducible refine And.intro (fun (hb : _ = true) => ?_) (fun (hb : _ = false) => ?_)) <;> replace hb := xnC hb <;> (try first | exact xfC | exact bff hb (by assumption) | exact bff (by assumption) hb)) | ((fail_if_success (with_reducible first | refine xgon ?_ | intro _)); (conv => whnf); (fail_if_success (fail_if_success (with_reducible first | refine xstp ?_ | refine xgon ?_ | intro _)))))
  · rw [if_pos hb] at hR
    subst hR
    refine FinK.mk ⟨[0, 1, 2, 3, 4, 5, 6, 7, 3, 4], _, _, ⟨rfl, c, cl, rfl⟩, ?_⟩
    (repeat' first | refine And.intro ?_ ?_ | exact xeC | fail)
  · rename_i hb0
    rw [if_neg (by omega), if_pos hb] at hR
    refine xcal (σ := [.whole 0, .name 1, .name 2, .whole 3, .whole 5, .name 6]) (nl := []) (clapse id q w nd r.ex rel r.ls cl x.q hex (by omega) (by omega)) ?_
    rintro v h' ⟨rfl, c2, rfl⟩ hcaps
    refine rH19x0 ?_
    repeat' (first | (fail_if_success (with_reducible refine xstp ?_)); first | ((fail_if_success (with_reducible first | refine xgon ?_ | intro _)); (conv => whnf); (fail_if_success (fail_if_success (with_reducible first | refine xstp ?_ | refine xgon ?_ | intro _)))))
    refine xcal (σ := [.whole 0, .whole 1, .name 2, .whole 10, .whole 4]) (nl := []) (cdeliver id q r.l c (r.ls ++ lapL w r.ex x.q) c2 (smpOf x) (by omega) hll) ?_
    rintro v h' ⟨rfl, c3, c4, rfl⟩ hcaps
    refine ret_mk3 (by (try simp only [↓List.length_cons, ↓List.length_nil, Nat.reduceAdd]); rfl) (by (try simp (maxSteps := 1000000) only [givesF, setF, updF, Fam.zeroth, Fam.rk, Ck.rk, C.rk, E.rk, T.rk, key, List.map_cons, List.map_nil, List.cons_append, List.nil_append, List.length_cons, List.length_nil, Option.map_some, Option.bind_some, Nat.reduceAdd, Nat.zero_add, Nat.add_zero, Nat.add_sub_cancel_left, Int.toNat_natCast, reps, List.all_cons, List.all_nil, C.flat, List.append_eq, Bool.not_true, Bool.and_true, Bool.or_false, Bool.or_self, Bool.not_false, List.append_nil, Bool.and_self, encP, encS, smpOf]); rfl) (by (try simp only [givesF, setF, updF, Fam.zeroth, Fam.rk, Ck.rk, C.rk, E.rk, T.rk, key, List.map_cons, List.map_nil, List.cons_append, List.nil_append, List.length_cons, List.length_nil, Option.map_some, Option.bind_some, Nat.reduceAdd, Nat.zero_add, Nat.add_zero, Nat.add_sub_cancel_left, Int.toNat_natCast, reps, List.all_cons, List.all_nil, C.flat, List.append_eq, Bool.not_true, Bool.and_true, Bool.or_false, Bool.or_self, Bool.not_false, List.append_nil, Bool.and_self, encP, encS, smpOf]); rfl) ?_
    repeat' (first | (fail_if_success (with_reducible refine xstp ?_)); first | ((with_reducible refine And.intro ?_ ?_); focus exact xoC) | ((fail_if_success (with_reducible first | refine xgon ?_ | intro _)); (conv => whnf); (fail_if_success (fail_if_success (with_reducible first | refine xstp ?_ | refine xgon ?_ | intro _)))))
    refine xcal (σ := [.whole 5, .name 6]) (nl := []) (cpass w nd r.ex rel (x.q + 1)) ?_
    rintro v h' ⟨rfl, rfl⟩ hcaps
    refine rH19x0 ?_
    repeat' (first | (fail_if_success (with_reducible refine xstp ?_)); first | ((fail_if_success (with_reducible first | refine xgon ?_ | intro _)); (conv => whnf); (fail_if_success (fail_if_success (with_reducible first | refine xstp ?_ | refine xgon ?_ | intro _)))))
    subst hR
    refine FinK.mk ⟨[0, 1, 2, 3, 4, 5, 6, 7, 11, 12], _, _, ⟨rfl, c3, c4, rfl⟩, ?_⟩
    (repeat' first | refine And.intro ?_ ?_ | exact xeC | fail)
  · rename_i hb0
    rw [if_neg (by omega), if_neg (by rw [hb]; simp)] at hR
    refine xcal (σ := [.whole 5, .whole 6]) (nl := []) (copen w nd r.ex rel r.W r.ck x.q hex hx) ?_
    rintro v h' ⟨rfl, rfl⟩ hcaps
    refine rH19x0 ?_
    repeat' (first | (fail_if_success (with_reducible refine xstp ?_)); first | ((with_reducible refine And.intro (fun (hb : _ = true) => ?_) (fun (hb : _ = false) => ?_)) <;> replace hb := xnC hb <;> (try first | exact xfC | exact bff hb (by assumption) | exact bff (by assumption) hb)) | (with_reducible refine Both.mk ?_ ?_) | ((with_reducible refine And.intro ?_ ?_); focus exact xoC) | (with_reducible intro hc; (try simp only [capsP, and_true] at hc); (try exact xfC)) | ((fail_if_success (with_reducible first | refine xgon ?_ | intro _)); (conv => whnf); (fail_if_success (fail_if_success (with_reducible first | refine xstp ?_ | refine Both.mk ?_ ?_ | refine xgon ?_ | intro _)))))
    · rename_i i hi
      exact (hb.2.2 i hi (Key.i.inj hc)).elim
    · have hop := hb
      rw [if_pos (show openB r x.q from hop)] at hR
      refine xcal (σ := [.whole 0, .whole 1, .name 2, .whole 3, .whole 4, .whole 5, .whole 6]) (nl := []) (cmove id q w nd rel (putW x.q ⟨1, smpOf x⟩ r) c cl (put_ok hW hop hx.2) hex (by simp [putW]; omega) (by simp [putW]; omega)) ?_ (hle := by (repeat' first | refine And.intro ?_ ?_ | exact xeC | fail) <;> first | (simp [putW]; done) | exact fun i _ => encW_put r.W r.ck x.q ⟨1, smpOf x⟩ i)
      rintro v h' ⟨rfl, c2, cl2, rfl⟩ hcaps
      refine rH19x0 ?_
      repeat' (first | (fail_if_success (with_reducible refine xstp ?_)); first | ((fail_if_success (with_reducible first | refine xgon ?_ | intro _)); (conv => whnf); (fail_if_success (fail_if_success (with_reducible first | refine xstp ?_ | refine xgon ?_ | intro _)))))
      have e1 : (putW x.q ⟨1, smpOf x⟩ r).W.length = r.W.length + 1 := by simp [putW]
      rw [e1, hR]
      refine FinK.mk ⟨[0, 1, 2, 3, 4, 5, 6, 7, 10, 11], _, _, ⟨rfl, c2, cl2, rfl⟩, ?_⟩
      (repeat' first | refine And.intro ?_ ?_ | exact xeC | fail)
    · rw [if_neg (show ¬ openB r x.q from hb)] at hR
      subst hR
      refine FinK.mk ⟨[0, 1, 2, 3, 4, 5, 6, 7, 3, 4], _, _, ⟨rfl, c, cl, rfl⟩, ?_⟩
      (repeat' first | refine And.intro ?_ ?_ | exact xeC | fail)
end Go.Proofs.Ytgcofipbdidhmaa


namespace Go.Proofs.Ytgcofipbdidhmaa
open Go.X
set_option linter.unusedSimpArgs false
set_option linter.unusedVariables false

def zS : Smp := ⟨0, 0, 0, ⟨#[]⟩⟩
def stepW (st : Int) (n : Int) (r : Rs) : Rs := if openB r n then putW n ⟨st, zS⟩ r else r
def fillW (st : Int) (k : Nat) (n : Int) (r : Rs) : Rs := (List.range k).foldl (fun r (i : Nat) => stepW st (n + (i : Int)) r) r
theorem fill_succ (st : Int) (k : Nat) (n : Int) (r : Rs) : fillW st (k + 1) n r = stepW st (n + k) (fillW st k n r) := by
  unfold fillW
  rw [List.range_succ, List.foldl_append]
  rfl
def jumpF (n : Int) (r : Rs) : Rs := ⟨r.l, r.ls, n, wge n r.W, r.ck⟩
def mvA (q : Qos) (w : Int) (r : Rs) : Rs := mv q w r.W.length r
def gapF (q : Qos) (w : Int) (rel : Bool) (x : Pkt) (r : Rs) : Rs :=
  if x.la < x.f ∨ x.la < r.ex then r
  else if rel = false then (if x.f ≤ r.ex then ⟨r.l, if x.q = 1 then r.ls ++ lapL w r.ex (x.la + 1) else r.ls, x.la + 1, r.W, r.ck⟩ else r)
  else if x.q = 0 ∧ x.f ≤ r.ex then mvA q w (jumpF (x.la + 1) r)
  else mvA q w (fillW (if x.q = 1 then 3 else 2) (min x.la (r.ex + 255) - max x.f r.ex + 1).toNat (max x.f r.ex) r)

theorem jump_ok {r : Rs} {n : Int} (hW : WOk r.W r.ex) (h : r.ex ≤ n) : WOk (jumpF n r).W (jumpF n r).ex where
  nd := ge_nd n hW.nd
  rg := fun e he => by
    obtain ⟨h1, h2⟩ := List.mem_filter.1 he
    have := hW.rg e h1
    have := of_decide_eq_true h2
    show n ≤ e.2.1 ∧ e.2.1 < n + 256
    omega
  mx := fun e he => hW.mx e (List.mem_filter.1 he).1
theorem jump_len (n : Int) (r : Rs) : (jumpF n r).W.length ≤ r.W.length := List.length_filter_le _ _

structure FillOk (r r' : Rs) (k : Nat) : Prop where
  l : r'.l = r.l
  ls : r'.ls = r.ls
  ex : r'.ex = r.ex
  ok : WOk r'.W r'.ex
  len : r'.W.length ≤ r.W.length + k

theorem fill_ok {r : Rs} (hW : WOk r.W r.ex) (st n : Int) : ∀ k : Nat, n + k ≤ 1099511627777 → FillOk r (fillW st k n r) k
  | 0, _ => ⟨rfl, rfl, rfl, hW, Nat.le_refl _⟩
  | k + 1, h => by
    have ih := fill_ok hW st n k (by omega)
    rw [fill_succ]
    unfold stepW
    split
    · rename_i ho
      have := put_ok ih.ok ho (s := ⟨st, zS⟩) (by omega)
      refine ⟨ih.l, ih.ls, ih.ex, this, ?_⟩
      have := ih.len
      simp only [putW, List.length_append, List.length_singleton]
      omega
    · exact ⟨ih.l, ih.ls, ih.ex, ih.ok, by have := ih.len; omega⟩

theorem rH19y0 {σ : List Sg} {H h' : List Fam} {v : T} {K : T → List Fam → Prop} {H' : List Fam} {v' : T} {N : Nat} (hk : K v' H') (hN : H.length = N := by (try simp only [↓List.length_cons, ↓List.length_nil, Nat.reduceAdd]) <;> rfl) (h : givesF σ N H σ h' = some H' := by (try simp (maxSteps := 1000000) only [givesF, setF, updF, Fam.zeroth, Fam.rk, Ck.rk, C.rk, E.rk, T.rk, key, List.map_cons, List.map_nil, List.cons_append, List.nil_append, List.length_cons, List.length_nil, Option.map_some, Option.bind_some, Nat.reduceAdd, Nat.zero_add, Nat.add_zero, Nat.add_sub_cancel_left, Int.toNat_natCast, reps, List.all_cons, List.all_nil, C.flat, List.append_eq, Bool.not_true, Bool.and_true, Bool.or_false, Bool.or_self, Bool.not_false, List.append_nil, Bool.and_self, encP]) <;> rfl) (hv : v.rk σ N = v' := by (try simp only [givesF, setF, updF, Fam.zeroth, Fam.rk, Ck.rk, C.rk, E.rk, T.rk, key, List.map_cons, List.map_nil, List.cons_append, List.nil_append, List.length_cons, List.length_nil, Option.map_some, Option.bind_some, Nat.reduceAdd, Nat.zero_add, Nat.add_zero, Nat.add_sub_cancel_left, Int.toNat_natCast, reps, List.all_cons, List.all_nil, C.flat, List.append_eq, Bool.not_true, Bool.and_true, Bool.or_false, Bool.or_self, Bool.not_false, List.append_nil, Bool.and_self, encP]) <;> rfl) : RetG σ H h' v K := ret_mk3 hN h hv hk
set_option maxRecDepth 10000 in
set_option maxHeartbeats 4000000 in
theorem cgap (id : Int) (q : Qos) (w nd : Int) (rel : Bool) (r : Rs) (c cl n cm : Nat) (x : Pkt) (hW : WOk r.W r.ex) (hex : 1 ≤ r.ex ∧ r.ex ≤ 1099511627777) (hl : r.l.length + r.W.length ≤ 800000) (hls : r.ls.length + 2 * r.W.length ≤ 700000) (hx : checkP x = 0) (hk : x.k = 4) (xm : Nat := 0) :
    Ctr Try.prog 34 [.c (.p 0 0 0), .c (.p 5 0 0), .a (encP (.sl 7 xm 1 0 n cm) x)] [.one (rdr 1 2 3 id q r.ls.length cl), .one (hist 4 q r.l.length c), .one .no, .one (lss true r.ls cl), .one (smps true r.l c), .one (mtcf 6 w nd r.ex rel), .one (wnd r.W r.ck), .one .no]
      fun v h => v = .t [] ∧ ∃ c' cl', h = [.one (rdr 1 2 8 id q (gapF q w rel x r).ls.length cl'), .one (hist 9 q (gapF q w rel x r).l.length c'), .one .no, .one .no, .one .no, .one (mtcf 6 w nd (gapF q w rel x r).ex rel), .one (wnd (gapF q w rel x r).W (gapF q w rel x r).ck), .one .no,
        .one (lss true (gapF q w rel x r).ls cl'), .one (smps true (gapF q w rel x r).l c')] := by
  have hx : (x.q = 0 ∨ x.q = 1) ∧ (1 ≤ x.f ∧ x.f ≤ 1099511627776) ∧ x.f - 1 ≤ x.la ∧ x.la ≤ 1099511627776 := by
    unfold checkP okN at hx
    rw [if_neg (by omega), if_pos hk] at hx
    split at hx
    · assumption
    · omega
  refine Ctr.mk' tbv mixed Try.func34 rfl rfl rfl (fun _ _ => by kernel_rfl) (by kernel_rfl) (by rfl) (by rfl) (by (repeat' first | refine And.intro ?_ ?_ | exact xeC | fail)) ?_
  generalize hR : gapF q w rel x r = R
  unfold gapF at hR
  repeat' (first | (fail_if_success (with_reducible refine xstp ?_)); first | ((with_reducible refine And.intro (fun (hb : _ = true) => ?_) (fun (hb : _ = false) => ?_)) <;> replace hb := xnC hb <;> (try first | exact xfC | exact bff hb (by assumption) | exact bff (by assumption) hb)) | (with_reducible intro hc; (try simp only [capsP, and_true] at hc); (try exact xfC)) | ((fail_if_success (with_reducible first | refine xgon ?_ | intro _)); (conv => whnf); (fail_if_success (fail_if_success (with_reducible first | refine xstp ?_ | refine xgon ?_ | intro _)))))
  · rw [if_pos (by omega)] at hR
    subst hR
    refine FinK.mk ⟨[0, 1, 2, 3, 4, 5, 6, 7, 3, 4], _, _, ⟨rfl, c, cl, rfl⟩, ?_⟩
    (repeat' first | refine And.intro ?_ ?_ | exact xeC | fail)
  refine xcal (σ := [.whole 5, .name 6]) (nl := []) (cpast w nd r.ex rel x.la) ?_
  rintro v h' ⟨rfl, rfl⟩ hcaps
  refine rH19y0 ?_
  repeat' (first | (fail_if_success (with_reducible refine xstp ?_)); first | ((with_reducible refine And.intro (fun (hb : _ = true) => ?_) (fun (hb : _ = false) => ?_)) <;> replace hb := xnC hb <;> (try first | exact xfC | exact bff hb (by assumption) | exact bff (by assumption) hb)) | ((with_reducible refine And.intro ?_ ?_); focus exact xoC) | ((fail_if_success (with_reducible first | refine xgon ?_ | intro _)); (conv => whnf); (fail_if_success (fail_if_success (with_reducible first | refine xstp ?_ | refine xgon ?_ | intro _)))))
  · rw [if_pos (by omega)] at hR
    subst hR
    refine FinK.mk ⟨[0, 1, 2, 3, 4, 5, 6, 7, 3, 4], _, _, ⟨rfl, c, cl, rfl⟩, ?_⟩
    (repeat' first | refine And.intro ?_ ?_ | exact xeC | fail)
  · rw [if_neg (by omega), if_pos hb] at hR
    refine xcal (σ := [.whole 5, .name 6]) (nl := []) (cpast w nd r.ex rel x.f) ?_
    rintro v h' ⟨rfl, rfl⟩ hcaps
    refine rH19y0 ?_
    repeat' (first | (fail_if_success (with_reducible refine xstp ?_)); first | ((with_reducible refine And.intro (fun (hb : _ = true) => ?_) (fun (hb : _ = false) => ?_)) <;> replace hb := xnC hb <;> (try first | exact xfC | exact bff hb (by assumption) | exact bff (by assumption) hb)) | ((with_reducible refine And.intro ?_ ?_); focus exact xoC) | ((fail_if_success (with_reducible first | refine xgon ?_ | intro _)); (conv => whnf); (fail_if_success (fail_if_success (with_reducible first | refine xstp ?_ | refine xgon ?_ | intro _)))))
    · rw [if_pos (by omega), if_pos hb] at hR
      refine xcal (σ := [.whole 0, .name 1, .name 2, .whole 3, .whole 5, .name 6]) (nl := []) (clapse id q w nd r.ex rel r.ls cl (x.la + 1) hex (by omega) (by omega)) ?_
      rintro v h' ⟨rfl, c2, rfl⟩ hcaps
      refine rH19y0 ?_
      repeat' (first | (fail_if_success (with_reducible refine xstp ?_)); first | ((with_reducible refine And.intro ?_ ?_); focus exact xoC) | ((fail_if_success (with_reducible first | refine xgon ?_ | intro _)); (conv => whnf); (fail_if_success (fail_if_success (with_reducible first | refine xstp ?_ | refine xgon ?_ | intro _)))))
      refine xcal (σ := [.whole 5, .name 6]) (nl := []) (cpass w nd r.ex rel (x.la + 1)) ?_
      rintro v h' ⟨rfl, rfl⟩ hcaps
      refine rH19y0 ?_
      repeat' (first | (fail_if_success (with_reducible refine xstp ?_)); first | ((fail_if_success (with_reducible first | refine xgon ?_ | intro _)); (conv => whnf); (fail_if_success (fail_if_success (with_reducible first | refine xstp ?_ | refine xgon ?_ | intro _)))))
      subst hR
      refine FinK.mk ⟨[0, 1, 2, 3, 4, 5, 6, 7, 9, 4], _, _, ⟨rfl, c, c2, rfl⟩, ?_⟩
      (repeat' first | refine And.intro ?_ ?_ | exact xeC | fail)
    · rw [if_pos (by omega), if_neg hb] at hR
      refine xcal (σ := [.whole 5, .name 6]) (nl := []) (cpass w nd r.ex rel (x.la + 1)) ?_
      rintro v h' ⟨rfl, rfl⟩ hcaps
      refine rH19y0 ?_
      repeat' (first | (fail_if_success (with_reducible refine xstp ?_)); first | ((fail_if_success (with_reducible first | refine xgon ?_ | intro _)); (conv => whnf); (fail_if_success (fail_if_success (with_reducible first | refine xstp ?_ | refine xgon ?_ | intro _)))))
      subst hR
      refine FinK.mk ⟨[0, 1, 2, 3, 4, 5, 6, 7, 3, 4], _, _, ⟨rfl, c, cl, rfl⟩, ?_⟩
      (repeat' first | refine And.intro ?_ ?_ | exact xeC | fail)
    · rw [if_pos (by omega), if_pos hb] at hR
      refine xcal (σ := [.whole 0, .name 1, .name 2, .whole 3, .whole 5, .name 6]) (nl := []) (clapse id q w nd r.ex rel r.ls cl (x.la + 1) hex (by omega) (by omega)) ?_
      rintro v h' ⟨rfl, c2, rfl⟩ hcaps
      refine rH19y0 ?_
      repeat' (first | (fail_if_success (with_reducible refine xstp ?_)); first | ((with_reducible refine And.intro ?_ ?_); focus exact xoC) | ((fail_if_success (with_reducible first | refine xgon ?_ | intro _)); (conv => whnf); (fail_if_success (fail_if_success (with_reducible first | refine xstp ?_ | refine xgon ?_ | intro _)))))
      refine xcal (σ := [.whole 5, .name 6]) (nl := []) (cpass w nd r.ex rel (x.la + 1)) ?_
      rintro v h' ⟨rfl, rfl⟩ hcaps
      refine rH19y0 ?_
      repeat' (first | (fail_if_success (with_reducible refine xstp ?_)); first | ((fail_if_success (with_reducible first | refine xgon ?_ | intro _)); (conv => whnf); (fail_if_success (fail_if_success (with_reducible first | refine xstp ?_ | refine xgon ?_ | intro _)))))
      subst hR
      refine FinK.mk ⟨[0, 1, 2, 3, 4, 5, 6, 7, 9, 4], _, _, ⟨rfl, c, c2, rfl⟩, ?_⟩
      (repeat' first | refine And.intro ?_ ?_ | exact xeC | fail)
    · rw [if_pos (by omega), if_neg hb] at hR
      refine xcal (σ := [.whole 5, .name 6]) (nl := []) (cpass w nd r.ex rel (x.la + 1)) ?_
      rintro v h' ⟨rfl, rfl⟩ hcaps
      refine rH19y0 ?_
      repeat' (first | (fail_if_success (with_reducible refine xstp ?_)); first | ((fail_if_success (with_reducible first | refine xgon ?_ | intro _)); (conv => whnf); (fail_if_success (fail_if_success (with_reducible first | refine xstp ?_ | refine xgon ?_ | intro _)))))
      subst hR
      refine FinK.mk ⟨[0, 1, 2, 3, 4, 5, 6, 7, 3, 4], _, _, ⟨rfl, c, cl, rfl⟩, ?_⟩
      (repeat' first | refine And.intro ?_ ?_ | exact xeC | fail)
    · rw [if_neg (by omega)] at hR
      subst hR
      refine FinK.mk ⟨[0, 1, 2, 3, 4, 5, 6, 7, 3, 4], _, _, ⟨rfl, c, cl, rfl⟩, ?_⟩
      (repeat' first | refine And.intro ?_ ?_ | exact xeC | fail)
  · rename_i hb1 hb2
    rw [if_neg (by omega), if_neg (by rw [hb1]; simp), if_pos ⟨hb2, hb⟩] at hR
    have hj := jump_ok hW (show r.ex ≤ x.la + 1 by omega)
    have hjl := jump_len (x.la + 1) r
    refine xcal (σ := [.whole 5, .whole 6]) (nl := []) (cjump w nd r.ex rel r.W r.ck (x.la + 1) hW (by omega)) ?_
    rintro v h' ⟨rfl, rfl⟩ hcaps
    refine rH19y0 ?_
    repeat' (first | (fail_if_success (with_reducible refine xstp ?_)); first | ((fail_if_success (with_reducible first | refine xgon ?_ | intro _)); (conv => whnf); (fail_if_success (fail_if_success (with_reducible first | refine xstp ?_ | refine xgon ?_ | intro _)))))
    refine xcal (σ := [.whole 0, .whole 1, .name 2, .whole 3, .whole 4, .whole 5, .whole 6]) (nl := []) (cmove id q w nd rel (jumpF (x.la + 1) r) c cl hj (by simp only [jumpF]; omega) (by simp only [jumpF] at *; omega) (by simp only [jumpF] at *; omega)) ?_
    rintro v h' ⟨rfl, c2, cl2, rfl⟩ hcaps
    refine rH19y0 ?_
    repeat' (first | (fail_if_success (with_reducible refine xstp ?_)); first | ((fail_if_success (with_reducible first | refine xgon ?_ | intro _)); (conv => whnf); (fail_if_success (fail_if_success (with_reducible first | refine xstp ?_ | refine xgon ?_ | intro _)))))
    subst hR
    refine FinK.mk ⟨[0, 1, 2, 3, 4, 5, 6, 7, 9, 10], _, _, ⟨rfl, c2, cl2, rfl⟩, ?_⟩
    (repeat' first | refine And.intro ?_ ?_ | exact xeC | fail)
  all_goals (
    have hrel : ¬ rel = false := by simp [*]
    rw [if_neg (by omega), if_neg hrel, if_neg (by omega)] at hR
    generalize hst : (if x.q = 1 then (3 : Int) else 2) = st at hR
    generalize hK : (min x.la (r.ex + 255) - max x.f r.ex + 1).toNat = K at hR
    have hfill := fun k (hk : k ≤ K) => fill_ok hW st (max x.f r.ex) k (by omega)
    refine LoopK.mk' {k : Nat // k ≤ K}
      (fun ⟨k, _⟩ => ⟨[(0, .c (.p 0 0 0)), (1, .c (.p 5 0 0)), (5, .c (.p 8 0 0)), (6, .c (.i .i64 st)), (8, .c (.i .i64 (max x.f r.ex + k)))],
        [.one (rdr 1 2 3 id q r.ls.length cl), .one (hist 4 q r.l.length c), .one .no, .one (lss true r.ls cl), .one (smps true r.l c), .one (mtcf 6 w nd r.ex rel), .one (wnd (fillW st k (max x.f r.ex) r).W (fillW st k (max x.f r.ex) r).ck), .one .no, .one (.cells true (encP (.sl 7 xm 1 0 n cm) x))]⟩)
      (fun k => K - k.1)
      ⟨⟨0, Nat.zero_le _⟩, [0, 1, 2, 3, 4, 5, 6, 7, 8], ?_⟩ ?_
    · (repeat' first | refine And.intro ?_ ?_ | exact xeC | fail)
      all_goals first | (rw [← hst, if_pos (by assumption)]) | (rw [← hst, if_neg (by assumption)]) | (simp; done)
    rintro ⟨k, hk⟩
    have hF := hfill k hk
    repeat' (first | (fail_if_success (with_reducible refine xstp ?_)); first | ((with_reducible refine And.intro (fun (hb : _ = true) => ?_) (fun (hb : _ = false) => ?_)) <;> replace hb := xnC hb <;> (try first | exact xfC | exact bff hb (by assumption) | exact bff (by assumption) hb)) | ((with_reducible refine And.intro ?_ ?_); focus exact xoC) | (with_reducible intro hc; (try simp only [capsP, and_true] at hc); (try exact xfC)) | ((fail_if_success (with_reducible first | refine xgon ?_ | intro _)); (conv => whnf); (fail_if_success (fail_if_success (with_reducible first | refine xstp ?_ | refine xgon ?_ | intro _)))))
    · have hn : 1 ≤ max x.f r.ex + (k : Int) ∧ max x.f r.ex + (k : Int) ≤ 1099511627776 := by omega
      have eS := fill_succ st k (max x.f r.ex) r
      obtain ⟨f1, f2, f3, f4, f5⟩ := hF
      generalize fillW st k (max x.f r.ex) r = r' at *
      refine xcal (σ := [.whole 5, .whole 6]) (nl := []) (copen w nd r.ex rel r'.W r'.ck (max x.f r.ex + k) hex hn) ?_
      rintro v h' ⟨rfl, rfl⟩ hcaps
      refine rH19y0 ?_
      repeat' (first | (fail_if_success (with_reducible refine xstp ?_)); first | ((with_reducible refine And.intro (fun (hb : _ = true) => ?_) (fun (hb : _ = false) => ?_)) <;> replace hb := xnC hb <;> (try first | exact xfC | exact bff hb (by assumption) | exact bff (by assumption) hb)) | (with_reducible refine Both.mk ?_ ?_) | ((with_reducible refine And.intro ?_ ?_); focus exact xoC) | (with_reducible intro hc; (try simp only [capsP, and_true] at hc); (try exact xfC)) | ((fail_if_success (with_reducible first | refine xgon ?_ | intro _)); (conv => whnf); (fail_if_success (fail_if_success (with_reducible first | refine xstp ?_ | refine Both.mk ?_ ?_ | refine xgon ?_ | intro _)))))
      · rename_i i hi
        exact (hb.2.2 i hi (Key.i.inj hc)).elim
      · have e1 : fillW st (k + 1) (max x.f r.ex) r = putW (max x.f r.ex + k) ⟨st, zS⟩ r' := by
          rw [eS]
          exact if_pos (by unfold openB; rw [f3]; exact hb)
        refine ⟨⟨k + 1, by omega⟩, [0, 1, 2, 3, 4, 5, 6, 7, 8], by simp only; omega, ?_⟩
        simp only [e1]
        (repeat' first | refine And.intro ?_ ?_ | exact xeC | fail)
        all_goals first
          | (simp [putW]; done)
          | exact fun i _ => encW_put r'.W r'.ck (max x.f r.ex + k) ⟨st, zS⟩ i
          | omega
      · have e1 : fillW st (k + 1) (max x.f r.ex) r = r' := by
          rw [eS]
          exact if_neg (by unfold openB; rw [f3]; exact hb)
        refine ⟨⟨k + 1, by omega⟩, [0, 1, 2, 3, 4, 5, 6, 7, 8], by simp only; omega, ?_⟩
        simp only [e1]
        (repeat' first | refine And.intro ?_ ?_ | exact xeC | fail)
        all_goals omega
    · have ek : k = K := by omega
      subst ek
      obtain ⟨f1, f2, f3, f4, f5⟩ := hF
      generalize fillW st k (max x.f r.ex) r = r' at *
      obtain ⟨l', ls', ex', W', ck'⟩ := r'
      simp only at f1 f2 f3 f4 f5
      subst f1 f2 f3
      refine xcal (σ := [.whole 0, .whole 1, .name 2, .whole 3, .whole 4, .whole 5, .whole 6]) (nl := []) (cmove id q w nd rel ⟨r.l, r.ls, r.ex, W', ck'⟩ c cl f4 hex (by simp only; omega) (by simp only; omega)) ?_
      rintro v h' ⟨rfl, c2, cl2, rfl⟩ hcaps
      refine rH19y0 ?_
      repeat' (first | (fail_if_success (with_reducible refine xstp ?_)); first | ((fail_if_success (with_reducible first | refine xgon ?_ | intro _)); (conv => whnf); (fail_if_success (fail_if_success (with_reducible first | refine xstp ?_ | refine xgon ?_ | intro _)))))
      subst hR
      refine FinK.mk ⟨[0, 1, 2, 3, 4, 5, 6, 7, 9, 10], _, _, ⟨rfl, c2, cl2, rfl⟩, ?_⟩
      (repeat' first | refine And.intro ?_ ?_ | exact xeC | fail)
    · have ek : k = K := by omega
      subst ek
      obtain ⟨f1, f2, f3, f4, f5⟩ := hF
      generalize fillW st k (max x.f r.ex) r = r' at *
      obtain ⟨l', ls', ex', W', ck'⟩ := r'
      simp only at f1 f2 f3 f4 f5
      subst f1 f2 f3
      refine xcal (σ := [.whole 0, .whole 1, .name 2, .whole 3, .whole 4, .whole 5, .whole 6]) (nl := []) (cmove id q w nd rel ⟨r.l, r.ls, r.ex, W', ck'⟩ c cl f4 hex (by simp only; omega) (by simp only; omega)) ?_
      rintro v h' ⟨rfl, c2, cl2, rfl⟩ hcaps
      refine rH19y0 ?_
      repeat' (first | (fail_if_success (with_reducible refine xstp ?_)); first | ((fail_if_success (with_reducible first | refine xgon ?_ | intro _)); (conv => whnf); (fail_if_success (fail_if_success (with_reducible first | refine xstp ?_ | refine xgon ?_ | intro _)))))
      subst hR
      refine FinK.mk ⟨[0, 1, 2, 3, 4, 5, 6, 7, 9, 10], _, _, ⟨rfl, c2, cl2, rfl⟩, ?_⟩
      (repeat' first | refine And.intro ?_ ?_ | exact xeC | fail)
    )
end Go.Proofs.Ytgcofipbdidhmaa


namespace Go.Proofs.Ytgcofipbdidhmaa
open Go.X
set_option linter.unusedSimpArgs false
set_option linter.unusedVariables false

theorem get_find {W : Win} {n : Int} {s : Slt} (h : wget W n = some s) : ∃ i, i < W.length ∧ (W.getD i default).2.1 = n ∧ (W.getD i default).2.2 = s := by
  unfold wget at h
  obtain ⟨e, he, rfl⟩ := Option.map_eq_some_iff.1 h
  have h1 := List.mem_of_find?_eq_some he
  have h2 := List.find?_some he
  obtain ⟨i, hi, rfl⟩ := List.mem_iff_getElem.1 h1
  exact ⟨i, hi, by rw [getD_at hi]; exact of_decide_eq_true h2, by rw [getD_at hi]⟩

/-- What holds of a writer's state at all times. A: samples and numbers, B: losses and twice the numbers. -/
structure Inv (r : Rs) (A B : Nat) : Prop where
  ok : WOk r.W r.ex
  lo : 1 ≤ r.ex
  hi : r.ex ≤ 1099511627777
  l : r.l.length + r.W.length ≤ A
  ls : r.ls.length + 2 * r.W.length ≤ B

theorem mv_inv (q : Qos) (w : Int) {A B : Nat} : ∀ (n : Nat) (r : Rs), Inv r A B → Inv (mv q w n r) A B ∧ r.ex ≤ (mv q w n r).ex
  | 0, r, h => ⟨h, Int.le_refl _⟩
  | n + 1, r, h => by
    unfold mv
    cases hg : wget r.W r.ex with
    | none => exact ⟨h, Int.le_refl _⟩
    | some s =>
      obtain ⟨i, hi, hk, rfl⟩ := get_find hg
      have e1 := erase_ne h.ok.nd hi hk
      have hlen : (wne r.ex r.W).length = r.W.length - 1 := by rw [← e1, List.length_eraseIdx_of_lt hi]
      have hmx : r.ex ≤ 1099511627776 := by
        rw [← hk, getD_at hi]
        exact h.ok.mx _ (List.getElem_mem hi)
      have hn := new_le q r.l (r.W.getD i default).2.2.x
      have hd := dlv_le q r.l r.ls (r.W.getD i default).2.2.x
      have h1 := h.lo
      have h2 := h.l
      have h3 := h.ls
      have hs : Inv (mvStep q w (r.W.getD i default).2.2 r) A B := by
        refine ⟨ne_ok h.ok, by simp only [mvStep]; omega, by simp only [mvStep]; omega, ?_, ?_⟩
        · simp only [mvStep]
          split <;> omega
        · simp only [mvStep]
          split
          · omega
          · split
            · simp; omega
            · omega
      obtain ⟨i1, i2⟩ := mv_inv q w n _ hs
      refine ⟨i1, ?_⟩
      have : (mvStep q w (r.W.getD i default).2.2 r).ex = r.ex + 1 := rfl
      show r.ex ≤ (mv q w n (mvStep q w (r.W.getD i default).2.2 r)).ex
      omega
theorem mvA_inv {q : Qos} {w : Int} {A B : Nat} {r : Rs} (h : Inv r A B) : Inv (mvA q w r) A B := (mv_inv q w _ r h).1
theorem jump_inv {A B : Nat} {r : Rs} {n : Int} (h : Inv r A B) (h1 : r.ex ≤ n) (h2 : n ≤ 1099511627777) : Inv (jumpF n r) A B := by
  have := h.lo
  have := h.l
  have := h.ls
  have := jump_len n r
  exact ⟨jump_ok h.ok h1, by simp only [jumpF]; omega, h2, by simp only [jumpF] at *; omega, by simp only [jumpF] at *; omega⟩

/-! ### A heartbeat -/
def encI (n : Int) : List C := [.i .i64 n]
abbrev ints (w : Bool) (l : List Int) (c : Nat) : Ck := .row w false 3 1 l.length c (rowOf encI l)
def unk (W : Win) (n : Int) : Bool := decide (∀ i, i < W.length → (W.getD i default).2.1 ≠ n)
def missK (W : Win) (ex : Int) (k : Nat) : List Int := ((List.range k).map fun (i : Nat) => ex + (i : Int)).filter (unk W)
theorem miss_succ (W : Win) (ex : Int) (k : Nat) : missK W ex (k + 1) = missK W ex k ++ if unk W (ex + k) then [ex + (k : Int)] else [] := by
  unfold missK
  rw [List.range_succ, List.map_append, List.filter_append]
  congr 1
  simp only [List.map_cons, List.map_nil, List.filter_cons, List.filter_nil]
theorem miss_pre (W : Win) (ex : Int) (k m : Nat) : ∃ t, missK W ex (k + m) = missK W ex k ++ t := by
  induction m with
  | zero => exact ⟨[], by simp⟩
  | succ m ih =>
    obtain ⟨t, ht⟩ := ih
    exact ⟨_, by rw [← Nat.add_assoc, miss_succ, ht, List.append_assoc]⟩
def missF (r : Rs) (la : Int) : List Int := (missK r.W r.ex (la - r.ex + 1).toNat).take 32
theorem miss_end {r : Rs} {la : Int} {k : Nat} (hk : k ≤ (la - r.ex + 1).toNat) (h1 : (missK r.W r.ex k).length ≤ 32) (h2 : k = (la - r.ex + 1).toNat ∨ 32 ≤ (missK r.W r.ex k).length) : missF r la = missK r.W r.ex k := by
  unfold missF
  rcases h2 with rfl | h2
  · exact List.take_of_length_le h1
  · obtain ⟨m, hm⟩ : ∃ m, (la - r.ex + 1).toNat = k + m := ⟨_, (Nat.add_sub_cancel' hk).symm⟩
    obtain ⟨t, ht⟩ := miss_pre r.W r.ex k m
    rw [hm, ht]
    exact List.take_left' (by omega)

def hbF (q : Qos) (w : Int) (rel : Bool) (x : Pkt) (r : Rs) : Rs := if rel = false then r else if r.ex < x.f then mvA q w (jumpF x.f r) else r
def ackP (id w nd at' : Int) (x : Pkt) (r : Rs) : Pkt := ⟨3, 0, nd, w, id, 0, r.ex, x.la, at', ⟨#[]⟩⟩
abbrev pkts (w : Bool) (f n c nm cm : Nat) (x : Pkt) : Ck := .row w true 32 11 n c (fun _ => encP (msl f nm cm) x)

theorem rH19A0 {σ : List Sg} {H h' : List Fam} {v : T} {K : T → List Fam → Prop} {H' : List Fam} {v' : T} {N : Nat} (hk : K v' H') (hN : H.length = N := by (try simp only [↓List.length_cons, ↓List.length_nil, Nat.reduceAdd]) <;> rfl) (h : givesF σ N H σ h' = some H' := by (try simp (maxSteps := 1000000) only [givesF, setF, updF, Fam.zeroth, Fam.rk, Ck.rk, C.rk, E.rk, T.rk, key, List.map_cons, List.map_nil, List.cons_append, List.nil_append, List.length_cons, List.length_nil, Option.map_some, Option.bind_some, Nat.reduceAdd, Nat.zero_add, Nat.add_zero, Nat.add_sub_cancel_left, Int.toNat_natCast, reps, List.all_cons, List.all_nil, C.flat, List.append_eq, Bool.not_true, Bool.and_true, Bool.or_false, Bool.or_self, Bool.not_false, List.append_nil, Bool.and_self, encP]) <;> rfl) (hv : v.rk σ N = v' := by (try simp only [givesF, setF, updF, Fam.zeroth, Fam.rk, Ck.rk, C.rk, E.rk, T.rk, key, List.map_cons, List.map_nil, List.cons_append, List.nil_append, List.length_cons, List.length_nil, Option.map_some, Option.bind_some, Nat.reduceAdd, Nat.zero_add, Nat.add_zero, Nat.add_sub_cancel_left, Int.toNat_natCast, reps, List.all_cons, List.all_nil, C.flat, List.append_eq, Bool.not_true, Bool.and_true, Bool.or_false, Bool.or_self, Bool.not_false, List.append_nil, Bool.and_self, encP]) <;> rfl) : RetG σ H h' v K := ret_mk3 hN h hv hk
set_option maxRecDepth 10000 in
set_option maxHeartbeats 8000000 in
theorem cheart (id : Int) (q : Qos) (w nd : Int) (rel : Bool) (r : Rs) (c cl n cm : Nat) (x : Pkt) (at' : Int) (hI : Inv r 800000 700000) (hx : checkP x = 0) (hk : x.k = 2) (xm : Nat := 0) :
    Ctr Try.prog 35 [.c (.p 0 0 0), .c (.p 5 0 0), .a (encP (.sl 7 xm 1 0 n cm) x), .c (.i .i64 at')] [.one (rdr 1 2 3 id q r.ls.length cl), .one (hist 4 q r.l.length c), .one .no, .one (lss true r.ls cl), .one (smps true r.l c), .one (mtcf 6 w nd r.ex rel), .one (wnd r.W r.ck), .one .no]
      fun v h => ∃ c' cl' cm' cp' nm np, v = .c (.sl 11 0 11 0 np cp') ∧ (rel = false → np = 0 ∧ nm = 0) ∧ (rel = true → np = 1 ∧ nm = (missF (hbF q w rel x r) x.la).length) ∧
        h = [.one (rdr 1 2 8 id q (hbF q w rel x r).ls.length cl'), .one (hist 9 q (hbF q w rel x r).l.length c'), .one .no, .one .no, .one .no, .one (mtcf 6 w nd (hbF q w rel x r).ex rel), .one (wnd (hbF q w rel x r).W (hbF q w rel x r).ck), .one .no,
        .one (lss true (hbF q w rel x r).ls cl'), .one (smps true (hbF q w rel x r).l c'), .one (.row true false 3 1 nm cm' (rowOf encI (missF (hbF q w rel x r) x.la))), .one (pkts true 10 np cp' nm cm' (ackP id w nd at' x (hbF q w rel x r)))] := by
  have hx : (1 ≤ x.f ∧ x.f ≤ 1099511627776) ∧ x.f - 1 ≤ x.la ∧ x.la ≤ 1099511627776 := by
    unfold checkP okN at hx
    rw [if_neg (by omega), if_neg (by omega), if_pos hk] at hx
    split at hx
    · assumption
    · omega
  refine Ctr.mk' tbv mixed Try.func35 rfl rfl rfl (fun _ _ => by kernel_rfl) (by kernel_rfl) (by rfl) (by rfl) (by (repeat' first | refine And.intro ?_ ?_ | exact xeC | fail)) ?_
  generalize hR : hbF q w rel x r = R
  unfold hbF at hR
  repeat' (first | (fail_if_success (with_reducible refine xstp ?_)); first | ((with_reducible refine And.intro (fun (hb : _ = true) => ?_) (fun (hb : _ = false) => ?_)) <;> replace hb := xnC hb <;> (try first | exact xfC | exact bff hb (by assumption) | exact bff (by assumption) hb)) | (with_reducible refine Both.mk ?_ ?_) | ((with_reducible refine And.intro ?_ ?_); focus exact xoC) | (with_reducible intro hc; (try simp only [capsP, and_true] at hc); (try exact xfC)) | ((fail_if_success (with_reducible first | refine xgon ?_ | intro _)); (conv => whnf); (fail_if_success (fail_if_success (with_reducible first | refine xstp ?_ | refine Both.mk ?_ ?_ | refine xgon ?_ | intro _)))))
  · subst hR
    rw [if_pos hb]
    refine FinK.mk ⟨[0, 1, 2, 3, 4, 5, 6, 7, 3, 4, 98, 99], _, _, ⟨c, cl, 0, 0, 0, 0, rfl, (fun _ => ⟨rfl, rfl⟩), (fun h => by rw [hb] at h; cases h), rfl⟩, ?_⟩
    (repeat' first | refine And.intro ?_ ?_ | exact xeC | fail)
  · rename_i hb0
    rw [if_neg (by rw [hb0]; simp), if_pos hb] at hR
    have hJ := jump_inv hI (show r.ex ≤ x.f by omega) (by omega)
    refine xcal (σ := [.whole 5, .whole 6]) (nl := []) (cjump w nd r.ex rel r.W r.ck x.f hI.ok ⟨hI.lo, by omega, by omega⟩) ?_
    rintro v h' ⟨rfl, rfl⟩ hcaps
    refine rH19A0 ?_
    repeat' (first | (fail_if_success (with_reducible refine xstp ?_)); first | ((fail_if_success (with_reducible first | refine xgon ?_ | intro _)); (conv => whnf); (fail_if_success (fail_if_success (with_reducible first | refine xstp ?_ | refine xgon ?_ | intro _)))))
    refine xcal (σ := [.whole 0, .whole 1, .name 2, .whole 3, .whole 4, .whole 5, .whole 6]) (nl := []) (cmove id q w nd rel (jumpF x.f r) c cl hJ.ok ⟨hJ.lo, hJ.hi⟩ (by have := hJ.l; omega) (by have := hJ.ls; omega)) ?_
    rintro v h' ⟨rfl, c2, cl2, rfl⟩ hcaps
    refine rH19A0 ?_
    repeat' (first | (fail_if_success (with_reducible refine xstp ?_)); first | (with_reducible refine Both.mk ?_ ?_) | ((with_reducible refine And.intro ?_ ?_); focus exact xoC) | ((fail_if_success (with_reducible first | refine xgon ?_ | intro _)); (conv => whnf); (fail_if_success (fail_if_success (with_reducible first | refine xstp ?_ | refine Both.mk ?_ ?_ | refine xgon ?_ | intro _)))))
    all_goals have hRI : Inv R 800000 700000 := by rw [← hR]; exact mvA_inv hJ
    all_goals subst hR
    all_goals (
      have h1 := hRI.lo
      have h2 := hRI.hi
      refine LoopK.mk' ({k : Nat // k ≤ (x.la - (mvA q w (jumpF x.f r)).ex + 1).toNat ∧ (missK (mvA q w (jumpF x.f r)).W (mvA q w (jumpF x.f r)).ex k).length ≤ 32} × Nat)
        (fun ⟨⟨k, _⟩, cc⟩ => ⟨[(1, .c (.p 5 0 0)), (6, .c (.p 12 0 0)), (9, .c (.p 11 0 0)), (10, .c (.i .i64 ((mvA q w (jumpF x.f r)).ex + k)))],
          [.one (rdr 1 2 8 id q (mvA q w (jumpF x.f r)).ls.length cl2), .one (hist 9 q (mvA q w (jumpF x.f r)).l.length c2), .one .no, .one .no, .one .no, .one (mtcf 6 w nd (mvA q w (jumpF x.f r)).ex rel), .one (wnd (mvA q w (jumpF x.f r)).W (mvA q w (jumpF x.f r)).ck), .one .no,
            .one (lss true (mvA q w (jumpF x.f r)).ls cl2), .one (smps true (mvA q w (jumpF x.f r)).l c2), .one (ints true (missK (mvA q w (jumpF x.f r)).W (mvA q w (jumpF x.f r)).ex k) cc), .one (.cells true (encP (msl 10 (missK (mvA q w (jumpF x.f r)).W (mvA q w (jumpF x.f r)).ex k).length cc) (ackP id w nd at' x (mvA q w (jumpF x.f r))))), .one (.cells true (encP (.sl 7 xm 1 0 n cm) x))]⟩)
        (fun k => (x.la - (mvA q w (jumpF x.f r)).ex + 1).toNat - k.1.1)
        ⟨⟨⟨0, Nat.zero_le _, by simp [missK]⟩, 0⟩, [0, 1, 2, 3, 4, 5, 6, 7, 9, 10, 99, 11, 8], ?_⟩ ?_
      · (repeat' first | refine And.intro ?_ ?_ | exact xeC | fail)
        all_goals first | rfl | (simp [missK]; done) | (simp; done) | (simp; rfl)
      rintro ⟨⟨k, hk, hm⟩, cc⟩
      repeat' (first | (fail_if_success (with_reducible refine xstp ?_)); first | ((with_reducible refine And.intro (fun (hb : _ = true) => ?_) (fun (hb : _ = false) => ?_)) <;> replace hb := xnC hb <;> (try first | exact xfC | exact bff hb (by assumption) | exact bff (by assumption) hb)) | (with_reducible refine Both.mk ?_ ?_) | ((with_reducible refine And.intro ?_ ?_); focus exact xoC) | ((with_reducible refine Or.inl ⟨?_, ?_, ?_⟩); (focus rfl); focus exact xaC) | (with_reducible intro hc; (try simp only [capsP, and_true] at hc); (try exact xfC)) | ((fail_if_success (with_reducible first | refine xgon ?_ | intro _)); (conv => whnf); (fail_if_success (fail_if_success (with_reducible first | refine xstp ?_ | refine Both.mk ?_ ?_ | refine xgon ?_ | intro _)))))
      · rename_i i hi
        have e1 : missK (mvA q w (jumpF x.f r)).W (mvA q w (jumpF x.f r)).ex (k + 1) = missK (mvA q w (jumpF x.f r)).W (mvA q w (jumpF x.f r)).ex k := by
          rw [miss_succ, if_neg (by unfold unk; exact fun h => of_decide_eq_true h i hi (Key.i.inj hc)), List.append_nil]
        refine ⟨⟨⟨k + 1, by omega, by rw [e1]; omega⟩, cc⟩, [0, 1, 2, 3, 4, 5, 6, 7, 8, 9, 10, 11, 12], by simp only; omega, ?_⟩
        simp only [e1]
        (repeat' first | refine And.intro ?_ ?_ | exact xeC | fail)
        all_goals omega
      · rename Nat => c3
        have e1 : missK (mvA q w (jumpF x.f r)).W (mvA q w (jumpF x.f r)).ex (k + 1) = missK (mvA q w (jumpF x.f r)).W (mvA q w (jumpF x.f r)).ex k ++ [(mvA q w (jumpF x.f r)).ex + (k : Int)] := by
          rw [miss_succ, if_pos (by unfold unk; exact decide_eq_true fun i hi h => (by assumption : ∀ (i : Nat), i < (mvA q w (jumpF x.f r)).W.length → (encW (mvA q w (jumpF x.f r)).W i).2.1 ≠ Key.i ((mvA q w (jumpF x.f r)).ex + (k : Int))) i hi (by show Key.i _ = Key.i _; rw [h]))]
        refine ⟨⟨⟨k + 1, by omega, by rw [e1, List.length_append, List.length_singleton]; omega⟩, c3⟩, [0, 1, 2, 3, 4, 5, 6, 7, 8, 9, 15, 11, 12], by simp only; omega, ?_⟩
        simp only [e1]
        (repeat' first | refine And.intro ?_ ?_ | exact xeC | fail)
        all_goals first | omega | (simp; done) | (intro i hi; exact app_rowG encI _ _ _ rfl i hi)
      all_goals (
        have e2 : missF (mvA q w (jumpF x.f r)) x.la = missK (mvA q w (jumpF x.f r)).W (mvA q w (jumpF x.f r)).ex k := miss_end hk hm (by omega)
        rw [e2]
        refine FinK.mk ⟨[0, 1, 2, 3, 4, 5, 6, 7, 8, 9, 10, 13], _, _, ⟨c2, cl2, cc, 1, _, 1, rfl, (fun h => by simp_all), (fun _ => ⟨rfl, rfl⟩), rfl⟩, ?_⟩
        (repeat' first | refine And.intro ?_ ?_ | exact xeC | fail)
        all_goals (
          intro i hi
          obtain rfl : i = 0 := by omega
          rfl))
      )
  all_goals (
    rename_i hb0
    rw [if_neg (by rw [hb0]; simp), if_neg (by omega)] at hR
    subst hR)
  all_goals (
    have h1 := hI.lo
    have h2 := hI.hi
    refine LoopK.mk' ({k : Nat // k ≤ (x.la - (r).ex + 1).toNat ∧ (missK (r).W (r).ex k).length ≤ 32} × Nat)
      (fun ⟨⟨k, _⟩, cc⟩ => ⟨[(1, .c (.p 5 0 0)), (6, .c (.p 12 0 0)), (9, .c (.p 11 0 0)), (10, .c (.i .i64 ((r).ex + k)))],
        [.one (rdr 1 2 8 id q (r).ls.length cl), .one (hist 9 q (r).l.length c), .one .no, .one .no, .one .no, .one (mtcf 6 w nd (r).ex rel), .one (wnd (r).W (r).ck), .one .no,
          .one (lss true (r).ls cl), .one (smps true (r).l c), .one (ints true (missK (r).W (r).ex k) cc), .one (.cells true (encP (msl 10 (missK (r).W (r).ex k).length cc) (ackP id w nd at' x (r)))), .one (.cells true (encP (.sl 7 xm 1 0 n cm) x))]⟩)
      (fun k => (x.la - (r).ex + 1).toNat - k.1.1)
      ⟨⟨⟨0, Nat.zero_le _, by simp [missK]⟩, 0⟩, [0, 1, 2, 3, 4, 5, 6, 7, 3, 4, 99, 9, 8], ?_⟩ ?_
    · (repeat' first | refine And.intro ?_ ?_ | exact xeC | fail)
      all_goals first | rfl | (simp [missK]; done) | (simp; done) | (simp; rfl)
    rintro ⟨⟨k, hk, hm⟩, cc⟩
    repeat' (first | (fail_if_success (with_reducible refine xstp ?_)); first | ((with_reducible refine And.intro (fun (hb : _ = true) => ?_) (fun (hb : _ = false) => ?_)) <;> replace hb := xnC hb <;> (try first | exact xfC | exact bff hb (by assumption) | exact bff (by assumption) hb)) | (with_reducible refine Both.mk ?_ ?_) | ((with_reducible refine And.intro ?_ ?_); focus exact xoC) | ((with_reducible refine Or.inl ⟨?_, ?_, ?_⟩); (focus rfl); focus exact xaC) | (with_reducible intro hc; (try simp only [capsP, and_true] at hc); (try exact xfC)) | ((fail_if_success (with_reducible first | refine xgon ?_ | intro _)); (conv => whnf); (fail_if_success (fail_if_success (with_reducible first | refine xstp ?_ | refine Both.mk ?_ ?_ | refine xgon ?_ | intro _)))))
    · rename_i i hi
      have e1 : missK (r).W (r).ex (k + 1) = missK (r).W (r).ex k := by
        rw [miss_succ, if_neg (by unfold unk; exact fun h => of_decide_eq_true h i hi (Key.i.inj hc)), List.append_nil]
      refine ⟨⟨⟨k + 1, by omega, by rw [e1]; omega⟩, cc⟩, [0, 1, 2, 3, 4, 5, 6, 7, 8, 9, 10, 11, 12], by simp only; omega, ?_⟩
      simp only [e1]
      (repeat' first | refine And.intro ?_ ?_ | exact xeC | fail)
      all_goals omega
    · rename Nat => c3
      have e1 : missK (r).W (r).ex (k + 1) = missK (r).W (r).ex k ++ [(r).ex + (k : Int)] := by
        rw [miss_succ, if_pos (by unfold unk; exact decide_eq_true fun i hi h => (by assumption : ∀ (i : Nat), i < (r).W.length → (encW (r).W i).2.1 ≠ Key.i ((r).ex + (k : Int))) i hi (by show Key.i _ = Key.i _; rw [h]))]
      refine ⟨⟨⟨k + 1, by omega, by rw [e1, List.length_append, List.length_singleton]; omega⟩, c3⟩, [0, 1, 2, 3, 4, 5, 6, 7, 8, 9, 15, 11, 12], by simp only; omega, ?_⟩
      simp only [e1]
      (repeat' first | refine And.intro ?_ ?_ | exact xeC | fail)
      all_goals first | omega | (simp; done) | (intro i hi; exact app_rowG encI _ _ _ rfl i hi)
    all_goals (
      have e2 : missF (r) x.la = missK (r).W (r).ex k := miss_end hk hm (by omega)
      rw [e2]
      refine FinK.mk ⟨[0, 1, 2, 3, 4, 5, 6, 7, 8, 9, 10, 13], _, _, ⟨c, cl, cc, 1, _, 1, rfl, (fun h => by simp_all), (fun _ => ⟨rfl, rfl⟩), rfl⟩, ?_⟩
      (repeat' first | refine And.intro ?_ ?_ | exact xeC | fail)
      all_goals (
        intro i hi
        obtain rfl : i = 0 := by omega
        rfl))
    )
end Go.Proofs.Ytgcofipbdidhmaa


namespace Go.Proofs.Ytgcofipbdidhmaa
open Go.X
set_option linter.unusedSimpArgs false
set_option linter.unusedVariables false

/-! ### A reader, whole -/
structure Mx where
  (nd ex : Int) (rel : Bool) (W : Win) (ck : Nat)
structure Rd where
  (l : List Smp) (ls : List (Int × Int)) (M : List (Nat × Int)) (ck : Nat) (D : Nat → Option Mx)
def mtG (fw y x : Nat) (o : Option Mx) : Ck :=
  match o with
  | none => .no
  | some m => .cells true [.i .i64 x, .i .i64 m.nd, .i .i64 m.ex, .b m.rel, .mp fw y]
abbrev mtO (fw x : Nat) (o : Option Mx) : Ck := mtG fw x x o
def winO (o : Option Mx) : Ck :=
  match o with
  | none => .no
  | some m => wnd m.W m.ck
abbrev mapM (fm : Nat) (M : List (Nat × Int)) (ck : Nat) : Ck := .map true true ck M.length fun i => ((M.getD i default).1, .i (M.getD i default).2, .c (.p fm (M.getD i default).2.toNat 0))
abbrev mts (fw : Nat) (D : Nat → Option Mx) : Fam := .many fun x => mtO fw x (D x)
abbrev wins (D : Nat → Option Mx) : Fam := .many fun x => winO (D x)
def Rd.get (R : Rd) (w : Int) : Option Mx := if 1 ≤ w then R.D w.toNat else none
def Rd.exp (R : Rd) (w : Int) : Int := match R.get w with | some m => m.ex | none => 0
structure RdOk (R : Rd) : Prop where
  a : ∀ i, i < R.M.length → 1 ≤ (R.M.getD i default).2 ∧ ∃ m, R.D (R.M.getD i default).2.toNat = some m
  b : ∀ x m, R.D x = some m → ∃ i, i < R.M.length ∧ (R.M.getD i default).2 = x ∧ 1 ≤ x

theorem get_yes {R : Rd} (h : RdOk R) {i : Nat} (hi : i < R.M.length) {w : Int} (hk : (R.M.getD i default).2 = w) : ∃ m, R.get w = some m ∧ R.D w.toNat = some m ∧ 1 ≤ w := by
  obtain ⟨h1, m, hm⟩ := h.a i hi
  rw [hk] at h1 hm
  exact ⟨m, by unfold Rd.get; rw [if_pos h1, hm], hm, h1⟩
theorem get_no {R : Rd} (h : RdOk R) {w : Int} (hno : ∀ i, i < R.M.length → (R.M.getD i default).2 ≠ w) : R.get w = none := by
  unfold Rd.get
  split
  · rename_i h1
    cases hD : R.D w.toNat with
    | none => rfl
    | some m =>
      obtain ⟨i, hi, hk, _⟩ := h.b _ _ hD
      exact absurd (hk.trans (Int.toNat_of_nonneg (by omega))) (hno i hi)
  · rfl

theorem mtO_bel {n fw x : Nat} {o : Option Mx} (h : Nat.blt fw n = true) : (mtO fw x o).belK n True := by
  cases o with
  | none => trivial
  | some m => show ifB _ True; simp [C.belB, h, ifB]
theorem winO_bel {n : Nat} {o : Option Mx} : (winO o).belK n True := by
  cases o with
  | none => trivial
  | some m => exact ⟨fun i hi => rfl, trivial⟩

theorem mtG_rk (σ : List Sg) (N fw y x : Nat) (o : Option Mx) : (mtG fw y x o).rk σ N = mtG (key σ N fw y).1 (key σ N fw y).2 x o := by
  cases o with
  | none => rfl
  | some m => simp [mtG, Ck.rk, C.rk]
theorem mtO_rk {σ : List Sg} {N fw fw' x : Nat} {o : Option Mx} (h : key σ N fw x = (fw', x)) : (mtO fw x o).rk σ N = mtO fw' x o := by
  cases o with
  | none => rfl
  | some m => simp [mtO, mtG, Ck.rk, C.rk, h]
theorem winO_rk (σ : List Sg) (N : Nat) (o : Option Mx) : (winO o).rk σ N = winO o := by
  cases o <;> rfl
theorem mtR_bel {σ : List Sg} {n N fw fw' x : Nat} {o : Option Mx} (hk : key σ N fw x = (fw', x)) (h : Nat.blt fw' n = true) : ((mtO fw x o).rk σ N).belK n True := by
  rw [mtO_rk hk]; exact mtO_bel h
theorem winR_bel {σ : List Sg} {n N : Nat} {o : Option Mx} : ((winO o).rk σ N).belK n True := by
  rw [winO_rk]; exact winO_bel
theorem mtO_le {σ : List Sg} {N N' fw fw' x : Nat} {o : Option Mx} (h : key σ N' fw x = (fw', x)) : (mtO fw' x o).leK N ((mtO fw x o).rk σ N') True := by
  rw [mtO_rk h]
  cases o with
  | none => trivial
  | some m => simp [mtO, mtG, Ck.leK, sameB, eqL, C.eqK, sameK, ifB, kNat]
theorem winO_le {σ : List Sg} {N N' : Nat} {o : Option Mx} : (winO o).leK N ((winO o).rk σ N') True := by
  rw [winO_rk]
  cases o with
  | none => trivial
  | some m => exact ⟨rfl, rfl, rfl, rfl, fun _ _ => rfl, trivial⟩

set_option maxRecDepth 10000 in
set_option maxHeartbeats 4000000 in
theorem cexp (id : Int) (q : Qos) (R : Rd) (w : Int) (c cl : Nat) (hR : RdOk R) :
    Ctr Try.prog 17 [.c (.p 0 0 0), .c (.i .i64 w)] [.one (rdr 1 2 3 id q R.ls.length cl), .one .no, .one (mapM 4 R.M R.ck), .one .no, mts 5 R.D, .one .no]
      fun v h => v = .c (.i .i64 (R.exp w)) ∧ h = [.one (rdr 1 2 3 id q R.ls.length cl), .one .no, .one (mapM 4 R.M R.ck), .one .no, mts 5 R.D, .one .no] := by
  refine Ctr.mk' tbv mixed Try.func17 rfl rfl rfl (fun _ _ => by kernel_rfl) (by kernel_rfl) (by rfl) (by rfl) (by (repeat' first | refine And.intro ?_ ?_ | exact xeC | fail) <;> exact fun x => mtO_bel rfl) ?_
  repeat' (first | (fail_if_success (with_reducible refine xstp ?_)); first | (with_reducible refine Both.mk ?_ ?_) | ((with_reducible refine And.intro ?_ ?_); focus exact xoC) | (with_reducible intro hc; (try simp only [capsP, and_true] at hc); (try exact xfC)) | ((fail_if_success (with_reducible first | refine xgon ?_ | intro _)); (conv => whnf); (fail_if_success (fail_if_success (with_reducible first | refine xstp ?_ | refine Both.mk ?_ ?_ | refine xgon ?_ | intro _)))))
  · rename_i i hi hk j hj
    obtain ⟨m, hm, hD, h1⟩ := get_yes hR hj (Key.i.inj hc)
    have e1 : (R.M.getD j default).2 = w := Key.i.inj hc
    refine ManyK.mk ⟨mtO 5 w.toNat (some m), by simp only [e1, hD], ?_⟩
    repeat' (first | (fail_if_success (with_reducible refine xstp ?_)); first | ((fail_if_success (with_reducible first | refine xgon ?_ | intro _)); (conv => whnf); (fail_if_success (fail_if_success (with_reducible first | refine xstp ?_ | refine xgon ?_ | intro _)))))
    have e2 : R.exp w = m.ex := by unfold Rd.exp; rw [hm]
    rw [e2]
    refine FinK.mk ⟨[0, 1, 2, 3, 4, 5], _, _, ⟨rfl, rfl⟩, ?_⟩; (repeat' first | refine And.intro ?_ ?_ | exact xeC | fail)
    all_goals first | exact fun x => mtO_le rfl | exact fun x => mtO_bel rfl
  · exact absurd (by assumption) (hc _ (by assumption))
  · have hn := get_no hR (w := w) fun i hi h => hc i hi (by rw [h])
    have e2 : R.exp w = 0 := by unfold Rd.exp; rw [hn]
    rw [e2]
    refine FinK.mk ⟨[0, 1, 2, 3, 4, 5], _, _, ⟨rfl, rfl⟩, ?_⟩; (repeat' first | refine And.intro ?_ ?_ | exact xeC | fail)
    all_goals first | exact fun x => mtO_le rfl | exact fun x => mtO_bel rfl

set_option maxRecDepth 10000 in
theorem cwait (id : Int) (q : Qos) (l : List Smp) (n c cl : Nat) :
    Ctr Try.prog 18 [.c (.p 0 0 0)] [.one (rdr 1 2 3 id q n cl), .one (hist 4 q l.length c), .one .no, .one .no, .one (smps true l c)]
      fun v h => v = .c (.i .i64 l.length) ∧ h = [.one (rdr 1 2 3 id q n cl), .one (hist 4 q l.length c), .one .no, .one .no, .one (smps true l c)] := by
  refine Ctr.mk' tbv mixed Try.func18 rfl rfl rfl (fun _ _ => by kernel_rfl) (by kernel_rfl) (by rfl) (by rfl) (by (repeat' first | refine And.intro ?_ ?_ | exact xeC | fail)) ?_
  repeat' (first | (fail_if_success (with_reducible refine xstp ?_)); first | (with_reducible intro hc; (try simp only [capsP, and_true] at hc); (try exact xfC)) | ((fail_if_success (with_reducible first | refine xgon ?_ | intro _)); (conv => whnf); (fail_if_success (fail_if_success (with_reducible first | refine xstp ?_ | refine xgon ?_ | intro _)))))
  refine xcal (σ := [.whole 1, .whole 4]) (nl := []) (ilen q l c) ?_
  rintro v h' ⟨rfl, rfl⟩ hcaps
  refine xret ?_
  repeat' (first | (fail_if_success (with_reducible refine xstp ?_)); first | ((fail_if_success (with_reducible first | refine xgon ?_ | intro _)); (conv => whnf); (fail_if_success (fail_if_success (with_reducible first | refine xstp ?_ | refine xgon ?_ | intro _)))))
  refine FinK.mk ⟨[0, 1, 2, 3, 4], _, _, ⟨rfl, rfl⟩, ?_⟩; (repeat' first | refine And.intro ?_ ?_ | exact xeC | fail)

set_option maxRecDepth 10000 in
theorem cclone (wa : Bool) (l : List (Int × Int)) (c : Nat) (hl : l.length ≤ 1000000) :
    Ctr Try.prog 38 [.c (.sl 0 0 2 0 l.length c)] [.one (lss wa l c)]
      fun v h => ∃ c', v = .c (.sl 1 0 2 0 l.length c') ∧ h = [.one (lss wa l c), .one (lss true l c')] := by
  refine Ctr.mk' tbv mixed Try.func38 rfl rfl rfl (fun _ _ => by kernel_rfl) (by kernel_rfl) (by rfl) (by rfl) (by (repeat' first | refine And.intro ?_ ?_ | exact xeC | fail)) ?_
  repeat' (first | (fail_if_success (with_reducible refine xstp ?_)); first | ((with_reducible refine And.intro (fun (hb : _ = true) => ?_) (fun (hb : _ = false) => ?_)) <;> replace hb := xnC hb <;> (try first | exact xfC | exact bff hb (by assumption) | exact bff (by assumption) hb)) | ((with_reducible refine And.intro ?_ ?_); focus exact xoC) | ((with_reducible refine Or.inl ⟨?_, ?_, ?_⟩); (focus rfl); focus exact xaC) | (with_reducible intro hc; (try simp only [capsP, and_true] at hc); (try exact xfC)) | ((fail_if_success (with_reducible first | refine xgon ?_ | intro _)); (conv => whnf); (fail_if_success (fail_if_success (with_reducible first | refine xstp ?_ | refine xgon ?_ | intro _)))))
  · have h0 : c = 0 := ‹_ → c = 0› ‹_›
    have : l = [] := List.eq_nil_of_length_eq_zero (by omega)
    subst this
    refine FinK.mk ⟨[0, 7], _, _, ⟨0, rfl, rfl⟩, ?_⟩
    (repeat' first | refine And.intro ?_ ?_ | exact xeC | fail)
    all_goals skip
  · rename_i c2
    refine FinK.mk ⟨[0, 2], _, _, ⟨c2, rfl, rfl⟩, ?_⟩
    (repeat' first | refine And.intro ?_ ?_ | exact xeC | fail)
    · omega
    · intro i hi
      unfold appF
      rw [if_neg (by omega)]
      simp

set_option maxRecDepth 10000 in
set_option maxHeartbeats 4000000 in
theorem closses (id : Int) (q : Qos) (ls : List (Int × Int)) (cl : Nat) (hls : ls.length ≤ 1000000) :
    Ctr Try.prog 16 [.c (.p 0 0 0)] [.one (rdr 1 2 3 id q ls.length cl), .one .no, .one .no, .one (lss true ls cl)]
      fun v h => ∃ c', v = .c (.sl 5 0 2 0 ls.length c') ∧ h = [.one (rdr 1 2 4 id q 0 0), .one .no, .one .no, .one .no, .one (lss true [] 0), .one (lss true ls c')] := by
  refine Ctr.mk' tbv mixed Try.func16 rfl rfl rfl (fun _ _ => by kernel_rfl) (by kernel_rfl) (by rfl) (by rfl) (by (repeat' first | refine And.intro ?_ ?_ | exact xeC | fail)) ?_
  repeat' (first | (fail_if_success (with_reducible refine xstp ?_)); first | (with_reducible intro hc; (try simp only [capsP, and_true] at hc); (try exact xfC)) | ((fail_if_success (with_reducible first | refine xgon ?_ | intro _)); (conv => whnf); (fail_if_success (fail_if_success (with_reducible first | refine xstp ?_ | refine xgon ?_ | intro _)))))
  refine xcal (σ := [.whole 3]) (nl := []) (cclone true ls cl hls) ?_
  rintro v h' ⟨c', rfl, rfl⟩ hcaps
  refine xret ?_
  repeat' (first | (fail_if_success (with_reducible refine xstp ?_)); first | ((fail_if_success (with_reducible first | refine xgon ?_ | intro _)); (conv => whnf); (fail_if_success (fail_if_success (with_reducible first | refine xstp ?_ | refine xgon ?_ | intro _)))))
  refine FinK.mk ⟨[0, 1, 2, 3, 99, 4], _, _, ⟨c', rfl, rfl⟩, ?_⟩
  (repeat' first | refine And.intro ?_ ?_ | exact xeC | fail)

def tkN (l : List Smp) (most : Int) : Nat := (min (l.length : Int) most).toNat
def restF (l : List Smp) (k : Nat) : List Smp := (l.take k).foldl (fun m s => m.filter fun x => !isS s.w s.q x) l

theorem rest_succ (l : List Smp) {k : Nat} (hk : k < l.length) : restF l (k + 1) = (restF l k).filter fun x => !isS (l.getD k default).w (l.getD k default).q x := by
  unfold restF
  rw [← List.take_append_getElem hk, List.foldl_append, getD_at hk]
  rfl
theorem rest_len (l : List Smp) (k : Nat) : (restF l k).length ≤ l.length := by
  unfold restF
  generalize l.take k = t
  suffices ∀ m : List Smp, m.length ≤ l.length → (t.foldl (fun m s => m.filter fun x => !isS s.w s.q x) m).length ≤ l.length from this l (Nat.le_refl _)
  induction t with
  | nil => intro m h; exact h
  | cons a t ih =>
    intro m h
    exact ih _ (Nat.le_trans (List.length_filter_le _ _) h)

set_option maxRecDepth 10000 in
set_option maxHeartbeats 4000000 in
theorem ctake (id : Int) (q : Qos) (l : List Smp) (n c cl : Nat) (at' most : Int) (hl : l.length ≤ 1000000) :
    Ctr Try.prog 15 [.c (.p 0 0 0), .c (.i .i64 at'), .c (.i .i64 most)] [.one (rdr 1 2 3 id q n cl), .one (hist 4 q l.length c), .one .no, .one .no, .one (smps true l c)]
      fun v h => ∃ c' co, v = .c (.sl 6 0 4 0 (l.take (tkN l most)).length co) ∧ h = [.one (rdr 1 2 3 id q n cl), .one (hist 5 q (restF l (tkN l most)).length c'), .one .no, .one .no, .one .no, .one (smps true (restF l (tkN l most)) c'), .one (smps true (l.take (tkN l most)) co)] := by
  refine Ctr.mk' tbv mixed Try.func15 rfl rfl rfl (fun _ _ => by kernel_rfl) (by kernel_rfl) (by rfl) (by rfl) (by (repeat' first | refine And.intro ?_ ?_ | exact xeC | fail)) ?_
  repeat' (first | (fail_if_success (with_reducible refine xstp ?_)); first | ((with_reducible refine And.intro (fun (hb : _ = true) => ?_) (fun (hb : _ = false) => ?_)) <;> replace hb := xnC hb <;> (try first | exact xfC | exact bff hb (by assumption) | exact bff (by assumption) hb)) | (with_reducible intro hc; (try simp only [capsP, and_true] at hc); (try exact xfC)) | ((fail_if_success (with_reducible first | refine xgon ?_ | intro _)); (conv => whnf); (fail_if_success (fail_if_success (with_reducible first | refine xstp ?_ | refine xgon ?_ | intro _)))))
  · have e1 : tkN l most = 0 := by unfold tkN; omega
    rw [e1]
    refine FinK.mk ⟨[0, 1, 2, 3, 4, 4, 99], _, _, ⟨c, 0, rfl, rfl⟩, ?_⟩
    (repeat' first | refine And.intro ?_ ?_ | exact xeC | fail)
  refine xcal (σ := [.whole 1, .whole 4]) (nl := []) (ilist q l c hl) ?_
  rintro v h' ⟨c', rfl, rfl⟩ hcaps
  have hc' : l.length ≤ c' := hcaps.2.1
  refine xret ?_
  repeat' (first | (fail_if_success (with_reducible refine xstp ?_)); first | ((with_reducible refine And.intro ?_ ?_); focus exact xoC) | ((fail_if_success (with_reducible first | refine xgon ?_ | intro _)); (conv => whnf); (fail_if_success (fail_if_success (with_reducible first | refine xstp ?_ | refine xgon ?_ | intro _)))))
  generalize hK : tkN l most = K
  have eK : (min (l.length : Int) most).toNat = K := hK
  have hKl : K ≤ l.length := by omega
  rw [List.length_take, Nat.min_eq_left hKl]
  simp only [eK]
  refine LoopK.mk' ({k : Nat // k ≤ K} × Nat)
    (fun ⟨⟨k, _⟩, cc⟩ => ⟨[(0, .c (.p 0 0 0)), (7, .c (.sl 5 0 4 0 K c')), (27, .c (.sl 5 0 4 0 K c')), (28, .c (.i .i64 K)), (29, .c (.i .i64 k))],
      [.one (rdr 1 2 3 id q n cl), .one (hist 6 q (restF l k).length cc), .one .no, .one .no, .one .no, .one (smps true l c'), .one (smps true (restF l k) cc)]⟩)
    (fun k => K - k.1.1)
    ⟨⟨⟨0, Nat.zero_le _⟩, c⟩, [0, 1, 2, 3, 4, 5, 4], ?_⟩ ?_
  · (repeat' first | refine And.intro ?_ ?_ | exact xeC | fail)
  rintro ⟨⟨k, hk⟩, cc⟩
  have hrl := rest_len l k
  repeat' (first | (fail_if_success (with_reducible refine xstp ?_)); first | ((with_reducible refine And.intro (fun (hb : _ = true) => ?_) (fun (hb : _ = false) => ?_)) <;> replace hb := xnC hb <;> (try first | exact xfC | exact bff hb (by assumption) | exact bff (by assumption) hb)) | ((with_reducible refine And.intro ?_ ?_); focus exact xoC) | (with_reducible intro hc; (try simp only [capsP, and_true] at hc); (try exact xfC)) | ((fail_if_success (with_reducible first | refine xgon ?_ | intro _)); (conv => whnf); (fail_if_success (fail_if_success (with_reducible first | refine xstp ?_ | refine xgon ?_ | intro _)))))
  · simp only [Int.toNat_natCast, Nat.zero_add]
    refine xcal (σ := [.whole 1, .whole 6]) (nl := []) (iremove q (restF l k) cc (l.getD k default).w (l.getD k default).q (by omega)) ?_
    rintro v h' ⟨c2, rfl, rfl⟩ hcaps
    refine xret ?_
    repeat' (first | (fail_if_success (with_reducible refine xstp ?_)); first | ((with_reducible refine And.intro ?_ ?_); focus exact xoC) | ((fail_if_success (with_reducible first | refine xgon ?_ | intro _)); (conv => whnf); (fail_if_success (fail_if_success (with_reducible first | refine xstp ?_ | refine xgon ?_ | intro _)))))
    refine ⟨⟨⟨k + 1, by omega⟩, c2⟩, [0, 1, 2, 3, 4, 5, 8], by simp only; omega, ?_⟩
    simp only [rest_succ l (show k < l.length by omega)]
    (repeat' first | refine And.intro ?_ ?_ | exact xeC | fail)
  · have ek : k = K := by omega
    subst ek
    refine FinK.mk ⟨[0, 1, 2, 3, 4, 6, 5], _, _, ⟨cc, c', rfl, rfl⟩, ?_⟩
    (repeat' first | refine And.intro ?_ ?_ | exact xeC | fail)
    all_goals first
      | (rw [List.length_take]; omega)
      | (intro i hi
         rw [List.length_take] at hi
         unfold rowOf
         congr 1
         simp only [List.getD]
         rw [List.getElem?_take_of_lt (by omega)])
      | (intro i hi; rw [List.length_take] at hi; simp [rowOf, List.getD, List.getElem?_take]; omega)
end Go.Proofs.Ytgcofipbdidhmaa


namespace Go.Proofs.Ytgcofipbdidhmaa
open Go.X
set_option linter.unusedSimpArgs false
set_option linter.unusedVariables false

def upd (R : Rd) (w : Int) (m : Mx) (r : Rs) : Rd := ⟨r.l, r.ls, R.M, R.ck, fun y => if y = w.toNat then some ⟨m.nd, r.ex, m.rel, r.W, r.ck⟩ else R.D y⟩
def Rd.rs (R : Rd) (m : Mx) : Rs := ⟨R.l, R.ls, m.ex, m.W, m.ck⟩
def recvE (x : Pkt) (R : Rd) : Int := match R.get x.w with | none => 6 | some _ => checkP x
def stepF (q : Qos) (x : Pkt) (m : Mx) (r : Rs) : Rs := if x.k = 1 then dataF q x.w m.rel x r else if x.k = 4 then gapF q x.w m.rel x r else hbF q x.w m.rel x r
def recvR (q : Qos) (x : Pkt) (R : Rd) : Rd :=
  match R.get x.w with
  | none => R
  | some m => if checkP x = 0 then upd R x.w m (stepF q x m (R.rs m)) else R
def recvA (id : Int) (q : Qos) (x : Pkt) (at' : Int) (R : Rd) : Option (Pkt × List Int) :=
  match R.get x.w with
  | none => none
  | some m => if checkP x = 0 ∧ x.k = 2 ∧ m.rel = true then some (ackP id x.w m.nd at' x (hbF q x.w m.rel x (R.rs m)), missF (hbF q x.w m.rel x (R.rs m)) x.la) else none
def ackN (a : Option (Pkt × List Int)) : Nat := match a with | none => 0 | some _ => 1
def ackL (a : Option (Pkt × List Int)) : List Int := match a with | none => [] | some p => p.2
def ackK (a : Option (Pkt × List Int)) : Pkt := match a with | none => default | some p => p.1
def AllInv (R : Rd) (A B : Nat) : Prop := ∀ x m, R.D x = some m → Inv (R.rs m) A B
abbrev rdB (id : Int) (q : Qos) (R : Rd) (c cl : Nat) : List Fam := [.one (rdr 1 2 3 id q R.ls.length cl), .one (hist 4 q R.l.length c), .one (mapM 5 R.M R.ck), .one (lss true R.ls cl), .one (smps true R.l c), mts 6 R.D, wins R.D, .one .no]
abbrev rdA (id : Int) (q : Qos) (R : Rd) (c cl : Nat) (a : Option (Pkt × List Int)) (cm cp : Nat) : List Fam := [.one (rdr 1 2 8 id q R.ls.length cl), .one (hist 9 q R.l.length c), .one (mapM 5 R.M R.ck), .one .no, .one .no, mts 6 R.D, wins R.D, .one .no, .one (lss true R.ls cl), .one (smps true R.l c),
  .one (ints true (ackL a) cm), .one (pkts true 10 (ackN a) cp (ackL a).length cm (ackK a))]

theorem many_upd {N N' : Nat} {σ : List Sg} {G G' : Nat → Ck} {X : Nat} {c0 c1 : Ck} (h1 : c1.leK N ((G' X).rk σ N') True) (h2 : ∀ y, y ≠ X → (G y).leK N ((G' y).rk σ N') True) (y : Nat) :
    ((fun y => if y = X then c1 else if y = X then c0 else G y) y).leK N ((fun x => (G' x).rk σ N') y) True := by
  by_cases hy : y = X
  · subst hy
    simpa using h1
  · simpa [hy] using h2 y hy
theorem okN_of {x : Pkt} (h : checkP x = 0) (hk : x.k = 1) : okN x.q := by
  unfold checkP at h
  rw [if_pos hk] at h
  split at h
  · rename_i h1; exact h1.1
  · omega
theorem kind_of {x : Pkt} (h : checkP x = 0) (h1 : x.k ≠ 1) (h2 : x.k ≠ 4) : x.k = 2 := by
  unfold checkP at h
  rw [if_neg h1, if_neg h2] at h
  by_cases h3 : x.k = 2
  · exact h3
  · rw [if_neg h3] at h; omega
theorem upd_mt {N N' fw fw' : Nat} {σ : List Sg} {R : Rd} {w : Int} {m : Mx} {r : Rs} {c0 : Ck} (hw : 1 ≤ w) (hk : ∀ x, key σ N' fw x = (fw', x)) (y : Nat) :
    ((fun y => if y = w.toNat then Ck.cells true [.i .i64 w, .i .i64 m.nd, .i .i64 r.ex, .b m.rel, .mp fw' w.toNat] else if y = w.toNat then c0 else mtO fw' y (R.D y)) y).leK N ((fun x => (mtO fw x ((upd R w m r).D x)).rk σ N') y) True := by
  refine many_upd (G := fun y => mtO fw' y (R.D y)) (G' := fun x => mtO fw x ((upd R w m r).D x)) ?_ (fun y hy => ?_) y
  · show Ck.leK _ _ (Ck.rk _ _ (mtO _ _ (if _ = _ then _ else _))) True
    rw [if_pos rfl, mtO_rk (hk _)]
    simp only [mtO, mtG, Int.toNat_of_nonneg (show 0 ≤ w by omega)]
    simp [Ck.leK, sameB, eqL, C.eqK, sameK, ifB, kNat]
  · show Ck.leK _ _ (Ck.rk _ _ (mtO _ _ (if _ = _ then _ else _))) True
    rw [if_neg hy]
    exact mtO_le (hk _)
theorem upd_win {N N' : Nat} {σ : List Sg} {R : Rd} {w : Int} {m : Mx} {r : Rs} {c0 : Ck} (y : Nat) :
    ((fun y => if y = w.toNat then wnd r.W r.ck else if y = w.toNat then c0 else winO (R.D y)) y).leK N ((fun x => (winO ((upd R w m r).D x)).rk σ N') y) True := by
  refine many_upd (G := fun y => winO (R.D y)) (G' := fun x => winO ((upd R w m r).D x)) ?_ (fun y hy => ?_) y
  · show Ck.leK _ _ (Ck.rk _ _ (winO (if _ = _ then _ else _))) True
    rw [if_pos rfl]
    exact ⟨rfl, rfl, rfl, rfl, fun _ _ => rfl, trivial⟩
  · show Ck.leK _ _ (Ck.rk _ _ (winO (if _ = _ then _ else _))) True
    rw [if_neg hy]
    exact winO_le

theorem rH19C0 {σ : List Sg} {H h' : List Fam} {v : T} {K : T → List Fam → Prop} {H' : List Fam} {v' : T} {N : Nat} (hk : K v' H') (hN : H.length = N := by (try simp only [↓List.length_cons, ↓List.length_nil, Nat.reduceAdd]) <;> rfl) (h : givesF σ N H σ h' = some H' := by (try simp (maxSteps := 1000000) only [givesF, setF, updF, Fam.zeroth, Fam.rk, Ck.rk, C.rk, E.rk, T.rk, key, List.map_cons, List.map_nil, List.cons_append, List.nil_append, List.length_cons, List.length_nil, Option.map_some, Option.bind_some, Nat.reduceAdd, Nat.zero_add, Nat.add_zero, Nat.add_sub_cancel_left, Int.toNat_natCast, reps, List.all_cons, List.all_nil, C.flat, List.append_eq, Bool.not_true, Bool.and_true, Bool.or_false, Bool.or_self, Bool.not_false, List.append_nil, Bool.and_self, encP]) <;> rfl) (hv : v.rk σ N = v' := by (try simp only [givesF, setF, updF, Fam.zeroth, Fam.rk, Ck.rk, C.rk, E.rk, T.rk, key, List.map_cons, List.map_nil, List.cons_append, List.nil_append, List.length_cons, List.length_nil, Option.map_some, Option.bind_some, Nat.reduceAdd, Nat.zero_add, Nat.add_zero, Nat.add_sub_cancel_left, Int.toNat_natCast, reps, List.all_cons, List.all_nil, C.flat, List.append_eq, Bool.not_true, Bool.and_true, Bool.or_false, Bool.or_self, Bool.not_false, List.append_nil, Bool.and_self, encP]) <;> rfl) : RetG σ H h' v K := ret_mk3 hN h hv hk
set_option maxRecDepth 10000 in
set_option maxHeartbeats 8000000 in
theorem crecv (id : Int) (q : Qos) (R : Rd) (c cl n cm : Nat) (x : Pkt) (at' : Int) (hR : RdOk R) (hI : AllInv R 800000 700000) (xm : Nat := 0) :
    Ctr Try.prog 14 [.c (.p 0 0 0), .a (encP (.sl 7 xm 1 0 n cm) x), .c (.i .i64 at')] (rdB id q R c cl)
      fun v h => ∃ c' cl' cm' cp', v = .t [.c (.sl 11 0 11 0 (ackN (recvA id q x at' R)) cp'), .c (.i .i64 (recvE x R))] ∧ h = rdA id q (recvR q x R) c' cl' (recvA id q x at' R) cm' cp' := by
  refine Ctr.mk' tbv mixed Try.func14 rfl rfl rfl (fun _ _ => by kernel_rfl) (by kernel_rfl) (by rfl) (by rfl) (by (repeat' first | refine And.intro ?_ ?_ | exact xeC | fail) <;> first | exact fun x => mtO_bel rfl | exact fun x => winO_bel) ?_
  repeat' (first | (fail_if_success (with_reducible refine xstp ?_)); first | (with_reducible refine Both.mk ?_ ?_) | ((with_reducible refine And.intro ?_ ?_); focus exact xoC) | (with_reducible intro hc; (try simp only [capsP, and_true] at hc); (try exact xfC)) | ((fail_if_success (with_reducible first | refine xgon ?_ | intro _)); (conv => whnf); (fail_if_success (fail_if_success (with_reducible first | refine xstp ?_ | refine Both.mk ?_ ?_ | refine xgon ?_ | intro _)))))
  · rename_i i hi
    obtain ⟨m, hm, hD, h1⟩ := get_yes hR hi (Key.i.inj hc)
    have e1 : (R.M.getD i default).2 = x.w := Key.i.inj hc
    have hIm := hI _ _ hD
    have hmt : mtO 6 x.w.toNat (R.D x.w.toNat) = .cells true [.i .i64 x.w, .i .i64 m.nd, .i .i64 m.ex, .b m.rel, .mp 6 x.w.toNat] := by
      rw [hD]
      show Ck.cells true [.i .i64 (x.w.toNat : Nat), _, _, _, _] = _
      rw [Int.toNat_of_nonneg (by omega)]
    have hwn : winO (R.D x.w.toNat) = wnd m.W m.ck := by rw [hD]; rfl
    refine xcal (σ := [.name 7]) (nl := []) (ccheck x n cm xm) ?_
    rintro v h' ⟨rfl, rfl⟩ hcaps
    refine rH19C0 ?_
    repeat' (first | (fail_if_success (with_reducible refine xstp ?_)); first | ((with_reducible refine And.intro (fun (hb : _ = true) => ?_) (fun (hb : _ = false) => ?_)) <;> replace hb := xnC hb <;> (try first | exact xfC | exact bff hb (by assumption) | exact bff (by assumption) hb)) | ((fail_if_success (with_reducible first | refine xgon ?_ | intro _)); (conv => whnf); (fail_if_success (fail_if_success (with_reducible first | refine xstp ?_ | refine xgon ?_ | intro _)))))
    · have e2 : recvE x R = checkP x := by unfold recvE; rw [hm]
      have e3 : recvR q x R = R := by unfold recvR; rw [hm]; exact if_neg hb
      have e4 : recvA id q x at' R = none := by unfold recvA; rw [hm]; exact if_neg (fun h => hb h.1)
      rw [e2, e3, e4]
      refine FinK.mk ⟨[0, 1, 2, 3, 4, 5, 6, 7, 3, 4, 98, 99], _, _, ⟨c, cl, 0, 0, rfl, rfl⟩, ?_⟩
      (repeat' first | refine And.intro ?_ ?_ | exact xeC | fail)
      all_goals (first | exact fun _ => trivial | exact fun x => mtO_le rfl | exact fun x => winO_le | exact fun x => mtO_bel rfl | exact fun x => winO_bel | exact fun x => mtR_bel rfl rfl | exact fun x => winR_bel)
    all_goals have hck : checkP x = 0 := by assumption
    · refine xcal (σ := [.whole 0, .whole 1, .name 2, .whole 3, .whole 4, .mem 5 (x.w.toNat), .mem 6 (x.w.toNat), .name 7]) (nl := []) (cdata id q x.w m.nd m.rel (R.rs m) c cl n cm x hIm.ok ⟨hIm.lo, hIm.hi⟩ hIm.l hIm.ls (okN_of hck hb) xm) ?_ (hle := by (repeat' first | refine And.intro ?_ ?_ | exact xeC | fail) <;> (refine ManyK.mk ⟨_, hmt, ?_⟩ <;> (repeat' first | refine And.intro ?_ ?_ | exact xeC | fail) <;> refine ManyK.mk ⟨_, hwn, ?_⟩ <;> (repeat' first | refine And.intro ?_ ?_ | exact xeC | fail) <;> (rw [e1])))
      rintro v h' ⟨rfl, c2, cl2, rfl⟩ hcaps
      refine rH19C0 ?_
      repeat' (first | (fail_if_success (with_reducible refine xstp ?_)); first | ((fail_if_success (with_reducible first | refine xgon ?_ | intro _)); (conv => whnf); (fail_if_success (fail_if_success (with_reducible first | refine xstp ?_ | refine xgon ?_ | intro _)))))
      have e2 : recvE x R = 0 := by unfold recvE; rw [hm]; exact hck
      have e3 : recvR q x R = upd R x.w m (dataF q x.w m.rel x (R.rs m)) := by unfold recvR; rw [hm]; simp only [if_pos hck, stepF, hb, if_true]
      have e4 : recvA id q x at' R = none := by unfold recvA; rw [hm]; exact if_neg (fun h => by omega)
      rw [e2, e3, e4]
      generalize dataF q x.w m.rel x (R.rs m) = r'
      refine FinK.mk ⟨[0, 1, 2, 3, 4, 5, 6, 7, 9, 10, 98, 99], _, _, ⟨c2, cl2, 0, 0, rfl, rfl⟩, ?_⟩
      (repeat' first | refine And.intro ?_ ?_ | exact xeC | fail)
      all_goals first | (first | exact fun _ => trivial | exact fun x => mtO_le rfl | exact fun x => winO_le | exact fun x => mtO_bel rfl | exact fun x => winO_bel | exact fun x => mtR_bel rfl rfl | exact fun x => winR_bel) | exact upd_mt h1 (fun _ => rfl) | exact upd_win
    · rename_i hb1
      refine xcal (σ := [.whole 0, .whole 1, .name 2, .whole 3, .whole 4, .mem 5 (x.w.toNat), .mem 6 (x.w.toNat), .name 7]) (nl := []) (cgap id q x.w m.nd m.rel (R.rs m) c cl n cm x hIm.ok ⟨hIm.lo, hIm.hi⟩ hIm.l hIm.ls hck hb xm) ?_ (hle := by (repeat' first | refine And.intro ?_ ?_ | exact xeC | fail) <;> (refine ManyK.mk ⟨_, hmt, ?_⟩ <;> (repeat' first | refine And.intro ?_ ?_ | exact xeC | fail) <;> refine ManyK.mk ⟨_, hwn, ?_⟩ <;> (repeat' first | refine And.intro ?_ ?_ | exact xeC | fail) <;> (rw [e1])))
      rintro v h' ⟨rfl, c2, cl2, rfl⟩ hcaps
      refine rH19C0 ?_
      repeat' (first | (fail_if_success (with_reducible refine xstp ?_)); first | ((fail_if_success (with_reducible first | refine xgon ?_ | intro _)); (conv => whnf); (fail_if_success (fail_if_success (with_reducible first | refine xstp ?_ | refine xgon ?_ | intro _)))))
      have e2 : recvE x R = 0 := by unfold recvE; rw [hm]; exact hck
      have e3 : recvR q x R = upd R x.w m (gapF q x.w m.rel x (R.rs m)) := by unfold recvR; rw [hm]; simp only [if_pos hck, stepF, if_neg hb1, if_pos hb]
      have e4 : recvA id q x at' R = none := by unfold recvA; rw [hm]; exact if_neg (fun h => by omega)
      rw [e2, e3, e4]
      generalize gapF q x.w m.rel x (R.rs m) = r'
      refine FinK.mk ⟨[0, 1, 2, 3, 4, 5, 6, 7, 9, 10, 98, 99], _, _, ⟨c2, cl2, 0, 0, rfl, rfl⟩, ?_⟩
      (repeat' first | refine And.intro ?_ ?_ | exact xeC | fail)
      all_goals first | (first | exact fun _ => trivial | exact fun x => mtO_le rfl | exact fun x => winO_le | exact fun x => mtO_bel rfl | exact fun x => winO_bel | exact fun x => mtR_bel rfl rfl | exact fun x => winR_bel) | exact upd_mt h1 (fun _ => rfl) | exact upd_win
    · rename_i hb1
      have hk2 := kind_of hck hb1 hb
      refine xcal (σ := [.whole 0, .whole 1, .name 2, .whole 3, .whole 4, .mem 5 (x.w.toNat), .mem 6 (x.w.toNat), .name 7]) (nl := []) (cheart id q x.w m.nd m.rel (R.rs m) c cl n cm x at' hIm hck hk2 xm) ?_ (hle := by (repeat' first | refine And.intro ?_ ?_ | exact xeC | fail) <;> (refine ManyK.mk ⟨_, hmt, ?_⟩ <;> (repeat' first | refine And.intro ?_ ?_ | exact xeC | fail) <;> refine ManyK.mk ⟨_, hwn, ?_⟩ <;> (repeat' first | refine And.intro ?_ ?_ | exact xeC | fail) <;> (rw [e1])))
      rintro v h' ⟨c2, cl2, cm2, cp2, nm, np, rfl, hr0, hr1, rfl⟩ hcaps
      refine rH19C0 ?_
      repeat' (first | (fail_if_success (with_reducible refine xstp ?_)); first | ((fail_if_success (with_reducible first | refine xgon ?_ | intro _)); (conv => whnf); (fail_if_success (fail_if_success (with_reducible first | refine xstp ?_ | refine xgon ?_ | intro _)))))
      have e2 : recvE x R = 0 := by unfold recvE; rw [hm]; exact hck
      have e3 : recvR q x R = upd R x.w m (hbF q x.w m.rel x (R.rs m)) := by unfold recvR; rw [hm]; simp only [if_pos hck, stepF, if_neg hb1, if_neg hb]
      rw [e2, e3]
      rcases (by cases m.rel <;> simp : m.rel = false ∨ m.rel = true) with hrel | hrel
      · obtain ⟨rfl, rfl⟩ := hr0 hrel
        have e4 : recvA id q x at' R = none := by unfold recvA; rw [hm]; exact if_neg (fun h => by rw [hrel] at h; simp at h)
        rw [e4]
        generalize hbF q x.w m.rel x (R.rs m) = r'
        refine FinK.mk ⟨[0, 1, 2, 3, 4, 5, 6, 7, 9, 10, 11, 12], _, _, ⟨c2, cl2, cm2, cp2, rfl, rfl⟩, ?_⟩
        (repeat' first | refine And.intro ?_ ?_ | exact xeC | fail)
        all_goals first | (first | exact fun _ => trivial | exact fun x => mtO_le rfl | exact fun x => winO_le | exact fun x => mtO_bel rfl | exact fun x => winO_bel | exact fun x => mtR_bel rfl rfl | exact fun x => winR_bel) | exact upd_mt h1 (fun _ => rfl) | exact upd_win | (intro i hi; exact absurd hi (Nat.not_lt_zero i))
      · obtain ⟨rfl, rfl⟩ := hr1 hrel
        have e4 : recvA id q x at' R = some (ackP id x.w m.nd at' x (hbF q x.w m.rel x (R.rs m)), missF (hbF q x.w m.rel x (R.rs m)) x.la) := by unfold recvA; rw [hm]; exact if_pos ⟨hck, hk2, hrel⟩
        rw [e4]
        generalize hbF q x.w m.rel x (R.rs m) = r'
        refine FinK.mk ⟨[0, 1, 2, 3, 4, 5, 6, 7, 9, 10, 11, 12], _, _, ⟨c2, cl2, cm2, cp2, rfl, rfl⟩, ?_⟩
        (repeat' first | refine And.intro ?_ ?_ | exact xeC | fail)
        all_goals first | (first | exact fun _ => trivial | exact fun x => mtO_le rfl | exact fun x => winO_le | exact fun x => mtO_bel rfl | exact fun x => winO_bel | exact fun x => mtR_bel rfl rfl | exact fun x => winR_bel) | exact upd_mt h1 (fun _ => rfl) | exact upd_win
  · have hn := get_no hR (w := x.w) fun i hi h => hc i hi (by rw [h])
    have e2 : recvE x R = 6 := by unfold recvE; rw [hn]
    have e3 : recvR q x R = R := by unfold recvR; rw [hn]
    have e4 : recvA id q x at' R = none := by unfold recvA; rw [hn]
    rw [e2, e3, e4]
    refine FinK.mk ⟨[0, 1, 2, 3, 4, 5, 6, 7, 3, 4, 98, 99], _, _, ⟨c, cl, 0, 0, rfl, rfl⟩, ?_⟩
    (repeat' first | refine And.intro ?_ ?_ | exact xeC | fail)
    all_goals (first | exact fun _ => trivial | exact fun x => mtO_le rfl | exact fun x => winO_le | exact fun x => mtO_bel rfl | exact fun x => winO_bel | exact fun x => mtR_bel rfl rfl | exact fun x => winR_bel)
end Go.Proofs.Ytgcofipbdidhmaa


namespace Go.Proofs.Ytgcofipbdidhmaa
open Go.X
set_option linter.unusedSimpArgs false
set_option linter.unusedVariables false

def wthn (o r : Int) : Prop := r = 0 ∨ (o ≠ 0 ∧ o ≤ r)
instance (o r : Int) : Decidable (wthn o r) := by unfold wthn; infer_instance
def viol (o r : Qos) : Int :=
  if r.rel = true ∧ o.rel = false then 1 else if r.dur = true ∧ o.dur = false then 2
  else if ¬ wthn o.dead r.dead then 3 else if ¬ wthn o.lease r.lease then 4 else 0

set_option maxRecDepth 10000 in
theorem cwithin (o r : Int) : Ctr Try.prog 73 [.c (.i .i64 o), .c (.i .i64 r)] [] fun v h => v = .c (.b (decide (wthn o r))) ∧ h = [] := by
  refine Ctr.mk' tbv mixed Try.func73 rfl rfl rfl (fun _ _ => by kernel_rfl) (by kernel_rfl) (by rfl) (by rfl) (by (repeat' first | refine And.intro ?_ ?_ | exact xeC | fail)) ?_
  repeat' (first | (fail_if_success (with_reducible refine xstp ?_)); first | ((with_reducible refine And.intro (fun (hb : _ = true) => ?_) (fun (hb : _ = false) => ?_)) <;> replace hb := xnC hb <;> (try first | exact xfC | exact bff hb (by assumption) | exact bff (by assumption) hb)) | (with_reducible intro hc; (try simp only [capsP, and_true] at hc); (try exact xfC)) | ((fail_if_success (with_reducible first | refine xgon ?_ | intro _)); (conv => whnf); (fail_if_success (fail_if_success (with_reducible first | refine xstp ?_ | refine xgon ?_ | intro _)))))
  all_goals (
    refine FinK.mk ⟨[], _, _, ⟨rfl, rfl⟩, ?_⟩; (repeat' first | refine And.intro ?_ ?_ | exact xeC | fail)
    all_goals first | exact decide_eq_decide.2 (by unfold wthn; omega) | exact (decide_eq_true (by unfold wthn; omega)).symm | exact (decide_eq_false (by unfold wthn; omega)).symm | exact decide_eq_true (by unfold wthn; omega) | exact decide_eq_false (by unfold wthn; omega) | (apply Bool.eq_iff_iff.2; simp [wthn]; omega))

set_option maxRecDepth 10000 in
set_option maxHeartbeats 4000000 in
theorem cviol (o r : Qos) : Ctr Try.prog 62 [.a (encQ o), .a (encQ r)] [] fun v h => v = .c (.i .i64 (viol o r)) ∧ h = [] := by
  refine Ctr.mk' tbv mixed Try.func62 rfl rfl rfl (fun _ _ => by kernel_rfl) (by kernel_rfl) (by rfl) (by rfl) (by (repeat' first | refine And.intro ?_ ?_ | exact xeC | fail)) ?_
  repeat' (first | (fail_if_success (with_reducible refine xstp ?_)); first | ((with_reducible refine And.intro (fun (hb : _ = true) => ?_) (fun (hb : _ = false) => ?_)) <;> replace hb := xnC hb <;> (try first | exact xfC | exact bff hb (by assumption) | exact bff (by assumption) hb)) | (with_reducible intro hc; (try simp only [capsP, and_true] at hc); (try exact xfC)) | ((fail_if_success (with_reducible first | refine xgon ?_ | intro _)); (conv => whnf); (fail_if_success (fail_if_success (with_reducible first | refine xstp ?_ | refine xgon ?_ | intro _)))))
  · refine FinK.mk ⟨[], _, _, ⟨rfl, rfl⟩, ?_⟩; (repeat' first | refine And.intro ?_ ?_ | exact xeC | fail)
    all_goals (unfold viol; simp_all)
  · refine FinK.mk ⟨[], _, _, ⟨rfl, rfl⟩, ?_⟩; (repeat' first | refine And.intro ?_ ?_ | exact xeC | fail)
    all_goals (unfold viol; simp_all)
  · refine xcal (σ := []) (nl := []) (cwithin o.dead r.dead) ?_
    rintro v h' ⟨rfl, rfl⟩ hcaps
    refine xret ?_
    repeat' (first | (fail_if_success (with_reducible refine xstp ?_)); first | ((with_reducible refine And.intro (fun (hb : _ = true) => ?_) (fun (hb : _ = false) => ?_)) <;> replace hb := xnC hb <;> (try first | exact xfC | exact bff hb (by assumption) | exact bff (by assumption) hb)) | ((fail_if_success (with_reducible first | refine xgon ?_ | intro _)); (conv => whnf); (fail_if_success (fail_if_success (with_reducible first | refine xstp ?_ | refine xgon ?_ | intro _)))))
    · refine FinK.mk ⟨[], _, _, ⟨rfl, rfl⟩, ?_⟩; (repeat' first | refine And.intro ?_ ?_ | exact xeC | fail)
      all_goals (unfold viol; simp_all)
    · refine xcal (σ := []) (nl := []) (cwithin o.lease r.lease) ?_
      rintro v h' ⟨rfl, rfl⟩ hcaps
      refine xret ?_
      repeat' (first | (fail_if_success (with_reducible refine xstp ?_)); first | ((with_reducible refine And.intro (fun (hb : _ = true) => ?_) (fun (hb : _ = false) => ?_)) <;> replace hb := xnC hb <;> (try first | exact xfC | exact bff hb (by assumption) | exact bff (by assumption) hb)) | ((fail_if_success (with_reducible first | refine xgon ?_ | intro _)); (conv => whnf); (fail_if_success (fail_if_success (with_reducible first | refine xstp ?_ | refine xgon ?_ | intro _)))))
      all_goals (
        refine FinK.mk ⟨[], _, _, ⟨rfl, rfl⟩, ?_⟩; (repeat' first | refine And.intro ?_ ?_ | exact xeC | fail)
        all_goals (unfold viol; simp_all))
  · refine xcal (σ := []) (nl := []) (cwithin o.dead r.dead) ?_
    rintro v h' ⟨rfl, rfl⟩ hcaps
    refine xret ?_
    repeat' (first | (fail_if_success (with_reducible refine xstp ?_)); first | ((with_reducible refine And.intro (fun (hb : _ = true) => ?_) (fun (hb : _ = false) => ?_)) <;> replace hb := xnC hb <;> (try first | exact xfC | exact bff hb (by assumption) | exact bff (by assumption) hb)) | ((fail_if_success (with_reducible first | refine xgon ?_ | intro _)); (conv => whnf); (fail_if_success (fail_if_success (with_reducible first | refine xstp ?_ | refine xgon ?_ | intro _)))))
    · refine FinK.mk ⟨[], _, _, ⟨rfl, rfl⟩, ?_⟩; (repeat' first | refine And.intro ?_ ?_ | exact xeC | fail)
      all_goals (unfold viol; simp_all)
    · refine xcal (σ := []) (nl := []) (cwithin o.lease r.lease) ?_
      rintro v h' ⟨rfl, rfl⟩ hcaps
      refine xret ?_
      repeat' (first | (fail_if_success (with_reducible refine xstp ?_)); first | ((with_reducible refine And.intro (fun (hb : _ = true) => ?_) (fun (hb : _ = false) => ?_)) <;> replace hb := xnC hb <;> (try first | exact xfC | exact bff hb (by assumption) | exact bff (by assumption) hb)) | ((fail_if_success (with_reducible first | refine xgon ?_ | intro _)); (conv => whnf); (fail_if_success (fail_if_success (with_reducible first | refine xstp ?_ | refine xgon ?_ | intro _)))))
      all_goals (
        refine FinK.mk ⟨[], _, _, ⟨rfl, rfl⟩, ?_⟩; (repeat' first | refine And.intro ?_ ?_ | exact xeC | fail)
        all_goals (unfold viol; simp_all))
  · refine FinK.mk ⟨[], _, _, ⟨rfl, rfl⟩, ?_⟩; (repeat' first | refine And.intro ?_ ?_ | exact xeC | fail)
    all_goals (unfold viol; simp_all)
  · refine xcal (σ := []) (nl := []) (cwithin o.dead r.dead) ?_
    rintro v h' ⟨rfl, rfl⟩ hcaps
    refine xret ?_
    repeat' (first | (fail_if_success (with_reducible refine xstp ?_)); first | ((with_reducible refine And.intro (fun (hb : _ = true) => ?_) (fun (hb : _ = false) => ?_)) <;> replace hb := xnC hb <;> (try first | exact xfC | exact bff hb (by assumption) | exact bff (by assumption) hb)) | ((fail_if_success (with_reducible first | refine xgon ?_ | intro _)); (conv => whnf); (fail_if_success (fail_if_success (with_reducible first | refine xstp ?_ | refine xgon ?_ | intro _)))))
    · refine FinK.mk ⟨[], _, _, ⟨rfl, rfl⟩, ?_⟩; (repeat' first | refine And.intro ?_ ?_ | exact xeC | fail)
      all_goals (unfold viol; simp_all)
    · refine xcal (σ := []) (nl := []) (cwithin o.lease r.lease) ?_
      rintro v h' ⟨rfl, rfl⟩ hcaps
      refine xret ?_
      repeat' (first | (fail_if_success (with_reducible refine xstp ?_)); first | ((with_reducible refine And.intro (fun (hb : _ = true) => ?_) (fun (hb : _ = false) => ?_)) <;> replace hb := xnC hb <;> (try first | exact xfC | exact bff hb (by assumption) | exact bff (by assumption) hb)) | ((fail_if_success (with_reducible first | refine xgon ?_ | intro _)); (conv => whnf); (fail_if_success (fail_if_success (with_reducible first | refine xstp ?_ | refine xgon ?_ | intro _)))))
      all_goals (
        refine FinK.mk ⟨[], _, _, ⟨rfl, rfl⟩, ?_⟩; (repeat' first | refine And.intro ?_ ?_ | exact xeC | fail)
        all_goals (unfold viol; simp_all))
  · refine xcal (σ := []) (nl := []) (cwithin o.dead r.dead) ?_
    rintro v h' ⟨rfl, rfl⟩ hcaps
    refine xret ?_
    repeat' (first | (fail_if_success (with_reducible refine xstp ?_)); first | ((with_reducible refine And.intro (fun (hb : _ = true) => ?_) (fun (hb : _ = false) => ?_)) <;> replace hb := xnC hb <;> (try first | exact xfC | exact bff hb (by assumption) | exact bff (by assumption) hb)) | ((fail_if_success (with_reducible first | refine xgon ?_ | intro _)); (conv => whnf); (fail_if_success (fail_if_success (with_reducible first | refine xstp ?_ | refine xgon ?_ | intro _)))))
    · refine FinK.mk ⟨[], _, _, ⟨rfl, rfl⟩, ?_⟩; (repeat' first | refine And.intro ?_ ?_ | exact xeC | fail)
      all_goals (unfold viol; simp_all)
    · refine xcal (σ := []) (nl := []) (cwithin o.lease r.lease) ?_
      rintro v h' ⟨rfl, rfl⟩ hcaps
      refine xret ?_
      repeat' (first | (fail_if_success (with_reducible refine xstp ?_)); first | ((with_reducible refine And.intro (fun (hb : _ = true) => ?_) (fun (hb : _ = false) => ?_)) <;> replace hb := xnC hb <;> (try first | exact xfC | exact bff hb (by assumption) | exact bff (by assumption) hb)) | ((fail_if_success (with_reducible first | refine xgon ?_ | intro _)); (conv => whnf); (fail_if_success (fail_if_success (with_reducible first | refine xstp ?_ | refine xgon ?_ | intro _)))))
      all_goals (
        refine FinK.mk ⟨[], _, _, ⟨rfl, rfl⟩, ?_⟩; (repeat' first | refine And.intro ?_ ?_ | exact xeC | fail)
        all_goals (unfold viol; simp_all))

theorem rH19D0 {σ : List Sg} {H h' : List Fam} {v : T} {K : T → List Fam → Prop} {H' : List Fam} {v' : T} {N : Nat} (hk : K v' H') (hN : H.length = N := by (try simp only [↓List.length_cons, ↓List.length_nil, Nat.reduceAdd]) <;> rfl) (h : givesF σ N H σ h' = some H' := by (try simp (maxSteps := 1000000) only [givesF, setF, updF, Fam.zeroth, Fam.rk, Ck.rk, C.rk, E.rk, T.rk, key, List.map_cons, List.map_nil, List.cons_append, List.nil_append, List.length_cons, List.length_nil, Option.map_some, Option.bind_some, Nat.reduceAdd, Nat.zero_add, Nat.add_zero, Nat.add_sub_cancel_left, Int.toNat_natCast, reps, List.all_cons, List.all_nil, C.flat, List.append_eq, Bool.not_true, Bool.and_true, Bool.or_false, Bool.or_self, Bool.not_false, List.append_nil, Bool.and_self, encQ]) <;> rfl) (hv : v.rk σ N = v' := by (try simp only [givesF, setF, updF, Fam.zeroth, Fam.rk, Ck.rk, C.rk, E.rk, T.rk, key, List.map_cons, List.map_nil, List.cons_append, List.nil_append, List.length_cons, List.length_nil, Option.map_some, Option.bind_some, Nat.reduceAdd, Nat.zero_add, Nat.add_zero, Nat.add_sub_cancel_left, Int.toNat_natCast, reps, List.all_cons, List.all_nil, C.flat, List.append_eq, Bool.not_true, Bool.and_true, Bool.or_false, Bool.or_self, Bool.not_false, List.append_nil, Bool.and_self, encQ]) <;> rfl) : RetG σ H h' v K := ret_mk3 hN h hv hk
set_option maxRecDepth 10000 in
theorem ccompat (o r : Qos) : Ctr Try.prog 42 [.a (encQ o), .a (encQ r)] [] fun v h => v = .c (.b (decide (viol o r = 0))) ∧ h = [] := by
  refine Ctr.mk' tbv mixed Try.func42 rfl rfl rfl (fun _ _ => by kernel_rfl) (by kernel_rfl) (by rfl) (by rfl) (by (repeat' first | refine And.intro ?_ ?_ | exact xeC | fail)) ?_
  repeat' (first | (fail_if_success (with_reducible refine xstp ?_)); first | (with_reducible intro hc; (try simp only [capsP, and_true] at hc); (try exact xfC)) | ((fail_if_success (with_reducible first | refine xgon ?_ | intro _)); (conv => whnf); (fail_if_success (fail_if_success (with_reducible first | refine xstp ?_ | refine xgon ?_ | intro _)))))
  refine xcal (σ := []) (nl := []) (cviol o r) ?_
  rintro v h' ⟨rfl, rfl⟩ hcaps
  refine rH19D0 ?_
  repeat' (first | (fail_if_success (with_reducible refine xstp ?_)); first | ((fail_if_success (with_reducible first | refine xgon ?_ | intro _)); (conv => whnf); (fail_if_success (fail_if_success (with_reducible first | refine xstp ?_ | refine xgon ?_ | intro _)))))
  refine FinK.mk ⟨[], _, _, ⟨rfl, rfl⟩, ?_⟩; (repeat' first | refine And.intro ?_ ?_ | exact xeC | fail)

def Rd0 : Rd := ⟨[], [], [], 0, fun _ => none⟩

set_option maxRecDepth 10000 in
set_option maxHeartbeats 4000000 in
theorem cnew (id : Int) (q : Qos) : Ctr Try.prog 26 [.c (.i .i64 id), .a (encQ q)] []
      fun v h => ((1 ≤ id ∧ okQ q) ∧ v = .t [.c (.p 0 0 0), .c (.i .i64 0)] ∧ h = rdB id q Rd0 0 0) ∨ (¬ (1 ≤ id ∧ okQ q) ∧ v = .t [.c .nilp, .c (.i .i64 4)] ∧ h = []) := by
  refine Ctr.mk' tbv mixed Try.func26 rfl rfl rfl (fun _ _ => by kernel_rfl) (by kernel_rfl) (by rfl) (by rfl) (by (repeat' first | refine And.intro ?_ ?_ | exact xeC | fail)) ?_
  repeat' (first | (fail_if_success (with_reducible refine xstp ?_)); first | ((with_reducible refine And.intro (fun (hb : _ = true) => ?_) (fun (hb : _ = false) => ?_)) <;> replace hb := xnC hb <;> (try first | exact xfC | exact bff hb (by assumption) | exact bff (by assumption) hb)) | (with_reducible intro hc; (try simp only [capsP, and_true] at hc); (try exact xfC)) | ((fail_if_success (with_reducible first | refine xgon ?_ | intro _)); (conv => whnf); (fail_if_success (fail_if_success (with_reducible first | refine xstp ?_ | refine xgon ?_ | intro _)))))
  · refine FinK.mk ⟨[], _, _, .inr ⟨by omega, rfl, rfl⟩, ?_⟩
    (repeat' first | refine And.intro ?_ ?_ | exact xeC | fail)
  · have hb0 := hb
    refine xcal (σ := []) (nl := []) (inew q) ?_
    rintro v h' (⟨hq, rfl, rfl⟩ | ⟨hq, rfl, rfl⟩) hcaps
    · refine rH19D0 ?_
      repeat' (first | (fail_if_success (with_reducible refine xstp ?_)); first | ((with_reducible refine And.intro (fun (hb : _ = true) => ?_) (fun (hb : _ = false) => ?_)) <;> replace hb := xnC hb <;> (try first | exact xfC | exact bff hb (by assumption) | exact bff (by assumption) hb)) | ((fail_if_success (with_reducible first | refine xgon ?_ | intro _)); (conv => whnf); (fail_if_success (fail_if_success (with_reducible first | refine xstp ?_ | refine xgon ?_ | intro _)))))
      refine FinK.mk ⟨[4, 1, 3, 98, 2, 97, 96, 95], _, _, .inl ⟨⟨hb0, hq⟩, rfl, rfl⟩, ?_⟩
      (repeat' first | refine And.intro ?_ ?_ | exact xeC | fail)
      all_goals first | (first | exact fun _ => trivial | exact fun x => mtO_le rfl | exact fun x => winO_le | exact fun x => mtO_bel rfl | exact fun x => winO_bel | exact fun x => mtR_bel rfl rfl | exact fun x => winR_bel) | exact fun _ => rfl | exact fun i hi => absurd hi (Nat.not_lt_zero i)
    · refine rH19D0 ?_
      repeat' (first | (fail_if_success (with_reducible refine xstp ?_)); first | ((with_reducible refine And.intro (fun (hb : _ = true) => ?_) (fun (hb : _ = false) => ?_)) <;> replace hb := xnC hb <;> (try first | exact xfC | exact bff hb (by assumption) | exact bff (by assumption) hb)) | ((fail_if_success (with_reducible first | refine xgon ?_ | intro _)); (conv => whnf); (fail_if_success (fail_if_success (with_reducible first | refine xstp ?_ | refine xgon ?_ | intro _)))))
      refine FinK.mk ⟨[], _, _, .inr ⟨fun h => hq h.2, rfl, rfl⟩, ?_⟩
      (repeat' first | refine And.intro ?_ ?_ | exact xeC | fail)

theorem leK_cong {N : Nat} {q q' q'' : Ck} {A : Prop} (h : q' = q'') (hk : q.leK N q'' A) : q.leK N q' A := by
  rw [h]; exact hk
theorem map_adopt {R : Rd} {w : Int} {σ : List Sg} {a b : Nat} (h1 : ∀ x, key σ 0 6 x = (if x = w.toNat then b else a, if x = w.toNat then 0 else x)) (hno : ∀ i, i < R.M.length → (R.M.getD i default).2 ≠ w) (hR : RdOk R) (hw : 1 ≤ w) (i : Nat) (hi : i < (R.M ++ [(R.ck, w)]).length) :
    (if i = R.M.length then (R.ck, Key.i w, E.c (.p b 0 0)) else ((R.M.getD i default).1, Key.i (R.M.getD i default).2, E.c (.p a (R.M.getD i default).2.toNat 0))) =
      (((R.M ++ [(R.ck, w)]).getD i default).1, Key.i ((R.M ++ [(R.ck, w)]).getD i default).2, E.rk σ 0 (.c (.p 6 ((R.M ++ [(R.ck, w)]).getD i default).2.toNat 0))) := by
  by_cases h : i = R.M.length
  · subst h
    simp [List.getD, E.rk, C.rk, h1]
  · have hlt : i < R.M.length := by simp at hi; omega
    have e : (R.M ++ [(R.ck, w)]).getD i default = R.M.getD i default := by simp [List.getD, List.getElem?_append_left hlt]
    have h2 := (hR.a i hlt).1
    have h3 : ¬ (R.M.getD i default).2.toNat = w.toNat := fun e => hno i hlt (by omega)
    rw [if_neg h, e]
    simp only [E.rk, C.rk, h1, if_neg h3]

def matchE (q : Qos) (w nd : Int) (q2 : Qos) (R : Rd) : Int :=
  if w < 1 ∨ nd < 0 ∨ 8 ≤ nd then 4 else if ¬ okQ q2 then 4 else if ¬ viol q2 q = 0 then 14 else if (R.get w).isSome then 7 else 0
def matchR (q : Qos) (w nd : Int) (q2 : Qos) (R : Rd) : Rd :=
  if matchE q w nd q2 R = 0 then ⟨R.l, R.ls, R.M ++ [(R.ck, w)], R.ck + 1, fun y => if y = w.toNat then some ⟨nd, 1, q2.rel && q.rel, [], 0⟩ else R.D y⟩ else R

set_option maxRecDepth 10000 in
set_option maxHeartbeats 4000000 in
theorem cmatch (id : Int) (q : Qos) (R : Rd) (c cl n cm : Nat) (w nd : Int) (q2 : Qos) (hR : RdOk R) :
    Ctr Try.prog 21 [.c (.p 0 0 0), .c (.i .i64 w), .c (.i .i64 nd), .a (encQ q2)] [.one (rdr 1 2 3 id q R.ls.length cl), .one .no, .one (mapM 4 R.M R.ck), .one .no, mts 5 R.D, wins R.D]
      fun v h => v = .c (.i .i64 (matchE q w nd q2 R)) ∧ h = [.one (rdr 1 2 3 id q R.ls.length cl), .one .no, .one (mapM 6 (matchR q w nd q2 R).M (matchR q w nd q2 R).ck), .one .no, .one .no, .one .no, mts 7 (matchR q w nd q2 R).D, wins (matchR q w nd q2 R).D] := by
  refine Ctr.mk' tbv mixed Try.func21 rfl rfl rfl (fun _ _ => by kernel_rfl) (by kernel_rfl) (by rfl) (by rfl) (by (repeat' first | refine And.intro ?_ ?_ | exact xeC | fail) <;> first | exact fun x => mtO_bel rfl | exact fun x => winO_bel) ?_
  repeat' (first | (fail_if_success (with_reducible refine xstp ?_)); first | ((with_reducible refine And.intro (fun (hb : _ = true) => ?_) (fun (hb : _ = false) => ?_)) <;> replace hb := xnC hb <;> (try first | exact xfC | exact bff hb (by assumption) | exact bff (by assumption) hb)) | (with_reducible intro hc; (try simp only [capsP, and_true] at hc); (try exact xfC)) | ((fail_if_success (with_reducible first | refine xgon ?_ | intro _)); (conv => whnf); (fail_if_success (fail_if_success (with_reducible first | refine xstp ?_ | refine xgon ?_ | intro _)))))
  · have e1 : matchE q w nd q2 R = 4 := by
      unfold matchE
      rw [if_pos (by omega)]
    have e2 : matchR q w nd q2 R = R := by unfold matchR; rw [e1]; rfl
    rw [e1, e2]
    refine FinK.mk ⟨[0, 1, 2, 3, 4, 5, 4, 5], _, _, ⟨rfl, rfl⟩, ?_⟩; (repeat' first | refine And.intro ?_ ?_ | exact xeC | fail)
    all_goals (first | exact fun _ => trivial | exact fun x => mtO_le rfl | exact fun x => winO_le | exact fun x => mtO_bel rfl | exact fun x => winO_bel | exact fun x => mtR_bel rfl rfl | exact fun x => winR_bel)
  · have e1 : matchE q w nd q2 R = 4 := by
      unfold matchE
      rw [if_pos (by omega)]
    have e2 : matchR q w nd q2 R = R := by unfold matchR; rw [e1]; rfl
    rw [e1, e2]
    refine FinK.mk ⟨[0, 1, 2, 3, 4, 5, 4, 5], _, _, ⟨rfl, rfl⟩, ?_⟩; (repeat' first | refine And.intro ?_ ?_ | exact xeC | fail)
    all_goals (first | exact fun _ => trivial | exact fun x => mtO_le rfl | exact fun x => winO_le | exact fun x => mtO_bel rfl | exact fun x => winO_bel | exact fun x => mtR_bel rfl rfl | exact fun x => winR_bel)
  · have e1 : matchE q w nd q2 R = 4 := by
      unfold matchE
      rw [if_pos (by omega)]
    have e2 : matchR q w nd q2 R = R := by unfold matchR; rw [e1]; rfl
    rw [e1, e2]
    refine FinK.mk ⟨[0, 1, 2, 3, 4, 5, 4, 5], _, _, ⟨rfl, rfl⟩, ?_⟩; (repeat' first | refine And.intro ?_ ?_ | exact xeC | fail)
    all_goals (first | exact fun _ => trivial | exact fun x => mtO_le rfl | exact fun x => winO_le | exact fun x => mtO_bel rfl | exact fun x => winO_bel | exact fun x => mtR_bel rfl rfl | exact fun x => winR_bel)
  have hA : ¬ (w < 1 ∨ nd < 0 ∨ 8 ≤ nd) := by omega
  have hw : 1 ≤ w := by omega
  refine xcal (σ := []) (nl := []) (icheck q2) ?_
  rintro v h' ⟨rfl, rfl⟩ hcaps
  refine rH19D0 ?_
  repeat' (first | (fail_if_success (with_reducible refine xstp ?_)); first | ((with_reducible refine And.intro (fun (hb : _ = true) => ?_) (fun (hb : _ = false) => ?_)) <;> replace hb := xnC hb <;> (try first | exact xfC | exact bff hb (by assumption) | exact bff (by assumption) hb)) | ((fail_if_success (with_reducible first | refine xgon ?_ | intro _)); (conv => whnf); (fail_if_success (fail_if_success (with_reducible first | refine xstp ?_ | refine xgon ?_ | intro _)))))
  · have hq : ¬ okQ q2 := fun h => hb (if_pos h)
    have e0 : checkI q2 = 4 := if_neg hq
    rw [e0]
    have e1 : matchE q w nd q2 R = 4 := by
      unfold matchE
      rw [if_neg hA, if_pos hq]
    have e2 : matchR q w nd q2 R = R := by unfold matchR; rw [e1]; rfl
    rw [e1, e2]
    refine FinK.mk ⟨[0, 1, 2, 3, 4, 5, 4, 5], _, _, ⟨rfl, rfl⟩, ?_⟩; (repeat' first | refine And.intro ?_ ?_ | exact xeC | fail)
    all_goals (first | exact fun _ => trivial | exact fun x => mtO_le rfl | exact fun x => winO_le | exact fun x => mtO_bel rfl | exact fun x => winO_bel | exact fun x => mtR_bel rfl rfl | exact fun x => winR_bel)
  have hq : okQ q2 := by
    by_cases h : okQ q2
    · exact h
    · exfalso
      rw [show checkI q2 = 4 from if_neg h] at hb
      omega
  refine xcal (σ := []) (nl := []) (ccompat q2 q) ?_
  rintro v h' ⟨rfl, rfl⟩ hcaps
  refine rH19D0 ?_
  repeat' (first | (fail_if_success (with_reducible refine xstp ?_)); first | ((with_reducible refine And.intro (fun (hb : _ = true) => ?_) (fun (hb : _ = false) => ?_)) <;> replace hb := xnC hb <;> (try first | exact xfC | exact bff hb (by assumption) | exact bff (by assumption) hb)) | (with_reducible refine Both.mk ?_ ?_) | ((with_reducible refine And.intro ?_ ?_); focus exact xoC) | (with_reducible intro hc; (try simp only [capsP, and_true] at hc); (try exact xfC)) | ((fail_if_success (with_reducible first | refine xgon ?_ | intro _)); (conv => whnf); (fail_if_success (fail_if_success (with_reducible first | refine xstp ?_ | refine Both.mk ?_ ?_ | refine xgon ?_ | intro _)))))
  · have e1 : matchE q w nd q2 R = 14 := by
      unfold matchE
      rw [if_neg hA, if_neg (by simpa using hq), if_pos hb]
    have e2 : matchR q w nd q2 R = R := by unfold matchR; rw [e1]; rfl
    rw [e1, e2]
    refine FinK.mk ⟨[0, 1, 2, 3, 4, 5, 4, 5], _, _, ⟨rfl, rfl⟩, ?_⟩; (repeat' first | refine And.intro ?_ ?_ | exact xeC | fail)
    all_goals (first | exact fun _ => trivial | exact fun x => mtO_le rfl | exact fun x => winO_le | exact fun x => mtO_bel rfl | exact fun x => winO_bel | exact fun x => mtR_bel rfl rfl | exact fun x => winR_bel)
  · rename_i i hi
    obtain ⟨m, hm, hD, h1⟩ := get_yes hR hi (Key.i.inj hc)
    have e1 : matchE q w nd q2 R = 7 := by
      unfold matchE
      rw [if_neg hA, if_neg (by simpa using hq), if_neg (by simpa using hb), hm]
      rfl
    have e2 : matchR q w nd q2 R = R := by unfold matchR; rw [e1]; rfl
    rw [e1, e2]
    refine FinK.mk ⟨[0, 1, 2, 3, 4, 5, 4, 5], _, _, ⟨rfl, rfl⟩, ?_⟩; (repeat' first | refine And.intro ?_ ?_ | exact xeC | fail)
    all_goals (first | exact fun _ => trivial | exact fun x => mtO_le rfl | exact fun x => winO_le | exact fun x => mtO_bel rfl | exact fun x => winO_bel | exact fun x => mtR_bel rfl rfl | exact fun x => winR_bel)
  all_goals try exact absurd hc (by apply (by assumption : ∀ (i : Nat), i < R.M.length → Key.i (R.M.getD i default).snd ≠ Key.i w); assumption)
  all_goals (
    have hno : ∀ i, i < R.M.length → (R.M.getD i default).2 ≠ w := fun i hi h => hc i hi (by rw [h])
    have hn := get_no hR hno
    have hv : viol q2 q = 0 := by assumption
    have e1 : matchE q w nd q2 R = 0 := by
      unfold matchE
      rw [if_neg hA, if_neg (by simpa using hq), if_neg (by simpa using hv), hn]
      rfl
    have e2 : matchR q w nd q2 R = ⟨R.l, R.ls, R.M ++ [(R.ck, w)], R.ck + 1, fun y => if y = w.toNat then some ⟨nd, 1, q2.rel && q.rel, [], 0⟩ else R.D y⟩ := by unfold matchR; rw [e1]; rfl
    rw [e1, e2]
    refine FinK.mk ⟨[0, 1, 2, 3, 4, 5, .adopt 4 w.toNat 8, .adopt 5 w.toNat 7], _, _, ⟨rfl, rfl⟩, ?_⟩
    (repeat' first | refine And.intro ?_ ?_ | exact xeC | fail)
    all_goals first
      | (simp; done)
      | exact map_adopt (by simp [key]) hno hR hw
      | (intro x hx
         show Ck.leK _ _ (Ck.rk _ _ (mtO 7 x (if x = w.toNat then _ else _))) True
         rw [if_neg hx]
         exact mtO_le (by simp [key, hx]))
      | (refine leK_cong (q'' := .cells true [.i .i64 w, .i .i64 nd, .i .i64 1, .b (q2.rel && q.rel), .mp 7 0]) (by
           show Ck.rk _ _ (mtO 7 w.toNat (if w.toNat = w.toNat then _ else _)) = _
           rw [if_pos rfl]
           simp only [mtO, mtG, Ck.rk, C.rk, List.map_cons, List.map_nil, key, if_true, Int.toNat_of_nonneg (show 0 ≤ w by omega)]) ?_
         (repeat' first | refine And.intro ?_ ?_ | exact xeC | fail)
         all_goals first
           | (simp [*]; done)
           | (intro x hx
              show Ck.leK _ _ (Ck.rk _ _ (winO (if x = w.toNat then _ else _))) True
              rw [if_neg hx]
              exact winO_le)
           | (refine leK_cong (q'' := wnd [] 0) (by
                show Ck.rk _ _ (winO (if w.toNat = w.toNat then _ else _)) = _
                rw [if_pos rfl]
                rfl) ?_
              (repeat' first | refine And.intro ?_ ?_ | exact xeC | fail)
              all_goals first | (first | exact fun _ => trivial | exact fun x => mtO_le rfl | exact fun x => winO_le | exact fun x => mtO_bel rfl | exact fun x => winO_bel | exact fun x => mtR_bel rfl rfl | exact fun x => winR_bel) | (intro i hi; exact absurd hi (Nat.not_lt_zero i)))))
end Go.Proofs.Ytgcofipbdidhmaa


namespace Go.Proofs.Ytgcofipbdidhmaa
open Go.X
set_option linter.unusedSimpArgs false
set_option linter.unusedVariables false

/-! ### The law's own functions -/
abbrev lssR (w : Bool) (l : List (Int × Int)) (c : Nat) : Ck := .row w false 64 2 l.length c (rowOf encL l)
theorem getD_ext {α : Type} [Inhabited α] {l m : List α} (h1 : l.length = m.length) (h2 : ∀ i, i < l.length → l.getD i default = m.getD i default) : l = m := by
  apply List.ext_getElem h1
  intro i hi hj
  have := h2 i hi
  rwa [getD_at hi, getD_at hj] at this
theorem take_snocG {α : Type} [Inhabited α] (l : List α) {k : Nat} (h : k < l.length) : l.take (k + 1) = l.take k ++ [l.getD k default] := by
  rw [← List.take_append_getElem h, getD_at h]

set_option maxRecDepth 10000 in
theorem cplain (wa : Bool) (l : List (Int × Int)) (c : Nat) (hl : l.length ≤ 1000000) :
    Ctr Try.prog 24 [.c (.sl 0 0 2 0 l.length c)] [.one (lss wa l c)]
      fun v h => ∃ c', v = .c (.sl 1 0 2 0 l.length c') ∧ h = [.one (lss wa l c), .one (lssR true l c')] := by
  refine Ctr.mk' tbv mixed Try.func24 rfl rfl rfl (fun _ _ => by kernel_rfl) (by kernel_rfl) (by rfl) (by rfl) (by (repeat' first | refine And.intro ?_ ?_ | exact xeC | fail)) ?_
  repeat' (first | (fail_if_success (with_reducible refine xstp ?_)); first | (with_reducible intro hc; (try simp only [capsP, and_true] at hc); (try exact xfC)) | ((fail_if_success (with_reducible first | refine xgon ?_ | intro _)); (conv => whnf); (fail_if_success (fail_if_success (with_reducible first | refine xstp ?_ | refine xgon ?_ | intro _)))))
  refine LoopK.mk' ({k : Nat // k ≤ l.length} × Nat)
    (fun ⟨⟨k, _⟩, cc⟩ => ⟨[(0, .c (.sl 0 0 2 0 l.length c)), (3, .c (.sl 1 0 2 0 (l.take k).length cc)), (4, .c (.i .i64 k))], [.one (lss wa l c), .one (lssR true (l.take k) cc)]⟩)
    (fun k => l.length - k.1.1)
    ⟨⟨⟨0, Nat.zero_le _⟩, 0⟩, [0, 99], ?_⟩ ?_
  · (repeat' first | refine And.intro ?_ ?_ | exact xeC | fail)
  rintro ⟨⟨k, hk⟩, cc⟩
  have hkl : (l.take k).length = k := by rw [List.length_take]; omega
  repeat' (first | (fail_if_success (with_reducible refine xstp ?_)); first | ((with_reducible refine And.intro (fun (hb : _ = true) => ?_) (fun (hb : _ = false) => ?_)) <;> replace hb := xnC hb <;> (try first | exact xfC | exact bff hb (by assumption) | exact bff (by assumption) hb)) | ((with_reducible refine And.intro ?_ ?_); focus exact xoC) | ((with_reducible refine Or.inl ⟨?_, ?_, ?_⟩); (focus rfl); focus exact xaC) | (with_reducible intro hc; (try simp only [capsP, and_true] at hc); (try exact xfC)) | ((fail_if_success (with_reducible first | refine xgon ?_ | intro _)); (conv => whnf); (fail_if_success (fail_if_success (with_reducible first | refine xstp ?_ | refine xgon ?_ | intro _)))))
  all_goals try (
    rename Nat => c3
    have hlt : k < l.length := by omega
    refine ⟨⟨⟨k + 1, by omega⟩, c3⟩, [0, 3], by simp only; omega, ?_⟩
    simp only [take_snocG l hlt]
    (repeat' first | refine And.intro ?_ ?_ | exact xeC | fail)
    all_goals first | omega | (simp; done) | (intro i hi; refine app_rowG encL _ _ _ ?_ i hi; simp only [Int.toNat_natCast, Nat.zero_add]; rfl)
    done)
  have ek : l.take k = l := List.take_of_length_le (by omega)
  simp only [ek] at *
  refine FinK.mk ⟨[0, 1], _, _, ⟨cc, rfl, rfl⟩, ?_⟩
  (repeat' first | refine And.intro ?_ ?_ | exact xeC | fail)

set_option maxRecDepth 10000 in
theorem csameL (ca cb : Nat) (wa wb : Bool) (l m : List (Int × Int)) (hl : l.length ≤ 1000000) :
    Ctr Try.prog 25 [.c (.sl 0 0 2 0 l.length ca), .c (.sl 1 0 2 0 m.length cb)] [.one (lssR wa l ca), .one (lssR wb m cb)]
      fun v h => v = .c (.b (decide (l = m))) ∧ h = [.one (lssR wa l ca), .one (lssR wb m cb)] := by
  refine Ctr.mk' tbv mixed Try.func25 rfl rfl rfl (fun _ _ => by kernel_rfl) (by kernel_rfl) (by rfl) (by rfl) (by (repeat' first | refine And.intro ?_ ?_ | exact xeC | fail)) ?_
  repeat' (first | (fail_if_success (with_reducible refine xstp ?_)); first | ((with_reducible refine And.intro (fun (hb : _ = true) => ?_) (fun (hb : _ = false) => ?_)) <;> replace hb := xnC hb <;> (try first | exact xfC | exact bff hb (by assumption) | exact bff (by assumption) hb)) | (with_reducible intro hc; (try simp only [capsP, and_true] at hc); (try exact xfC)) | ((fail_if_success (with_reducible first | refine xgon ?_ | intro _)); (conv => whnf); (fail_if_success (fail_if_success (with_reducible first | refine xstp ?_ | refine xgon ?_ | intro _)))))
  · refine FinK.mk ⟨[0, 1], _, _, ⟨rfl, rfl⟩, ?_⟩; (repeat' first | refine And.intro ?_ ?_ | exact xeC | fail)
    exact decide_eq_false (fun e => ‹¬ _› (by rw [e]))
  refine LoopK.mk' {k : Nat // k ≤ l.length ∧ ∀ j, j < k → l.getD j default = m.getD j default}
    (fun ⟨k, _⟩ => ⟨[(0, .c (.sl 0 0 2 0 l.length ca)), (1, .c (.sl 1 0 2 0 m.length cb)), (5, .c (.i .i64 k))], [.one (lssR wa l ca), .one (lssR wb m cb)]⟩) (fun k => l.length - k.1)
    ⟨⟨0, Nat.zero_le _, fun j hj => by omega⟩, [0, 1], ?_⟩ ?_
  · (repeat' first | refine And.intro ?_ ?_ | exact xeC | fail)
  rintro ⟨k, hk, hno⟩
  repeat' (first | (fail_if_success (with_reducible refine xstp ?_)); first | ((with_reducible refine And.intro (fun (hb : _ = true) => ?_) (fun (hb : _ = false) => ?_)) <;> replace hb := xnC hb <;> (try first | exact xfC | exact bff hb (by assumption) | exact bff (by assumption) hb)) | ((with_reducible refine And.intro ?_ ?_); focus exact xoC) | (with_reducible intro hc; (try simp only [capsP, and_true] at hc); (try exact xfC)) | ((fail_if_success (with_reducible first | refine xgon ?_ | intro _)); (conv => whnf); (fail_if_success (fail_if_success (with_reducible first | refine xstp ?_ | refine xgon ?_ | intro _)))))
  · refine FinK.mk ⟨[0, 1], _, _, ⟨rfl, rfl⟩, ?_⟩; (repeat' first | refine And.intro ?_ ?_ | exact xeC | fail)
    refine decide_eq_false (p := l = m) fun e => ?_
    subst e
    simp at hb
  · refine ⟨⟨k + 1, by omega, fun j hj => ?_⟩, [0, 1], by simp only; omega, ?_⟩
    · rcases Nat.lt_or_eq_of_le (Nat.le_of_lt_succ hj) with h | h
      · exact hno j h
      · subst h; exact Prod.ext hb.1 hb.2
    · (repeat' first | refine And.intro ?_ ?_ | exact xeC | fail)
  · refine FinK.mk ⟨[0, 1], _, _, ⟨rfl, rfl⟩, ?_⟩; (repeat' first | refine And.intro ?_ ?_ | exact xeC | fail)
    exact decide_eq_true (getD_ext (by omega) fun j hj => hno j (by omega))

deriving instance DecidableEq for Pkt

set_option maxRecDepth 20000 in
set_option maxHeartbeats 8000000 in
theorem csameP (ca cb : Nat) (wa wb : Bool) (x y : Pkt) (l m : List Int) (hl : l.length ≤ 1000000) :
    Ctr Try.prog 40 [.a (encP (msl 0 l.length ca) x), .a (encP (msl 1 m.length cb) y)] [.one (ints wa l ca), .one (ints wb m cb)]
      fun v h => v = .c (.b (decide (x = y ∧ l = m))) ∧ h = [.one (ints wa l ca), .one (ints wb m cb)] := by
  refine Ctr.mk' tbv mixed Try.func40 rfl rfl rfl (fun _ _ => by kernel_rfl) (by kernel_rfl) (by rfl) (by rfl) (by (repeat' first | refine And.intro ?_ ?_ | exact xeC | fail)) ?_
  repeat' (first | (fail_if_success (with_reducible refine xstp ?_)); first | ((with_reducible refine And.intro (fun (hb : _ = true) => ?_) (fun (hb : _ = false) => ?_)) <;> replace hb := xnC hb <;> (try first | exact xfC | exact bff hb (by assumption) | exact bff (by assumption) hb)) | (with_reducible intro hc; (try simp only [capsP, and_true] at hc); (try exact xfC)) | ((fail_if_success (with_reducible first | refine xgon ?_ | intro _)); (conv => whnf); (fail_if_success (fail_if_success (with_reducible first | refine xstp ?_ | refine xgon ?_ | intro _)))))
  all_goals try (
    refine FinK.mk ⟨[0, 1], _, _, ⟨rfl, rfl⟩, ?_⟩; (repeat' first | refine And.intro ?_ ?_ | exact xeC | fail)
    first | exact decide_eq_false (fun e => hb (by rw [e.1])) | exact decide_eq_false (fun e => hb (by rw [e.2]))
    done)
  have hxy : x = y := by
    cases x; cases y
    simp only [Pkt.mk.injEq]
    simp_all
  have hlm : l.length = m.length := by omega
  refine LoopK.mk' {k : Nat // k ≤ l.length ∧ ∀ j, j < k → l.getD j default = m.getD j default}
    (fun ⟨k, _⟩ => ⟨[(2, .c (.p 2 0 0)), (3, .c (.p 3 0 0)), (5, .c (.i .i64 k))], [.one (ints wa l ca), .one (ints wb m cb), .one (.cells true (encP (msl 0 l.length ca) x)), .one (.cells true (encP (msl 1 m.length cb) y))]⟩) (fun k => l.length - k.1)
    ⟨⟨0, Nat.zero_le _, fun j hj => by omega⟩, [0, 1, 2, 3], ?_⟩ ?_
  · (repeat' first | refine And.intro ?_ ?_ | exact xeC | fail)
  rintro ⟨k, hk, hno⟩
  repeat' (first | (fail_if_success (with_reducible refine xstp ?_)); first | ((with_reducible refine And.intro (fun (hb : _ = true) => ?_) (fun (hb : _ = false) => ?_)) <;> replace hb := xnC hb <;> (try first | exact xfC | exact bff hb (by assumption) | exact bff (by assumption) hb)) | ((with_reducible refine And.intro ?_ ?_); focus exact xoC) | (with_reducible intro hc; (try simp only [capsP, and_true] at hc); (try exact xfC)) | ((fail_if_success (with_reducible first | refine xgon ?_ | intro _)); (conv => whnf); (fail_if_success (fail_if_success (with_reducible first | refine xstp ?_ | refine xgon ?_ | intro _)))))
  · refine FinK.mk ⟨[0, 1], _, _, ⟨rfl, rfl⟩, ?_⟩; (repeat' first | refine And.intro ?_ ?_ | exact xeC | fail)
    exact decide_eq_false (fun e => hb (by rw [e.2]))
  · refine ⟨⟨k + 1, by omega, fun j hj => ?_⟩, [0, 1, 2, 3], by simp only; omega, ?_⟩
    · rcases Nat.lt_or_eq_of_le (Nat.le_of_lt_succ hj) with h | h
      · exact hno j h
      · subst h; exact hb
    · (repeat' first | refine And.intro ?_ ?_ | exact xeC | fail)
  · refine FinK.mk ⟨[0, 1], _, _, ⟨rfl, rfl⟩, ?_⟩; (repeat' first | refine And.intro ?_ ?_ | exact xeC | fail)
    exact decide_eq_true ⟨hxy, getD_ext hlm fun j hj => hno j (by omega)⟩

theorem ack_le (a : Option (Pkt × List Int)) : ackN a ≤ 1 := by cases a <;> simp [ackN]
theorem ack_eq {a b : Option (Pkt × List Int)} (h1 : ackN a = 1) (h2 : ackN b = 1) : a = b ↔ (ackK a = ackK b ∧ ackL a = ackL b) := by
  cases a with
  | none => cases h1
  | some p => cases b with
    | none => cases h2
    | some q => simp only [Option.some.injEq, ackK, ackL, Prod.ext_iff]
theorem ack_none {a b : Option (Pkt × List Int)} (h1 : ackN a = 0) (h2 : ackN b = 0) : a = b := by
  cases a with
  | some p => cases h1
  | none => cases b with
    | some q => cases h2
    | none => rfl
/-- What is answered is the same. -/
def sameA (a b : Option (Pkt × List Int)) : Bool := decide (a = b)
theorem rH19E0 {σ : List Sg} {H h' : List Fam} {v : T} {K : T → List Fam → Prop} {H' : List Fam} {v' : T} {N : Nat} (hk : K v' H') (hN : H.length = N := by (try simp only [↓List.length_cons, ↓List.length_nil, Nat.reduceAdd]) <;> rfl) (h : givesF σ N H σ h' = some H' := by (try simp (maxSteps := 1000000) only [givesF, setF, updF, Fam.zeroth, Fam.rk, Ck.rk, C.rk, E.rk, T.rk, key, List.map_cons, List.map_nil, List.cons_append, List.nil_append, List.length_cons, List.length_nil, Option.map_some, Option.bind_some, Nat.reduceAdd, Nat.zero_add, Nat.add_zero, Nat.add_sub_cancel_left, Int.toNat_natCast, reps, List.all_cons, List.all_nil, C.flat, List.append_eq, Bool.not_true, Bool.and_true, Bool.or_false, Bool.or_self, Bool.not_false, List.append_nil, Bool.and_self, ↓mtG_rk, ↓winO_rk, encP]) <;> rfl) (hv : v.rk σ N = v' := by (try simp only [givesF, setF, updF, Fam.zeroth, Fam.rk, Ck.rk, C.rk, E.rk, T.rk, key, List.map_cons, List.map_nil, List.cons_append, List.nil_append, List.length_cons, List.length_nil, Option.map_some, Option.bind_some, Nat.reduceAdd, Nat.zero_add, Nat.add_zero, Nat.add_sub_cancel_left, Int.toNat_natCast, reps, List.all_cons, List.all_nil, C.flat, List.append_eq, Bool.not_true, Bool.and_true, Bool.or_false, Bool.or_self, Bool.not_false, List.append_nil, Bool.and_self, ↓mtG_rk, ↓winO_rk, encP]) <;> rfl) : RetG σ H h' v K := ret_mk3 hN h hv hk
theorem cH19E2 {P : Program} {F : Nat} {args : List T} {H : List Fam} {K : T → List Fam → Prop} {σ : List Sg} {nl : List Fam} {args0 : List T} {h0 : List Fam} {Q : T → List Fam → Prop} {H2 H1 : List Fam} {N n : Nat} (hc : Ctr P F args0 h0 Q) (hk : ∀ v h', Q v h' → capsP h' → RetG σ H2 h' v K) (hap : apart σ = true := by rfl) (hnl : nl.all nilB = true := by rfl) (h1 : H ++ nl = H1 := by first | exact List.append_nil _ | ((try simp only [List.cons_append, List.nil_append]) <;> rfl)) (hN : H1.length = N := by (try simp only [↓List.length_cons, ↓List.length_nil, Nat.reduceAdd]) <;> rfl) (hn : H.length = n := by (try simp only [↓List.length_cons, ↓List.length_nil, Nat.reduceAdd]) <;> rfl) (hH : givesF σ N H1 σ h0 = some H2 := by (try simp (maxSteps := 1000000) only [givesF, setF, updF, Fam.zeroth, Fam.rk, Ck.rk, C.rk, E.rk, T.rk, key, List.map_cons, List.map_nil, List.cons_append, List.nil_append, List.length_cons, List.length_nil, Option.map_some, Option.bind_some, Nat.reduceAdd, Nat.zero_add, Nat.add_zero, Nat.add_sub_cancel_left, Int.toNat_natCast, reps, List.all_cons, List.all_nil, C.flat, List.append_eq, Bool.not_true, Bool.and_true, Bool.or_false, Bool.or_self, Bool.not_false, List.append_nil, Bool.and_self, ↓mtG_rk, ↓winO_rk]) <;> rfl) (hle : leS n H1 σ N σ h0 (belsK N (h0.map (Fam.rk σ N)) (argsK n args (args0.map (T.rk σ N)) True)) := by repeat' first | refine And.intro ?_ ?_ | exact xeC | fail) : CallK P F args H K := CallK.mk3 hc hap hnl h1 hN hn hH hle hk
set_option maxRecDepth 20000 in
set_option maxHeartbeats 8000000 in
theorem csamePs (ca cb na nb : Nat) (wa wb va vb : Bool) (a b : Option (Pkt × List Int)) (hl : (ackL a).length ≤ 1000000) :
    Ctr Try.prog 20 [.c (.sl 0 0 11 0 (ackN a) ca), .c (.sl 2 0 11 0 (ackN b) cb)] [.one (pkts wa 1 (ackN a) ca (ackL a).length na (ackK a)), .one (ints va (ackL a) na), .one (pkts wb 3 (ackN b) cb (ackL b).length nb (ackK b)), .one (ints vb (ackL b) nb)]
      fun v h => v = .c (.b (sameA a b)) ∧ h = [.one (pkts wa 1 (ackN a) ca (ackL a).length na (ackK a)), .one (ints va (ackL a) na), .one (pkts wb 3 (ackN b) cb (ackL b).length nb (ackK b)), .one (ints vb (ackL b) nb)] := by
  refine Ctr.mk' tbv mixed Try.func20 rfl rfl rfl (fun _ _ => by kernel_rfl) (by kernel_rfl) (by rfl) (by rfl) (by (repeat' first | refine And.intro ?_ ?_ | exact xeC | fail)) ?_
  repeat' (first | (fail_if_success (with_reducible refine xstp ?_)); first | ((with_reducible refine And.intro (fun (hb : _ = true) => ?_) (fun (hb : _ = false) => ?_)) <;> replace hb := xnC hb <;> (try first | exact xfC | exact bff hb (by assumption) | exact bff (by assumption) hb)) | (with_reducible intro hc; (try simp only [capsP, and_true] at hc); (try exact xfC)) | ((fail_if_success (with_reducible first | refine xgon ?_ | intro _)); (conv => whnf); (fail_if_success (fail_if_success (with_reducible first | refine xstp ?_ | refine xgon ?_ | intro _)))))
  · refine FinK.mk ⟨[0, 1, 2, 3], _, _, ⟨rfl, rfl⟩, ?_⟩; (repeat' first | refine And.intro ?_ ?_ | exact xeC | fail)
    exact decide_eq_false (fun e => hb (by rw [e]))
  have hab : ackN a = ackN b := by omega
  refine LoopK.mk' {k : Nat // k ≤ ackN a ∧ (k = 1 → a = b)}
    (fun ⟨k, _⟩ => ⟨[(0, .c (.sl 0 0 11 0 (ackN a) ca)), (1, .c (.sl 2 0 11 0 (ackN b) cb)), (5, .c (.i .i64 k))], [.one (pkts wa 1 (ackN a) ca (ackL a).length na (ackK a)), .one (ints va (ackL a) na), .one (pkts wb 3 (ackN b) cb (ackL b).length nb (ackK b)), .one (ints vb (ackL b) nb)]⟩) (fun k => ackN a - k.1)
    ⟨⟨0, Nat.zero_le _, fun h => by omega⟩, [0, 1, 2, 3], ?_⟩ ?_
  · (repeat' first | refine And.intro ?_ ?_ | exact xeC | fail)
  rintro ⟨k, hk, hno⟩
  have ha1 := ack_le a
  repeat' (first | (fail_if_success (with_reducible refine xstp ?_)); first | ((with_reducible refine And.intro (fun (hb : _ = true) => ?_) (fun (hb : _ = false) => ?_)) <;> replace hb := xnC hb <;> (try first | exact xfC | exact bff hb (by assumption) | exact bff (by assumption) hb)) | ((with_reducible refine And.intro ?_ ?_); focus exact xoC) | (with_reducible intro hc; (try simp only [capsP, and_true] at hc); (try exact xfC)) | ((fail_if_success (with_reducible first | refine xgon ?_ | intro _)); (conv => whnf); (fail_if_success (fail_if_success (with_reducible first | refine xstp ?_ | refine xgon ?_ | intro _)))))
  · have h1 : ackN a = 1 := by omega
    have h2 : ackN b = 1 := by omega
    have hk0 : k = 0 := by omega
    refine cH19E2 (σ := [.whole 1, .whole 3]) (nl := []) (csameP na nb va vb (ackK a) (ackK b) (ackL a) (ackL b) hl) ?_
    rintro v h' ⟨rfl, rfl⟩ hcaps
    refine rH19E0 ?_
    repeat' (first | (fail_if_success (with_reducible refine xstp ?_)); first | ((with_reducible refine And.intro (fun (hb : _ = true) => ?_) (fun (hb : _ = false) => ?_)) <;> replace hb := xnC hb <;> (try first | exact xfC | exact bff hb (by assumption) | exact bff (by assumption) hb)) | ((with_reducible refine And.intro ?_ ?_); focus exact xoC) | ((fail_if_success (with_reducible first | refine xgon ?_ | intro _)); (conv => whnf); (fail_if_success (fail_if_success (with_reducible first | refine xstp ?_ | refine xgon ?_ | intro _)))))
    · refine FinK.mk ⟨[0, 1, 2, 3], _, _, ⟨rfl, rfl⟩, ?_⟩; (repeat' first | refine And.intro ?_ ?_ | exact xeC | fail)
      exact decide_eq_false (fun e => hb ((ack_eq h1 h2).1 e))
    · refine ⟨⟨k + 1, by omega, fun _ => (ack_eq h1 h2).2 hb⟩, [0, 1, 2, 3], by simp only; omega, ?_⟩
      (repeat' first | refine And.intro ?_ ?_ | exact xeC | fail)
  · refine FinK.mk ⟨[0, 1, 2, 3], _, _, ⟨rfl, rfl⟩, ?_⟩; (repeat' first | refine And.intro ?_ ?_ | exact xeC | fail)
    refine decide_eq_true ?_
    by_cases h : k = 1
    · exact hno h
    · exact ack_none (by omega) (by omega)

def dataP (n : Int) : Pkt := ⟨1, 0, 0, 1, 0, n, 0, 0, n, ⟨#[112]⟩⟩
set_option maxRecDepth 10000 in
theorem cdataP (n : Int) : Ctr Try.prog 19 [.c (.i .i64 n)] [] fun v h => v = .a (encP .nils (dataP n)) ∧ h = [] := by
  refine Ctr.mk' tbv mixed Try.func19 rfl rfl rfl (fun _ _ => by kernel_rfl) (by kernel_rfl) (by rfl) (by rfl) (by (repeat' first | refine And.intro ?_ ?_ | exact xeC | fail)) ?_
  repeat' (first | (fail_if_success (with_reducible refine xstp ?_)); first | (with_reducible intro hc; (try simp only [capsP, and_true] at hc); (try exact xfC)) | ((fail_if_success (with_reducible first | refine xgon ?_ | intro _)); (conv => whnf); (fail_if_success (fail_if_success (with_reducible first | refine xstp ?_ | refine xgon ?_ | intro _)))))
  refine FinK.mk ⟨[], _, _, ⟨rfl, rfl⟩, ?_⟩; (repeat' first | refine And.intro ?_ ?_ | exact xeC | fail)

def relQ : Qos := ⟨true, false, true, 0, 0, 0, 0⟩
set_option maxRecDepth 10000 in
theorem crelQ : Ctr Try.prog 11 [] [] fun v h => v = .a (encQ relQ) ∧ h = [] := by
  refine Ctr.mk' tbv mixed Try.func11 rfl rfl rfl (fun _ _ => by kernel_rfl) (by kernel_rfl) (by rfl) (by rfl) (by (repeat' first | refine And.intro ?_ ?_ | exact xeC | fail)) ?_
  repeat' (first | (fail_if_success (with_reducible refine xstp ?_)); first | (with_reducible intro hc; (try simp only [capsP, and_true] at hc); (try exact xfC)) | ((fail_if_success (with_reducible first | refine xgon ?_ | intro _)); (conv => whnf); (fail_if_success (fail_if_success (with_reducible first | refine xstp ?_ | refine xgon ?_ | intro _)))))
  refine FinK.mk ⟨[], _, _, ⟨rfl, rfl⟩, ?_⟩; (repeat' first | refine And.intro ?_ ?_ | exact xeC | fail)

def RdJ (q : Qos) : Rd := ⟨[], [], [(0, 1)], 1, fun y => if y = 1 then some ⟨3, 1, q.rel, [], 0⟩ else none⟩
theorem Rd0_ok : RdOk Rd0 := ⟨fun i hi => absurd hi (Nat.not_lt_zero i), fun x m h => by cases h⟩
theorem viol_self (q : Qos) (h : okQ q) : viol q q = 0 := by
  have h2 : 0 ≤ q.dead := h.1.1
  have h3 : 0 ≤ q.lease := h.2.2.1.1
  unfold viol wthn
  rw [if_neg (by rintro ⟨a, b⟩; rw [a] at b; cases b), if_neg (by rintro ⟨a, b⟩; rw [a] at b; cases b), if_neg (by omega), if_neg (by omega)]
theorem matchJ (q : Qos) (h : okQ q) : matchE q 1 3 q Rd0 = 0 := by
  unfold matchE
  rw [if_neg (by omega), if_neg (by simpa using h), if_neg (by simpa using viol_self q h)]
  rfl

theorem matchRJ (q : Qos) (h : okQ q) : matchR q 1 3 q Rd0 = RdJ q := by
  unfold matchR
  rw [if_pos (matchJ q h), Bool.and_self]
  rfl
theorem RdJ_ok (q : Qos) : RdOk (RdJ q) where
  a := fun i hi => by
    have : i = 0 := by simp [RdJ] at hi; exact hi
    subst this
    exact ⟨by simp [RdJ], _, rfl⟩
  b := fun x m h => by
    by_cases hx : x = 1
    · subst hx
      exact ⟨0, by simp [RdJ], by simp [RdJ], Nat.le_refl _⟩
    · simp [RdJ, hx] at h

theorem rH19E1 {σ : List Sg} {H h' : List Fam} {v : T} {K : T → List Fam → Prop} {H' : List Fam} {v' : T} {N : Nat} (hk : K v' H') (hN : H.length = N := by (try simp only [↓List.length_cons, ↓List.length_nil, Nat.reduceAdd]) <;> rfl) (h : givesF σ N H σ h' = some H' := by (try simp (maxSteps := 1000000) only [givesF, setF, updF, Fam.zeroth, Fam.rk, Ck.rk, C.rk, E.rk, T.rk, key, List.map_cons, List.map_nil, List.cons_append, List.nil_append, List.length_cons, List.length_nil, Option.map_some, Option.bind_some, Nat.reduceAdd, Nat.zero_add, Nat.add_zero, Nat.add_sub_cancel_left, Int.toNat_natCast, reps, List.all_cons, List.all_nil, C.flat, List.append_eq, Bool.not_true, Bool.and_true, Bool.or_false, Bool.or_self, Bool.not_false, List.append_nil, Bool.and_self, ↓mtG_rk, ↓winO_rk, encQ]) <;> rfl) (hv : v.rk σ N = v' := by (try simp only [givesF, setF, updF, Fam.zeroth, Fam.rk, Ck.rk, C.rk, E.rk, T.rk, key, List.map_cons, List.map_nil, List.cons_append, List.nil_append, List.length_cons, List.length_nil, Option.map_some, Option.bind_some, Nat.reduceAdd, Nat.zero_add, Nat.add_zero, Nat.add_sub_cancel_left, Int.toNat_natCast, reps, List.all_cons, List.all_nil, C.flat, List.append_eq, Bool.not_true, Bool.and_true, Bool.or_false, Bool.or_self, Bool.not_false, List.append_nil, Bool.and_self, ↓mtG_rk, ↓winO_rk, encQ]) <;> rfl) : RetG σ H h' v K := ret_mk3 hN h hv hk
set_option maxRecDepth 10000 in
set_option maxHeartbeats 4000000 in
theorem cjoined (q : Qos) (hq : okQ q) : Ctr Try.prog 10 [.a (encQ q)] [] fun v h => v = .c (.p 0 0 0) ∧ h = rdB 9 q (RdJ q) 0 0 := by
  refine Ctr.mk' tbv mixed Try.func10 rfl rfl rfl (fun _ _ => by kernel_rfl) (by kernel_rfl) (by rfl) (by rfl) (by (repeat' first | refine And.intro ?_ ?_ | exact xeC | fail)) ?_
  repeat' (first | (fail_if_success (with_reducible refine xstp ?_)); first | (with_reducible intro hc; (try simp only [capsP, and_true] at hc); (try exact xfC)) | ((fail_if_success (with_reducible first | refine xgon ?_ | intro _)); (conv => whnf); (fail_if_success (fail_if_success (with_reducible first | refine xstp ?_ | refine xgon ?_ | intro _)))))
  refine cH19E2 (σ := []) (nl := []) (cnew 9 q) ?_
  rintro v h' (⟨_, rfl, rfl⟩ | ⟨hn, _, _⟩) hcaps
  · refine rH19E1 ?_
    repeat' (first | (fail_if_success (with_reducible refine xstp ?_)); first | ((with_reducible refine And.intro (fun (hb : _ = true) => ?_) (fun (hb : _ = false) => ?_)) <;> replace hb := xnC hb <;> (try first | exact xfC | exact bff hb (by assumption) | exact bff (by assumption) hb)) | ((fail_if_success (with_reducible first | refine xgon ?_ | intro _)); (conv => whnf); (fail_if_success (fail_if_success (with_reducible first | refine xstp ?_ | refine xgon ?_ | intro _)))))
    refine cH19E2 (σ := [.whole 1, .name 2, .whole 3, .name 4, .whole 6, .whole 7]) (nl := []) (cmatch 9 q Rd0 0 0 0 0 1 3 q Rd0_ok) ?_ (hle := by (repeat' first | refine And.intro ?_ ?_ | exact xeC | fail) <;> (first | exact fun _ => trivial | exact fun x => mtO_le rfl | exact fun x => winO_le | exact fun x => mtO_bel rfl | exact fun x => winO_bel | exact fun x => mtR_bel rfl rfl | exact fun x => winR_bel))
    rintro v h' ⟨rfl, rfl⟩ hcaps
    refine rH19E1 ?_
    rw [matchJ q hq]
    repeat' (first | (fail_if_success (with_reducible refine xstp ?_)); first | ((with_reducible refine And.intro (fun (hb : _ = true) => ?_) (fun (hb : _ = false) => ?_)) <;> replace hb := xnC hb <;> (try first | exact xfC | exact bff hb (by assumption) | exact bff (by assumption) hb)) | ((fail_if_success (with_reducible first | refine xgon ?_ | intro _)); (conv => whnf); (fail_if_success (fail_if_success (with_reducible first | refine xstp ?_ | refine xgon ?_ | intro _)))))
    rw [matchRJ q hq]
    refine FinK.mk ⟨[1, 2, 3, 4, 5, 9, 10, 98], _, _, ⟨rfl, rfl⟩, ?_⟩
    (repeat' first | refine And.intro ?_ ?_ | exact xeC | fail)
    all_goals (first | exact fun _ => trivial | exact fun x => mtO_le rfl | exact fun x => winO_le | exact fun x => mtO_bel rfl | exact fun x => winO_bel | exact fun x => mtR_bel rfl rfl | exact fun x => winR_bel)
  · exact absurd ⟨by omega, hq⟩ hn
end Go.Proofs.Ytgcofipbdidhmaa


namespace Go.Proofs.Ytgcofipbdidhmaa
open Go.X
set_option linter.unusedVariables false

/-! ### What holds of a reader at all times -/
theorem nodup_lt : ∀ (n : Nat) (l : List Nat), l.Nodup → (∀ x ∈ l, x < n) → l.length ≤ n
  | 0, l, _, h => by
    cases l with
    | nil => simp
    | cons a l => exact absurd (h a (by simp)) (by omega)
  | n + 1, l, hd, h => by
    by_cases hn : n ∈ l
    · have h1 := nodup_lt n (l.erase n) (hd.erase n) (fun x hx => by
        have h2 := (hd.mem_erase_iff).1 hx
        have := h x h2.2
        omega)
      rw [List.length_erase_of_mem hn] at h1
      omega
    · have := nodup_lt n l hd (fun x hx => by
        have h2 := h x hx
        have : x ≠ n := fun e => hn (e ▸ hx)
        omega)
      omega
theorem WOk.len {W : Win} {ex : Int} (h : WOk W ex) : W.length ≤ 256 := by
  have h1 : ((W.map (·.2.1)).map fun k => (k - ex).toNat).Nodup := by
    rw [List.nodup_iff_pairwise_ne, List.pairwise_map]
    have h2 := List.nodup_iff_pairwise_ne.1 h.nd
    refine List.Pairwise.imp_of_mem (fun {a b} ha hb hab e => hab ?_) h2
    obtain ⟨x, hx, rfl⟩ := List.mem_map.1 ha
    obtain ⟨y, hy, rfl⟩ := List.mem_map.1 hb
    have := h.rg x hx
    have := h.rg y hy
    omega
  have := nodup_lt 256 _ h1 (fun x hx => by
    obtain ⟨k, hk, rfl⟩ := List.mem_map.1 hx
    obtain ⟨e, he, rfl⟩ := List.mem_map.1 hk
    have := h.rg e he
    omega)
  simpa using this

structure MOk (m : Mx) : Prop where
  ok : WOk m.W m.ex
  lo : 1 ≤ m.ex
  hi : m.ex ≤ 1099511627777
  un : m.rel = false → m.W = []
structure RdI (R : Rd) (B : Nat) : Prop where
  ok : RdOk R
  m : ∀ x m, R.D x = some m → MOk m
  l : R.l.length ≤ 256
  ls : R.ls.length ≤ B
theorem RdI.all {R : Rd} {B : Nat} (h : RdI R B) (hB : B ≤ 600000) : AllInv R 800000 700000 := fun x m hm => by
  have h1 := h.m x m hm
  have := h1.ok.len
  have := h.l
  have := h.ls
  exact ⟨h1.ok, h1.lo, h1.hi, by simp only [Rd.rs]; omega, by simp only [Rd.rs]; omega⟩

/-- The same of one writer's state. -/
structure RsI (r : Rs) (B : Nat) : Prop where
  ok : WOk r.W r.ex
  lo : 1 ≤ r.ex
  hi : r.ex ≤ 1099511627777
  l : r.l.length ≤ 256
  ls : r.ls.length ≤ B

theorem new_le' (q : Qos) (l : List Smp) (x : Smp) (h : l.length ≤ 256) : (newS q l x).length ≤ 256 := by
  unfold newS
  split
  · rename_i h0
    unfold addL
    split
    · rename_i ho
      have : ¬ 256 ≤ l.length := by
        intro h1
        unfold addE at h0
        split at h0
        · omega
        · split at h0
          · omega
          · split at h0
            · omega
            · rw [if_pos ⟨ho, h1⟩] at h0; omega
      simp; omega
    · rename_i ho
      have h1 := old_lt q l x.w
      have h2 : (oldI q l x.w).toNat < l.length := by omega
      rw [List.length_append, List.length_eraseIdx_of_lt h2]
      simp; omega
  · exact h

theorem mv_I (q : Qos) (w : Int) {B : Nat} : ∀ (n : Nat) (r : Rs), RsI r B → RsI (mv q w n r) (B + 2 * n) ∧ r.ex ≤ (mv q w n r).ex
  | 0, r, h => ⟨h, Int.le_refl _⟩
  | n + 1, r, h => by
    unfold mv
    cases hg : wget r.W r.ex with
    | none => exact ⟨⟨h.ok, h.lo, h.hi, h.l, by have := h.ls; simp only; omega⟩, Int.le_refl _⟩
    | some s =>
      obtain ⟨i, hi, hk, rfl⟩ := get_find hg
      have hmx : r.ex ≤ 1099511627776 := by
        rw [← hk, getD_at hi]
        exact h.ok.mx _ (List.getElem_mem hi)
      have hn := new_le' q r.l (r.W.getD i default).2.2.x h.l
      have hd := dlv_le q r.l r.ls (r.W.getD i default).2.2.x
      have h1 := h.lo
      have h2 := h.l
      have h3 := h.ls
      have hs : RsI (mvStep q w (r.W.getD i default).2.2 r) (B + 2) := by
        refine ⟨ne_ok h.ok, by simp only [mvStep]; omega, by simp only [mvStep]; omega, ?_, ?_⟩
        · simp only [mvStep]
          split <;> omega
        · simp only [mvStep]
          split
          · omega
          · split
            · simp; omega
            · omega
      obtain ⟨i1, i2⟩ := mv_I q w n _ hs
      have e : B + 2 + 2 * n = B + 2 * (n + 1) := by omega
      rw [e] at i1
      refine ⟨i1, ?_⟩
      have : (mvStep q w (r.W.getD i default).2.2 r).ex = r.ex + 1 := rfl
      show r.ex ≤ (mv q w n (mvStep q w (r.W.getD i default).2.2 r)).ex
      omega

theorem RsI.mono {r : Rs} {B C : Nat} (h : RsI r B) (hB : B ≤ C) : RsI r C := ⟨h.ok, h.lo, h.hi, h.l, Nat.le_trans h.ls hB⟩
theorem put_I {r : Rs} {n : Int} {s : Slt} {B : Nat} (h : RsI r B) (ho : openB r n) (hn : n ≤ 1099511627776) : RsI (putW n s r) B :=
  ⟨put_ok h.ok ho hn, h.lo, h.hi, h.l, h.ls⟩
theorem jump_I {r : Rs} {n : Int} {B : Nat} (h : RsI r B) (h1 : r.ex ≤ n) (h2 : n ≤ 1099511627777) : RsI (jumpF n r) B :=
  ⟨jump_ok h.ok h1, by have := h.lo; simp only [jumpF]; omega, h2, h.l, h.ls⟩
theorem fill_I {r : Rs} {B : Nat} (h : RsI r B) (st n : Int) (k : Nat) (hn : n + k ≤ 1099511627777) : RsI (fillW st k n r) B := by
  have hf := fill_ok h.ok st n k hn
  exact ⟨hf.ok, by rw [hf.ex]; exact h.lo, by rw [hf.ex]; exact h.hi, by rw [hf.l]; exact h.l, by rw [hf.ls]; exact h.ls⟩

theorem nil_ok (ex : Int) : WOk [] ex := ⟨List.nodup_nil, (fun e he => by cases he), (fun e he => by cases he)⟩
theorem gap_of {x : Pkt} (h : checkP x = 0) (hk : x.k = 4) : (x.q = 0 ∨ x.q = 1) ∧ (1 ≤ x.f ∧ x.f ≤ 1099511627776) ∧ x.f - 1 ≤ x.la ∧ x.la ≤ 1099511627776 := by
  unfold checkP okN at h
  rw [if_neg (by omega), if_pos hk] at h
  split at h
  · assumption
  · omega
theorem hb_of {x : Pkt} (h : checkP x = 0) (hk : x.k = 2) : (1 ≤ x.f ∧ x.f ≤ 1099511627776) ∧ x.f - 1 ≤ x.la ∧ x.la ≤ 1099511627776 := by
  unfold checkP okN at h
  rw [if_neg (by omega), if_neg (by omega), if_pos hk] at h
  split at h
  · assumption
  · omega

theorem step_I {q : Qos} {x : Pkt} {m : Mx} {r : Rs} {B : Nat} (h : RsI r B) (hx : checkP x = 0) (hu : m.rel = false → r.W = []) :
    RsI (stepF q x m r) (B + 1000) ∧ r.ex ≤ (stepF q x m r).ex ∧ (m.rel = false → (stepF q x m r).W = []) := by
  have hlen := h.ok.len
  have hlo := h.lo
  have hls := h.ls
  unfold stepF
  split
  · rename_i hk
    have hq := okN_of hx hk
    unfold okN at hq
    unfold dataF
    split
    · exact ⟨h.mono (by omega), Int.le_refl _, hu⟩
    · split
      · rename_i hr
        have hl := lap_len x.w r.ex x.q
        have hd := dlv_le q r.l (r.ls ++ lapL x.w r.ex x.q) (smpOf x)
        have hn := new_le' q r.l (smpOf x) h.l
        simp only [List.length_append] at hd
        exact ⟨⟨by simp only [hu hr]; exact nil_ok _, by simp only; omega, by simp only; omega, hn, by simp only; omega⟩, by simp only; omega, fun _ => hu hr⟩
      · rename_i hr
        split
        · rename_i ho
          have := mv_I q x.w (r.W.length + 1) _ (put_I (s := ⟨1, smpOf x⟩) h ho hq.2)
          exact ⟨this.1.mono (by omega), this.2, fun e => absurd e hr⟩
        · exact ⟨h.mono (by omega), Int.le_refl _, hu⟩
  · split
    · rename_i hk
      have hg := gap_of hx hk
      unfold gapF
      split
      · exact ⟨h.mono (by omega), Int.le_refl _, hu⟩
      · split
        · rename_i hr
          split
          · have hl := lap_len x.w r.ex (x.la + 1)
            refine ⟨⟨by simp only [hu hr]; exact nil_ok _, by simp only; omega, by simp only; omega, h.l, ?_⟩, by simp only; omega, fun _ => hu hr⟩
            simp only
            split
            · simp only [List.length_append]; omega
            · omega
          · exact ⟨h.mono (by omega), Int.le_refl _, hu⟩
        · rename_i hr
          split
          · have hj := jump_I (n := x.la + 1) h (by omega) (by omega)
            have hjl := hj.ok.len
            have := mv_I q x.w (jumpF (x.la + 1) r).W.length _ hj
            refine ⟨this.1.mono (by omega), Int.le_trans ?_ this.2, fun e => absurd e hr⟩
            show r.ex ≤ x.la + 1
            omega
          · have hf := fill_I h (if x.q = 1 then 3 else 2) (max x.f r.ex) (min x.la (r.ex + 255) - max x.f r.ex + 1).toNat (by omega)
            have he := (fill_ok h.ok (if x.q = 1 then 3 else 2) (max x.f r.ex) (min x.la (r.ex + 255) - max x.f r.ex + 1).toNat (by omega)).ex
            have hfl := hf.ok.len
            generalize fillW (if x.q = 1 then 3 else 2) (min x.la (r.ex + 255) - max x.f r.ex + 1).toNat (max x.f r.ex) r = r' at *
            have := mv_I q x.w r'.W.length r' hf
            exact ⟨this.1.mono (by omega), by rw [← he]; exact this.2, fun e => absurd e hr⟩
    · rename_i h1 h2
      have hg := hb_of hx (kind_of hx h1 h2)
      unfold hbF
      split
      · exact ⟨h.mono (by omega), Int.le_refl _, hu⟩
      · rename_i hr
        split
        · have hj := jump_I (n := x.f) h (by omega) (by omega)
          have hjl := hj.ok.len
          have := mv_I q x.w (jumpF x.f r).W.length _ hj
          refine ⟨this.1.mono (by omega), Int.le_trans ?_ this.2, fun e => absurd e hr⟩
          show r.ex ≤ x.f
          omega
        · exact ⟨h.mono (by omega), Int.le_refl _, hu⟩

theorem upd_ok {R : Rd} (h : RdOk R) {w : Int} {m : Mx} (hm : R.get w = some m) (r : Rs) : RdOk (upd R w m r) := by
  have h1 : 1 ≤ w ∧ R.D w.toNat = some m := by
    unfold Rd.get at hm
    split at hm
    · exact ⟨by assumption, hm⟩
    · cases hm
  refine ⟨fun i hi => ?_, fun x m' hx => ?_⟩
  · obtain ⟨a1, m', a2⟩ := h.a i hi
    refine ⟨a1, ?_⟩
    show ∃ m', (if (R.M.getD i default).2.toNat = w.toNat then _ else _) = some m'
    split
    · exact ⟨_, rfl⟩
    · exact ⟨_, a2⟩
  · have hx : (if x = w.toNat then _ else R.D x) = some m' := hx
    split at hx
    · rename_i e
      subst e
      exact h.b _ _ h1.2
    · exact h.b _ _ hx

theorem recv_I {q : Qos} {x : Pkt} {R : Rd} {B : Nat} (h : RdI R B) : RdI (recvR q x R) (B + 1000) := by
  unfold recvR
  cases hm : R.get x.w with
  | none => exact ⟨h.ok, h.m, h.l, by have := h.ls; simp only; omega⟩
  | some m =>
    simp only
    split
    · rename_i hx
      have hD : 1 ≤ x.w ∧ R.D x.w.toNat = some m := by
        unfold Rd.get at hm
        split at hm
        · exact ⟨by assumption, hm⟩
        · cases hm
      have hk := h.m _ _ hD.2
      obtain ⟨s1, s2, s3⟩ := step_I (q := q) (m := m) (r := R.rs m) (B := B) ⟨hk.ok, hk.lo, hk.hi, h.l, h.ls⟩ hx hk.un
      refine ⟨upd_ok h.ok hm _, fun y m' hy => ?_, s1.l, s1.ls⟩
      have hy : (if y = x.w.toNat then _ else R.D y) = some m' := hy
      split at hy
      · cases hy
        exact ⟨s1.ok, s1.lo, s1.hi, s3⟩
      · exact h.m _ _ hy
    · exact ⟨h.ok, h.m, h.l, by have := h.ls; omega⟩

theorem RdJ_I (q : Qos) : RdI (RdJ q) 0 := by
  refine ⟨RdJ_ok q, fun x m h => ?_, by simp [RdJ], by simp [RdJ]⟩
  by_cases hx : x = 1
  · simp [RdJ, hx] at h
    subst h
    exact ⟨nil_ok _, by simp, by simp, fun _ => rfl⟩
  · simp [RdJ, hx] at h
end Go.Proofs.Ytgcofipbdidhmaa


namespace Go.Proofs.Ytgcofipbdidhmaa
open Go.X
set_option linter.unusedSimpArgs false
set_option linter.unusedVariables false

def hbP : Pkt := ⟨2, 0, 0, 1, 0, 0, 1, 4, 0, ⟨#[]⟩⟩
def gpP : Pkt := ⟨4, 0, 0, 1, 0, 1, 4, 4, 0, ⟨#[]⟩⟩
def A0 : Rd := RdJ relQ
def A1 : Rd := recvR relQ (dataP 1) A0
def A2 : Rd := recvR relQ (dataP 3) A1
def A3 : Rd := recvR relQ hbP A2
def A4 : Rd := recvR relQ (dataP 2) A3
def A5 : Rd := recvR relQ gpP A4
theorem relQ_ok : okQ relQ := by unfold okQ okT relQ; simp
theorem A0_I : RdI A0 0 := RdJ_I _
theorem A1_I : RdI A1 1000 := recv_I A0_I
theorem A2_I : RdI A2 2000 := recv_I A1_I
theorem A3_I : RdI A3 3000 := recv_I A2_I
theorem A4_I : RdI A4 4000 := recv_I A3_I
theorem A5_I : RdI A5 5000 := recv_I A4_I
theorem a1 : recvE (dataP 1) A0 = 0 := by decide
theorem a2 : recvE (dataP 3) A1 = 0 := by decide
theorem a3 : recvE hbP A2 = 0 := by decide
theorem a4 : recvE (dataP 2) A3 = 0 := by decide
theorem a5 : recvE gpP A4 = 0 := by decide
theorem a6 : A2.exp 1 = 2 := by decide
theorem a7 : A4.exp 1 = 4 := by decide
def ackA : Pkt × List Int := (⟨3, 0, 3, 1, 9, 0, 2, 4, 7, ⟨#[]⟩⟩, [2, 4])
theorem a8 : recvA 9 relQ hbP 7 A2 = some ackA := by decide
theorem a9 : A5.ls = [(1, 4)] := by decide
theorem a10 : A5.l.length = 3 := by decide
theorem a11 : (restF A5.l (tkN A5.l 2)).length = 1 := by decide
theorem a13 : (A5.l.take (tkN A5.l 2)).length = 2 := by decide
def A6 : Rd := ⟨restF A5.l (tkN A5.l 2), [], A5.M, A5.ck, A5.D⟩
theorem A6_ok : RdOk A6 := ⟨A5_I.ok.a, A5_I.ok.b⟩
theorem a14 : A6.exp 1 = 5 := by decide

theorem rH19G0 {σ : List Sg} {H h' : List Fam} {v : T} {K : T → List Fam → Prop} {H' : List Fam} {v' : T} {N : Nat} (hk : K v' H') (hN : H.length = N := by (try simp only [↓List.length_cons, ↓List.length_nil, Nat.reduceAdd]) <;> rfl) (h : givesF σ N H σ h' = some H' := by (try simp (maxSteps := 1000000) only [givesF, setF, updF, Fam.zeroth, Fam.rk, Ck.rk, C.rk, E.rk, T.rk, key, List.map_cons, List.map_nil, List.cons_append, List.nil_append, List.length_cons, List.length_nil, Option.map_some, Option.bind_some, Nat.reduceAdd, Nat.zero_add, Nat.add_zero, Nat.add_sub_cancel_left, Int.toNat_natCast, reps, List.all_cons, List.all_nil, C.flat, List.append_eq, Bool.not_true, Bool.and_true, Bool.or_false, Bool.or_self, Bool.not_false, List.append_nil, Bool.and_self, ↓mtG_rk, ↓winO_rk, encQ]) <;> rfl) (hv : v.rk σ N = v' := by (try simp only [givesF, setF, updF, Fam.zeroth, Fam.rk, Ck.rk, C.rk, E.rk, T.rk, key, List.map_cons, List.map_nil, List.cons_append, List.nil_append, List.length_cons, List.length_nil, Option.map_some, Option.bind_some, Nat.reduceAdd, Nat.zero_add, Nat.add_zero, Nat.add_sub_cancel_left, Int.toNat_natCast, reps, List.all_cons, List.all_nil, C.flat, List.append_eq, Bool.not_true, Bool.and_true, Bool.or_false, Bool.or_self, Bool.not_false, List.append_nil, Bool.and_self, ↓mtG_rk, ↓winO_rk, encQ]) <;> rfl) : RetG σ H h' v K := ret_mk3 hN h hv hk
theorem rH19G1 {σ : List Sg} {H h' : List Fam} {v : T} {K : T → List Fam → Prop} {H' : List Fam} {v' : T} {N : Nat} (hk : K v' H') (hN : H.length = N := by (try simp only [↓List.length_cons, ↓List.length_nil, Nat.reduceAdd]) <;> rfl) (h : givesF σ N H σ h' = some H' := by (try simp (maxSteps := 1000000) only [givesF, setF, updF, Fam.zeroth, Fam.rk, Ck.rk, C.rk, E.rk, T.rk, key, List.map_cons, List.map_nil, List.cons_append, List.nil_append, List.length_cons, List.length_nil, Option.map_some, Option.bind_some, Nat.reduceAdd, Nat.zero_add, Nat.add_zero, Nat.add_sub_cancel_left, Int.toNat_natCast, reps, List.all_cons, List.all_nil, C.flat, List.append_eq, Bool.not_true, Bool.and_true, Bool.or_false, Bool.or_self, Bool.not_false, List.append_nil, Bool.and_self, ↓mtG_rk, ↓winO_rk]) <;> rfl) (hv : v.rk σ N = v' := by (try simp only [givesF, setF, updF, Fam.zeroth, Fam.rk, Ck.rk, C.rk, E.rk, T.rk, key, List.map_cons, List.map_nil, List.cons_append, List.nil_append, List.length_cons, List.length_nil, Option.map_some, Option.bind_some, Nat.reduceAdd, Nat.zero_add, Nat.add_zero, Nat.add_sub_cancel_left, Int.toNat_natCast, reps, List.all_cons, List.all_nil, C.flat, List.append_eq, Bool.not_true, Bool.and_true, Bool.or_false, Bool.or_self, Bool.not_false, List.append_nil, Bool.and_self, ↓mtG_rk, ↓winO_rk]) <;> rfl) : RetG σ H h' v K := ret_mk3 hN h hv hk
theorem cH19G2 {P : Program} {F : Nat} {args : List T} {H : List Fam} {K : T → List Fam → Prop} {σ : List Sg} {nl : List Fam} {args0 : List T} {h0 : List Fam} {Q : T → List Fam → Prop} {H2 H1 : List Fam} {N n : Nat} (hc : Ctr P F args0 h0 Q) (hk : ∀ v h', Q v h' → capsP h' → RetG σ H2 h' v K) (hap : apart σ = true := by rfl) (hnl : nl.all nilB = true := by rfl) (h1 : H ++ nl = H1 := by first | exact List.append_nil _ | ((try simp only [List.cons_append, List.nil_append]) <;> rfl)) (hN : H1.length = N := by (try simp only [↓List.length_cons, ↓List.length_nil, Nat.reduceAdd]) <;> rfl) (hn : H.length = n := by (try simp only [↓List.length_cons, ↓List.length_nil, Nat.reduceAdd]) <;> rfl) (hH : givesF σ N H1 σ h0 = some H2 := by (try simp (maxSteps := 1000000) only [givesF, setF, updF, Fam.zeroth, Fam.rk, Ck.rk, C.rk, E.rk, T.rk, key, List.map_cons, List.map_nil, List.cons_append, List.nil_append, List.length_cons, List.length_nil, Option.map_some, Option.bind_some, Nat.reduceAdd, Nat.zero_add, Nat.add_zero, Nat.add_sub_cancel_left, Int.toNat_natCast, reps, List.all_cons, List.all_nil, C.flat, List.append_eq, Bool.not_true, Bool.and_true, Bool.or_false, Bool.or_self, Bool.not_false, List.append_nil, Bool.and_self, ↓mtG_rk, ↓winO_rk]) <;> rfl) (hle : leS n H1 σ N σ h0 (belsK N (h0.map (Fam.rk σ N)) (argsK n args (args0.map (T.rk σ N)) True)) := by repeat' first | refine And.intro ?_ ?_ | exact xeC | fail) : CallK P F args H K := CallK.mk3 hc hap hnl h1 hN hn hH hle hk
set_option maxRecDepth 20000 in
set_option maxHeartbeats 8000000 in
theorem cawake : Ctr Try.prog 13 [] [] fun v h => v = .c .tt ∧ h = [] := by
  refine Ctr.mk' tbv mixed Try.func13 rfl rfl rfl (fun _ _ => by kernel_rfl) (by kernel_rfl) (by rfl) (by rfl) (by (repeat' first | refine And.intro ?_ ?_ | exact xeC | fail)) ?_
  repeat' (first | (fail_if_success (with_reducible refine xstp ?_)); first | (with_reducible intro hc; (try simp only [capsP, and_true] at hc); (try exact xfC)) | ((fail_if_success (with_reducible first | refine xgon ?_ | intro _)); (conv => whnf); (fail_if_success (fail_if_success (with_reducible first | refine xstp ?_ | refine xgon ?_ | intro _)))))
  refine cH19G2 (σ := []) (nl := []) (crelQ) ?_
  rintro v h' ⟨rfl, rfl⟩ hcaps
  refine rH19G0 ?_
  repeat' (first | (fail_if_success (with_reducible refine xstp ?_)); first | ((fail_if_success (with_reducible first | refine xgon ?_ | intro _)); (conv => whnf); (fail_if_success (fail_if_success (with_reducible first | refine xstp ?_ | refine xgon ?_ | intro _)))))
  refine cH19G2 (σ := []) (nl := []) (cjoined relQ relQ_ok) ?_
  rintro v h' ⟨rfl, rfl⟩ hcaps
  rw [show RdJ relQ = A0 from rfl]
  refine rH19G0 ?_
  repeat' (first | (fail_if_success (with_reducible refine xstp ?_)); first | ((fail_if_success (with_reducible first | refine xgon ?_ | intro _)); (conv => whnf); (fail_if_success (fail_if_success (with_reducible first | refine xstp ?_ | refine xgon ?_ | intro _)))))
  refine cH19G2 (σ := []) (nl := []) (cdataP 1) ?_
  rintro v h' ⟨rfl, rfl⟩ hcaps
  refine rH19G1 ?_
  repeat' (first | (fail_if_success (with_reducible refine xstp ?_)); first | ((fail_if_success (with_reducible first | refine xgon ?_ | intro _)); (conv => whnf); (fail_if_success (fail_if_success (with_reducible first | refine xstp ?_ | refine xgon ?_ | intro _)))))
  refine cH19G2 (σ := [.whole 0, .whole 1, .whole 2, .whole 3, .whole 4, .whole 5, .whole 6, .name 8]) (nl := [.one .no]) (crecv 9 relQ A0 0 0 0 0 (dataP 1) 5 A0_I.ok (A0_I.all (by omega))) ?_ (hle := by (repeat' first | refine And.intro ?_ ?_ | exact xeC | fail) <;> (first | exact fun _ => trivial | exact fun x => mtO_le rfl | exact fun x => winO_le | exact fun x => mtO_bel rfl | exact fun x => winO_bel | exact fun x => mtR_bel rfl rfl | exact fun x => winR_bel))
  rintro v h' ⟨c1, d1, m1, p1, rfl, rfl⟩ hcaps
  rw [show recvR relQ (dataP 1) A0 = A1 from rfl, a1]
  refine rH19G1 ?_
  repeat' (first | (fail_if_success (with_reducible refine xstp ?_)); first | ((fail_if_success (with_reducible first | refine xgon ?_ | intro _)); (conv => whnf); (fail_if_success (fail_if_success (with_reducible first | refine xstp ?_ | refine xgon ?_ | intro _)))))
  refine cH19G2 (σ := []) (nl := []) (cdataP 3) ?_
  rintro v h' ⟨rfl, rfl⟩ hcaps
  refine rH19G1 ?_
  repeat' (first | (fail_if_success (with_reducible refine xstp ?_)); first | ((fail_if_success (with_reducible first | refine xgon ?_ | intro _)); (conv => whnf); (fail_if_success (fail_if_success (with_reducible first | refine xstp ?_ | refine xgon ?_ | intro _)))))
  refine cH19G2 (σ := [.whole 0, .whole 1, .whole 2, .whole 9, .whole 10, .whole 5, .whole 6, .name 13]) (nl := [.one .no]) (crecv 9 relQ A1 c1 d1 0 0 (dataP 3) 6 A1_I.ok (A1_I.all (by omega))) ?_ (hle := by (repeat' first | refine And.intro ?_ ?_ | exact xeC | fail) <;> (first | exact fun _ => trivial | exact fun x => mtO_le rfl | exact fun x => winO_le | exact fun x => mtO_bel rfl | exact fun x => winO_bel | exact fun x => mtR_bel rfl rfl | exact fun x => winR_bel))
  rintro v h' ⟨c2, d2, m2, p2, rfl, rfl⟩ hcaps
  rw [show recvR relQ (dataP 3) A1 = A2 from rfl, a2]
  refine rH19G1 ?_
  repeat' (first | (fail_if_success (with_reducible refine xstp ?_)); first | ((fail_if_success (with_reducible first | refine xgon ?_ | intro _)); (conv => whnf); (fail_if_success (fail_if_success (with_reducible first | refine xstp ?_ | refine xgon ?_ | intro _)))))
  refine cH19G2 (σ := [.whole 0, .name 1, .whole 2, .name 14, .whole 5, .name 6]) (nl := []) (cexp 9 relQ A2 1 0 d2 A2_I.ok) ?_ (hle := by (repeat' first | refine And.intro ?_ ?_ | exact xeC | fail) <;> (first | exact fun _ => trivial | exact fun x => mtO_le rfl | exact fun x => winO_le | exact fun x => mtO_bel rfl | exact fun x => winO_bel | exact fun x => mtR_bel rfl rfl | exact fun x => winR_bel))
  rintro v h' ⟨rfl, rfl⟩ hcaps
  rw [a6]
  refine rH19G1 ?_
  repeat' (first | (fail_if_success (with_reducible refine xstp ?_)); first | ((fail_if_success (with_reducible first | refine xgon ?_ | intro _)); (conv => whnf); (fail_if_success (fail_if_success (with_reducible first | refine xstp ?_ | refine xgon ?_ | intro _)))))
  refine cH19G2 (σ := [.whole 0, .whole 1, .whole 2, .whole 14, .whole 15, .whole 5, .whole 6, .name 18]) (nl := [.one .no]) (crecv 9 relQ A2 c2 d2 0 0 hbP 7 A2_I.ok (A2_I.all (by omega))) ?_ (hle := by (repeat' first | refine And.intro ?_ ?_ | exact xeC | fail) <;> (first | exact fun _ => trivial | exact fun x => mtO_le rfl | exact fun x => winO_le | exact fun x => mtO_bel rfl | exact fun x => winO_bel | exact fun x => mtR_bel rfl rfl | exact fun x => winR_bel))
  rintro v h' ⟨c3, d3, m3, p3, rfl, rfl⟩ hcaps
  rw [a8]
  rw [show recvR relQ hbP A2 = A3 from rfl, a3]
  refine rH19G1 ?_
  repeat' (first | (fail_if_success (with_reducible refine xstp ?_)); first | ((fail_if_success (with_reducible first | refine xgon ?_ | intro _)); (conv => whnf); (fail_if_success (fail_if_success (with_reducible first | refine xstp ?_ | refine xgon ?_ | intro _)))))
  refine cH19G2 (σ := []) (nl := []) (cdataP 2) ?_
  rintro v h' ⟨rfl, rfl⟩ hcaps
  refine rH19G1 ?_
  repeat' (first | (fail_if_success (with_reducible refine xstp ?_)); first | ((fail_if_success (with_reducible first | refine xgon ?_ | intro _)); (conv => whnf); (fail_if_success (fail_if_success (with_reducible first | refine xstp ?_ | refine xgon ?_ | intro _)))))
  refine cH19G2 (σ := [.whole 0, .whole 1, .whole 2, .whole 19, .whole 20, .whole 5, .whole 6, .name 23]) (nl := [.one .no]) (crecv 9 relQ A3 c3 d3 0 0 (dataP 2) 8 A3_I.ok (A3_I.all (by omega))) ?_ (hle := by (repeat' first | refine And.intro ?_ ?_ | exact xeC | fail) <;> (first | exact fun _ => trivial | exact fun x => mtO_le rfl | exact fun x => winO_le | exact fun x => mtO_bel rfl | exact fun x => winO_bel | exact fun x => mtR_bel rfl rfl | exact fun x => winR_bel))
  rintro v h' ⟨c4, d4, m4, p4, rfl, rfl⟩ hcaps
  rw [show recvR relQ (dataP 2) A3 = A4 from rfl, a4]
  refine rH19G1 ?_
  repeat' (first | (fail_if_success (with_reducible refine xstp ?_)); first | ((fail_if_success (with_reducible first | refine xgon ?_ | intro _)); (conv => whnf); (fail_if_success (fail_if_success (with_reducible first | refine xstp ?_ | refine xgon ?_ | intro _)))))
  refine cH19G2 (σ := [.whole 0, .name 1, .whole 2, .name 24, .whole 5, .name 6]) (nl := []) (cexp 9 relQ A4 1 0 d4 A4_I.ok) ?_ (hle := by (repeat' first | refine And.intro ?_ ?_ | exact xeC | fail) <;> (first | exact fun _ => trivial | exact fun x => mtO_le rfl | exact fun x => winO_le | exact fun x => mtO_bel rfl | exact fun x => winO_bel | exact fun x => mtR_bel rfl rfl | exact fun x => winR_bel))
  rintro v h' ⟨rfl, rfl⟩ hcaps
  rw [a7]
  refine rH19G1 ?_
  repeat' (first | (fail_if_success (with_reducible refine xstp ?_)); first | ((fail_if_success (with_reducible first | refine xgon ?_ | intro _)); (conv => whnf); (fail_if_success (fail_if_success (with_reducible first | refine xstp ?_ | refine xgon ?_ | intro _)))))
  refine cH19G2 (σ := [.whole 0, .whole 1, .whole 2, .whole 24, .whole 25, .whole 5, .whole 6, .name 28]) (nl := [.one .no]) (crecv 9 relQ A4 c4 d4 0 0 gpP 9 A4_I.ok (A4_I.all (by omega))) ?_ (hle := by (repeat' first | refine And.intro ?_ ?_ | exact xeC | fail) <;> (first | exact fun _ => trivial | exact fun x => mtO_le rfl | exact fun x => winO_le | exact fun x => mtO_bel rfl | exact fun x => winO_bel | exact fun x => mtR_bel rfl rfl | exact fun x => winR_bel))
  rintro v h' ⟨c5, d5, m5, p5, rfl, rfl⟩ hcaps
  rw [show recvR relQ gpP A4 = A5 from rfl, a5]
  refine rH19G1 ?_
  repeat' (first | (fail_if_success (with_reducible refine xstp ?_)); first | ((with_reducible refine And.intro (fun (hb : _ = true) => ?_) (fun (hb : _ = false) => ?_)) <;> replace hb := xnC hb <;> (try first | exact xfC | exact bff hb (by assumption) | exact bff (by assumption) hb)) | ((fail_if_success (with_reducible first | refine xgon ?_ | intro _)); (conv => whnf); (fail_if_success (fail_if_success (with_reducible first | refine xstp ?_ | refine xgon ?_ | intro _)))))
  refine cH19G2 (σ := [.whole 22, .whole 21, .whole 35, .whole 33]) (nl := []) (csamePs p3 1 m3 2 true true true true (some ackA) (some ackA) (by decide)) ?_ (hle := by (repeat' first | refine And.intro ?_ ?_ | exact xeC | fail) <;> first | (first | exact fun _ => trivial | exact fun x => mtO_le rfl | exact fun x => winO_le | exact fun x => mtO_bel rfl | exact fun x => winO_bel | exact fun x => mtR_bel rfl rfl | exact fun x => winR_bel) | (intro i hi; have : i < 2 := hi; rcases (by omega : i = 0 ∨ i = 1) with rfl | rfl <;> rfl) | (intro i hi; have : i < 1 := hi; obtain rfl : i = 0 := (by omega); rfl))
  rintro v h' ⟨rfl, rfl⟩ hcaps
  rw [show sameA (some ackA) (some ackA) = true from by decide]
  refine rH19G1 ?_
  repeat' (first | (fail_if_success (with_reducible refine xstp ?_)); first | ((with_reducible refine And.intro (fun (hb : _ = true) => ?_) (fun (hb : _ = false) => ?_)) <;> replace hb := xnC hb <;> (try first | exact xfC | exact bff hb (by assumption) | exact bff (by assumption) hb)) | ((fail_if_success (with_reducible first | refine xgon ?_ | intro _)); (conv => whnf); (fail_if_success (fail_if_success (with_reducible first | refine xstp ?_ | refine xgon ?_ | intro _)))))
  refine cH19G2 (σ := [.whole 0, .whole 1, .name 2, .name 29, .whole 30]) (nl := []) (cwait 9 relQ A5.l A5.ls.length c5 d5) ?_
  rintro v h' ⟨rfl, rfl⟩ hcaps
  rw [a10]
  refine rH19G1 ?_
  repeat' (first | (fail_if_success (with_reducible refine xstp ?_)); first | ((with_reducible refine And.intro (fun (hb : _ = true) => ?_) (fun (hb : _ = false) => ?_)) <;> replace hb := xnC hb <;> (try first | exact xfC | exact bff hb (by assumption) | exact bff (by assumption) hb)) | ((fail_if_success (with_reducible first | refine xgon ?_ | intro _)); (conv => whnf); (fail_if_success (fail_if_success (with_reducible first | refine xstp ?_ | refine xgon ?_ | intro _)))))
  refine cH19G2 (σ := [.whole 0, .whole 1, .name 2, .name 29, .whole 30]) (nl := []) (ctake 9 relQ A5.l A5.ls.length c5 d5 9 2 (by have := A5_I.l; omega)) ?_ (hle := by (repeat' first | refine And.intro ?_ ?_ | exact xeC | fail) <;> (rw [a10]))
  rintro v h' ⟨cr, co, rfl, rfl⟩ hcaps
  rw [a11, a13]
  refine rH19G1 ?_
  repeat' (first | (fail_if_success (with_reducible refine xstp ?_)); first | ((with_reducible refine And.intro (fun (hb : _ = true) => ?_) (fun (hb : _ = false) => ?_)) <;> replace hb := xnC hb <;> (try first | exact xfC | exact bff hb (by assumption) | exact bff (by assumption) hb)) | ((fail_if_success (with_reducible first | refine xgon ?_ | intro _)); (conv => whnf); (fail_if_success (fail_if_success (with_reducible first | refine xstp ?_ | refine xgon ?_ | intro _)))))
  refine cH19G2 (σ := [.whole 0, .name 1, .name 2, .whole 29]) (nl := []) (closses 9 relQ A5.ls d5 (by rw [a9]; decide)) ?_
  rintro v h' ⟨cq, rfl, rfl⟩ hcaps
  refine rH19G1 ?_
  repeat' (first | (fail_if_success (with_reducible refine xstp ?_)); first | ((fail_if_success (with_reducible first | refine xgon ?_ | intro _)); (conv => whnf); (fail_if_success (fail_if_success (with_reducible first | refine xstp ?_ | refine xgon ?_ | intro _)))))
  refine cH19G2 (σ := [.whole 39]) (nl := []) (cplain true A5.ls cq (by rw [a9]; decide)) ?_
  rintro v h' ⟨cp, rfl, rfl⟩ hcaps
  refine rH19G1 ?_
  repeat' (first | (fail_if_success (with_reducible refine xstp ?_)); first | ((fail_if_success (with_reducible first | refine xgon ?_ | intro _)); (conv => whnf); (fail_if_success (fail_if_success (with_reducible first | refine xstp ?_ | refine xgon ?_ | intro _)))))
  refine cH19G2 (σ := [.whole 40, .whole 41]) (nl := []) (csameL cp 1 true true A5.ls [(1, 4)] (by rw [a9]; decide)) ?_ (hle := by (repeat' first | refine And.intro ?_ ?_ | exact xeC | fail) <;> (intro i hi; have : i < 1 := hi; obtain rfl : i = 0 := (by omega); rfl))
  rintro v h' ⟨rfl, rfl⟩ hcaps
  rw [show decide (A5.ls = [(1, 4)]) = true from decide_eq_true a9]
  refine rH19G1 ?_
  repeat' (first | (fail_if_success (with_reducible refine xstp ?_)); first | ((with_reducible refine And.intro (fun (hb : _ = true) => ?_) (fun (hb : _ = false) => ?_)) <;> replace hb := xnC hb <;> (try first | exact xfC | exact bff hb (by assumption) | exact bff (by assumption) hb)) | ((fail_if_success (with_reducible first | refine xgon ?_ | intro _)); (conv => whnf); (fail_if_success (fail_if_success (with_reducible first | refine xstp ?_ | refine xgon ?_ | intro _)))))
  refine cH19G2 (σ := [.whole 0, .name 1, .whole 2, .name 38, .whole 5, .name 6]) (nl := []) (cexp 9 relQ A6 1 0 0 A6_ok) ?_ (hle := by (repeat' first | refine And.intro ?_ ?_ | exact xeC | fail) <;> (first | exact fun _ => trivial | exact fun x => mtO_le rfl | exact fun x => winO_le | exact fun x => mtO_bel rfl | exact fun x => winO_bel | exact fun x => mtR_bel rfl rfl | exact fun x => winR_bel))
  rintro v h' ⟨rfl, rfl⟩ hcaps
  rw [a14]
  refine rH19G1 ?_
  repeat' (first | (fail_if_success (with_reducible refine xstp ?_)); first | ((with_reducible refine And.intro (fun (hb : _ = true) => ?_) (fun (hb : _ = false) => ?_)) <;> replace hb := xnC hb <;> (try first | exact xfC | exact bff hb (by assumption) | exact bff (by assumption) hb)) | ((fail_if_success (with_reducible first | refine xgon ?_ | intro _)); (conv => whnf); (fail_if_success (fail_if_success (with_reducible first | refine xstp ?_ | refine xgon ?_ | intro _)))))
  refine cH19G2 (σ := [.whole 0, .whole 1, .name 2, .name 38, .whole 36]) (nl := []) (cwait 9 relQ A6.l 0 cr 0) ?_ (hle := by (repeat' first | refine And.intro ?_ ?_ | exact xeC | fail) <;> (exact a11))
  rintro v h' ⟨rfl, rfl⟩ hcaps
  rw [show A6.l.length = 1 from a11]
  refine rH19G1 ?_
  repeat' (first | (fail_if_success (with_reducible refine xstp ?_)); first | ((fail_if_success (with_reducible first | refine xgon ?_ | intro _)); (conv => whnf); (fail_if_success (fail_if_success (with_reducible first | refine xstp ?_ | refine xgon ?_ | intro _)))))
  all_goals (
    refine FinK.mk ⟨[], _, _, ⟨rfl, rfl⟩, ?_⟩; (repeat' first | refine And.intro ?_ ?_ | exact xeC | fail))
end Go.Proofs.Ytgcofipbdidhmaa


namespace Go.Proofs.Ytgcofipbdidhmaa
open Go.X
set_option linter.unusedVariables false

/-! ### A reliable reader that receives samples of known contents, in any order -/
end Go.Proofs.Ytgcofipbdidhmaa


namespace Go.Proofs.Ytgcofipbdidhmaa
open Go.X
set_option linter.unusedVariables false

/-! ### What is missing -/
/-! ### The heartbeat of ReaderAsks -/
end Go.Proofs.Ytgcofipbdidhmaa


namespace Go.Proofs.Ytgcofipbdidhmaa
open Go.X
set_option linter.unusedSimpArgs false
set_option linter.unusedVariables false

/-! ### Calls; a reader that does not exist -/
deriving instance Inhabited for Qos
structure Cl where
  (k n m : Int) (q : Qos) (p : Pkt) (nm cm : Nat)
deriving Inhabited
def encCl (m : C) (x : Cl) : List C := [.i .i64 x.k, .i .i64 x.n, .i .i64 x.m, .b x.q.rel, .b x.q.dur, .b x.q.keep, .i .i64 x.q.depth, .i .i64 x.q.dead, .i .i64 x.q.life, .i .i64 x.q.lease,
  .i .i64 x.p.k, .i .i64 x.p.fr, .i .i64 x.p.to, .i .i64 x.p.w, .i .i64 x.p.r, .i .i64 x.p.q, .i .i64 x.p.f, .i .i64 x.p.la, .i .i64 x.p.at', m, .s x.p.p]
abbrev clsR (f : Nat) (l : List Cl) (c : Nat) : Ck := .row false true 34 21 l.length c fun i => encCl (.sl f i 1 0 (l.getD i default).nm (l.getD i default).cm) (l.getD i default)
abbrev noneM : Fam := .many fun _ => .no

end Go.Proofs.Ytgcofipbdidhmaa


namespace Go.Proofs.Ytgcofipbdidhmaa
open Go.X
set_option linter.unusedSimpArgs false
set_option linter.unusedVariables false

end Go.Proofs.Ytgcofipbdidhmaa


namespace Go.Proofs.Ytgcofipbdidhmaa
open Go.X
set_option linter.unusedVariables false

/-! ### A reliable reader: what is delivered and what is lost are all numbers, in order -/
end Go.Proofs.Ytgcofipbdidhmaa


namespace Go.Proofs.Ytgcofipbdidhmaa
open Go.X
set_option linter.unusedSimpArgs false
set_option linter.unusedVariables false

def fewB (l : List Cl) (most : Int) : Bool := l.all (fun x => decide (x.p.p.size ≤ 2100)) && decide ((l.length : Int) ≤ most)

set_option maxRecDepth 10000 in
set_option maxHeartbeats 4000000 in
theorem cfew (l : List Cl) (c : Nat) (most : Int) (hl : l.length ≤ 9223372036854775807) : Ctr Try.prog 12 [.c (.sl 0 0 21 0 l.length c), .c (.i .i64 most)] [.one (clsR 1 l c), noneM]
      fun v h => v = .c (.b (fewB l most)) ∧ h = [.one (clsR 1 l c), noneM] := by
  refine Ctr.mk' tbv mixed Try.func12 rfl rfl rfl (fun _ _ => by kernel_rfl) (by kernel_rfl) (by rfl) (by rfl) (by (repeat' (first | (refine And.intro ?_ ?_) | exact trivial | rfl | exact Nat.le_refl _ | exact (fun _ _ => rfl) | exact all_one (by rfl) | (simp only [Int.toNat_natCast, Nat.zero_add, Nat.add_zero]; done))) <;> exact fun _ => trivial) ?_
  repeat' (first
    | ((fail_if_success (with_reducible first | apply kL | apply kC | apply kF | apply kM | refine Exists.intro ?_ ?_)); first
      | ((with_reducible refine And.intro (fun (hb : _ = true) => ?_) (fun (hb : _ = false) => ?_)) <;> (try simp only [n1, n2, n3, n4, n5, n6, n7, n8, n9, n10, n11, n12, n13, n14, n15, n16, reduceCtorEq, n17, n18, n19, n20, n21, n22] at hb) <;> (try (first | (exfalso; omega) | exact bff hb (by assumption) | exact bff (by assumption) hb)))
      | (with_reducible refine Both.mk ?_ ?_)
      | ((with_reducible refine And.intro ?_ ?_); (focus (first | rfl | omega | exact fun _ _ => rfl | assumption | (split <;> omega) | (and_intros <;> first | rfl | omega | (split <;> omega)) | (dsimp only [maxLen]; and_intros <;> omega) | (simp only [n21, n22, m9]; done) | (simp only [n21, n22, m9]; first | omega | (and_intros <;> omega)))))
      | ((with_reducible refine Or.inl ⟨?_, ?_, ?_⟩); (focus rfl); (focus (and_intros <;> first | rfl | omega)))
      | ((with_reducible refine Or.inr (Or.inl ⟨?_, ?_⟩)); focus (and_intros <;> first | rfl | omega))
      | ((with_reducible refine Or.inr (Or.inr (Or.inl ⟨?_, ?_⟩))); focus (and_intros <;> first | rfl | omega))
      | ((with_reducible refine Or.inr (Or.inr (Or.inr (Or.inl ⟨?_, ?_⟩)))); focus (and_intros <;> first | rfl | omega))
      | ((with_reducible refine Or.inr (Or.inr (Or.inr (Or.inr ⟨?_, ?_⟩)))); focus (and_intros <;> first | rfl | omega))
      | (with_reducible intro hc; (try simp only [capsP, and_true] at hc); (try (exfalso; omega)))
      | ((fail_if_success (with_reducible first | refine And.intro ?_ ?_ | refine Or.inl ?_ | intro _)); (conv => whnf); (fail_if_success (fail_if_success (with_reducible first | apply kL | apply kC | apply kF | apply kM | refine Exists.intro ?_ ?_ | refine Both.mk ?_ ?_ | refine And.intro ?_ ?_ | refine Or.inl ?_ | intro _))))))
  refine LoopK.mk' {k : Nat // k ≤ l.length ∧ ∀ j, j < k → (l.getD j default).p.p.size ≤ 2100}
    (fun ⟨k, _⟩ => ⟨[(0, .c (.sl 0 0 21 0 l.length c)), (1, .c (.i .i64 most)), (4, .c .ff), (5, .c (.i .i64 k))], [.one (clsR 1 l c), noneM]⟩) (fun k => l.length - k.1)
    ⟨⟨0, Nat.zero_le _, fun j hj => by omega⟩, [0, 1], ?_⟩ ?_
  · (repeat' (first | (refine And.intro ?_ ?_) | exact trivial | rfl | exact Nat.le_refl _ | exact (fun _ _ => rfl) | exact all_one (by rfl) | (simp only [Int.toNat_natCast, Nat.zero_add, Nat.add_zero]; done)))
    all_goals (first | exact fun _ => trivial | exact fun x => mtO_le rfl | exact fun x => winO_le | exact fun x => mtO_bel rfl | exact fun x => winO_bel | exact fun x => mtR_bel rfl rfl | exact fun x => winR_bel)
  rintro ⟨k, hk, hno⟩
  repeat' (first
    | ((fail_if_success (with_reducible first | apply kL | apply kC | apply kF | apply kM | refine Exists.intro ?_ ?_)); first
      | ((with_reducible refine And.intro (fun (hb : _ = true) => ?_) (fun (hb : _ = false) => ?_)) <;> (try simp only [n1, n2, n3, n4, n5, n6, n7, n8, n9, n10, n11, n12, n13, n14, n15, n16, reduceCtorEq, n17, n18, n19, n20, n21, n22] at hb) <;> (try (first | (exfalso; omega) | exact bff hb (by assumption) | exact bff (by assumption) hb)))
      | (with_reducible refine Both.mk ?_ ?_)
      | ((with_reducible refine And.intro ?_ ?_); (focus (first | rfl | omega | exact fun _ _ => rfl | assumption | (split <;> omega) | (and_intros <;> first | rfl | omega | (split <;> omega)) | (dsimp only [maxLen]; and_intros <;> omega) | (simp only [n21, n22, m9]; done) | (simp only [n21, n22, m9]; first | omega | (and_intros <;> omega)))))
      | ((with_reducible refine Or.inl ⟨?_, ?_, ?_⟩); (focus rfl); (focus (and_intros <;> first | rfl | omega)))
      | ((with_reducible refine Or.inr (Or.inl ⟨?_, ?_⟩)); focus (and_intros <;> first | rfl | omega))
      | ((with_reducible refine Or.inr (Or.inr (Or.inl ⟨?_, ?_⟩))); focus (and_intros <;> first | rfl | omega))
      | ((with_reducible refine Or.inr (Or.inr (Or.inr (Or.inl ⟨?_, ?_⟩)))); focus (and_intros <;> first | rfl | omega))
      | ((with_reducible refine Or.inr (Or.inr (Or.inr (Or.inr ⟨?_, ?_⟩)))); focus (and_intros <;> first | rfl | omega))
      | (with_reducible intro hc; (try simp only [capsP, and_true] at hc); (try (exfalso; omega)))
      | ((fail_if_success (with_reducible first | refine And.intro ?_ ?_ | refine Or.inl ?_ | intro _)); (conv => whnf); (fail_if_success (fail_if_success (with_reducible first | apply kL | apply kC | apply kF | apply kM | refine Exists.intro ?_ ?_ | refine Both.mk ?_ ?_ | refine And.intro ?_ ?_ | refine Or.inl ?_ | intro _))))))
  · have e : fewB l most = false := by
      unfold fewB
      rw [show (l.all fun x => decide (x.p.p.size ≤ 2100)) = false from List.all_eq_false.2 ⟨l.getD k default, by rw [getD_at (by omega)]; exact List.getElem_mem _, by simpa using Int.ofNat_lt.1 hb⟩]
      rfl
    rw [e]
    refine FinK.mk ⟨[0, 1], _, _, ⟨rfl, rfl⟩, ?_⟩; (repeat' (first | (refine And.intro ?_ ?_) | exact trivial | rfl | exact Nat.le_refl _ | exact (fun _ _ => rfl) | exact all_one (by rfl) | (simp only [Int.toNat_natCast, Nat.zero_add, Nat.add_zero]; done)))
    all_goals (first | exact fun _ => trivial | exact fun x => mtO_le rfl | exact fun x => winO_le | exact fun x => mtO_bel rfl | exact fun x => winO_bel | exact fun x => mtR_bel rfl rfl | exact fun x => winR_bel)
  · refine ⟨⟨k + 1, by omega, fun j hj => ?_⟩, [0, 1], by simp only; omega, ?_⟩
    · rcases Nat.lt_or_eq_of_le (Nat.le_of_lt_succ hj) with h | h
      · exact hno j h
      · subst h; omega
    · (repeat' (first | (refine And.intro ?_ ?_) | exact trivial | rfl | exact Nat.le_refl _ | exact (fun _ _ => rfl) | exact all_one (by rfl) | (simp only [Int.toNat_natCast, Nat.zero_add, Nat.add_zero]; done)))
      all_goals (first | exact fun _ => trivial | exact fun x => mtO_le rfl | exact fun x => winO_le | exact fun x => mtO_bel rfl | exact fun x => winO_bel | exact fun x => mtR_bel rfl rfl | exact fun x => winR_bel)
  · have e : fewB l most = decide ((l.length : Int) ≤ most) := by
      unfold fewB
      rw [show (l.all fun x => decide (x.p.p.size ≤ 2100)) = true from List.all_eq_true.2 fun x hx => by
        obtain ⟨i, hi, rfl⟩ := List.mem_iff_getElem.1 hx
        have := hno i (by omega)
        rw [getD_at hi] at this
        simpa using this]
      rfl
    rw [e]
    refine FinK.mk ⟨[0, 1], _, _, ⟨rfl, rfl⟩, ?_⟩; (repeat' (first | (refine And.intro ?_ ?_) | exact trivial | rfl | exact Nat.le_refl _ | exact (fun _ _ => rfl) | exact all_one (by rfl) | (simp only [Int.toNat_natCast, Nat.zero_add, Nat.add_zero]; done)))
    all_goals (first | exact fun _ => trivial | exact fun x => mtO_le rfl | exact fun x => winO_le | exact fun x => mtO_bel rfl | exact fun x => winO_bel | exact fun x => mtR_bel rfl rfl | exact fun x => winR_bel)

end Go.Proofs.Ytgcofipbdidhmaa


namespace Go.Proofs.Ytgcofipbdidhmaa
open Go.X
set_option linter.unusedVariables false

/-! ### What a writer's packets bring is the writer's -/
/-! ### A reader of two writers -/
end Go.Proofs.Ytgcofipbdidhmaa


namespace Go.Proofs.Ytgcofipbdidhmaa
open Go.X
set_option linter.unusedSimpArgs false
set_option linter.unusedVariables false


deriving instance DecidableEq for Smp

set_option maxRecDepth 10000 in
theorem csameS (ca cb : Nat) (wa wb : Bool) (l m : List Smp) (hl : l.length ≤ 1000000) :
    Ctr Try.prog 22 [.c (.sl 0 0 4 0 l.length ca), .c (.sl 1 0 4 0 m.length cb)] [.one (smps wa l ca), .one (smps wb m cb)]
      fun v h => v = .c (.b (decide (l = m))) ∧ h = [.one (smps wa l ca), .one (smps wb m cb)] := by
  refine Ctr.mk' tbv mixed Try.func22 rfl rfl rfl (fun _ _ => by kernel_rfl) (by kernel_rfl) (by rfl) (by rfl) (by (repeat' (first | (refine And.intro ?_ ?_) | exact trivial | rfl | exact Nat.le_refl _ | exact (fun _ _ => rfl) | exact all_one (by rfl) | (simp only [Int.toNat_natCast, Nat.zero_add, Nat.add_zero]; done)))) ?_
  repeat' (first
    | ((fail_if_success (with_reducible first | apply kL | apply kC | apply kF | apply kM | refine Exists.intro ?_ ?_)); first
      | ((with_reducible refine And.intro (fun (hb : _ = true) => ?_) (fun (hb : _ = false) => ?_)) <;> (try simp only [n1, n2, n3, n4, n5, n6, n7, n8, n9, n10, n11, n12, n13, n14, n15, n16, reduceCtorEq, n17, n18, n19, n20, n21, n22] at hb) <;> (try (first | (exfalso; omega) | exact bff hb (by assumption) | exact bff (by assumption) hb)))
      | (with_reducible refine Both.mk ?_ ?_)
      | ((with_reducible refine And.intro ?_ ?_); (focus (first | rfl | omega | exact fun _ _ => rfl | assumption | (split <;> omega) | (and_intros <;> first | rfl | omega | (split <;> omega)) | (dsimp only [maxLen]; and_intros <;> omega) | (simp only [n21, n22, m9]; done) | (simp only [n21, n22, m9]; first | omega | (and_intros <;> omega)))))
      | ((with_reducible refine Or.inl ⟨?_, ?_, ?_⟩); (focus rfl); (focus (and_intros <;> first | rfl | omega)))
      | ((with_reducible refine Or.inr (Or.inl ⟨?_, ?_⟩)); focus (and_intros <;> first | rfl | omega))
      | ((with_reducible refine Or.inr (Or.inr (Or.inl ⟨?_, ?_⟩))); focus (and_intros <;> first | rfl | omega))
      | ((with_reducible refine Or.inr (Or.inr (Or.inr (Or.inl ⟨?_, ?_⟩)))); focus (and_intros <;> first | rfl | omega))
      | ((with_reducible refine Or.inr (Or.inr (Or.inr (Or.inr ⟨?_, ?_⟩)))); focus (and_intros <;> first | rfl | omega))
      | (with_reducible intro hc; (try simp only [capsP, and_true] at hc); (try (exfalso; omega)))
      | ((fail_if_success (with_reducible first | refine And.intro ?_ ?_ | refine Or.inl ?_ | intro _)); (conv => whnf); (fail_if_success (fail_if_success (with_reducible first | apply kL | apply kC | apply kF | apply kM | refine Exists.intro ?_ ?_ | refine Both.mk ?_ ?_ | refine And.intro ?_ ?_ | refine Or.inl ?_ | intro _))))))
  · refine FinK.mk ⟨[0, 1], _, _, ⟨rfl, rfl⟩, ?_⟩; (repeat' (first | (refine And.intro ?_ ?_) | exact trivial | rfl | exact Nat.le_refl _ | exact (fun _ _ => rfl) | exact all_one (by rfl) | (simp only [Int.toNat_natCast, Nat.zero_add, Nat.add_zero]; done)))
    exact decide_eq_false (fun e => ‹¬ _› (by rw [e]))
  refine LoopK.mk' {k : Nat // k ≤ l.length ∧ ∀ j, j < k → l.getD j default = m.getD j default}
    (fun ⟨k, _⟩ => ⟨[(0, .c (.sl 0 0 4 0 l.length ca)), (1, .c (.sl 1 0 4 0 m.length cb)), (5, .c (.i .i64 k))], [.one (smps wa l ca), .one (smps wb m cb)]⟩) (fun k => l.length - k.1)
    ⟨⟨0, Nat.zero_le _, fun j hj => by omega⟩, [0, 1], ?_⟩ ?_
  · (repeat' (first | (refine And.intro ?_ ?_) | exact trivial | rfl | exact Nat.le_refl _ | exact (fun _ _ => rfl) | exact all_one (by rfl) | (simp only [Int.toNat_natCast, Nat.zero_add, Nat.add_zero]; done)))
  rintro ⟨k, hk, hno⟩
  repeat' (first
    | ((fail_if_success (with_reducible first | apply kL | apply kC | apply kF | apply kM | refine Exists.intro ?_ ?_)); first
      | ((with_reducible refine And.intro (fun (hb : _ = true) => ?_) (fun (hb : _ = false) => ?_)) <;> (try simp only [n1, n2, n3, n4, n5, n6, n7, n8, n9, n10, n11, n12, n13, n14, n15, n16, reduceCtorEq, n17, n18, n19, n20, n21, n22] at hb) <;> (try (first | (exfalso; omega) | exact bff hb (by assumption) | exact bff (by assumption) hb)))
      | (with_reducible refine Both.mk ?_ ?_)
      | ((with_reducible refine And.intro ?_ ?_); (focus (first | rfl | omega | exact fun _ _ => rfl | assumption | (split <;> omega) | (and_intros <;> first | rfl | omega | (split <;> omega)) | (dsimp only [maxLen]; and_intros <;> omega) | (simp only [n21, n22, m9]; done) | (simp only [n21, n22, m9]; first | omega | (and_intros <;> omega)))))
      | ((with_reducible refine Or.inl ⟨?_, ?_, ?_⟩); (focus rfl); (focus (and_intros <;> first | rfl | omega)))
      | ((with_reducible refine Or.inr (Or.inl ⟨?_, ?_⟩)); focus (and_intros <;> first | rfl | omega))
      | ((with_reducible refine Or.inr (Or.inr (Or.inl ⟨?_, ?_⟩))); focus (and_intros <;> first | rfl | omega))
      | ((with_reducible refine Or.inr (Or.inr (Or.inr (Or.inl ⟨?_, ?_⟩)))); focus (and_intros <;> first | rfl | omega))
      | ((with_reducible refine Or.inr (Or.inr (Or.inr (Or.inr ⟨?_, ?_⟩)))); focus (and_intros <;> first | rfl | omega))
      | (with_reducible intro hc; (try simp only [capsP, and_true] at hc); (try (exfalso; omega)))
      | ((fail_if_success (with_reducible first | refine And.intro ?_ ?_ | refine Or.inl ?_ | intro _)); (conv => whnf); (fail_if_success (fail_if_success (with_reducible first | apply kL | apply kC | apply kF | apply kM | refine Exists.intro ?_ ?_ | refine Both.mk ?_ ?_ | refine And.intro ?_ ?_ | refine Or.inl ?_ | intro _))))))
  · refine FinK.mk ⟨[0, 1], _, _, ⟨rfl, rfl⟩, ?_⟩; (repeat' (first | (refine And.intro ?_ ?_) | exact trivial | rfl | exact Nat.le_refl _ | exact (fun _ _ => rfl) | exact all_one (by rfl) | (simp only [Int.toNat_natCast, Nat.zero_add, Nat.add_zero]; done)))
    refine decide_eq_false (p := l = m) fun e => ?_
    subst e
    simp at hb
  · refine ⟨⟨k + 1, by omega, fun j hj => ?_⟩, [0, 1], by simp only; omega, ?_⟩
    · rcases Nat.lt_or_eq_of_le (Nat.le_of_lt_succ hj) with h | h
      · exact hno j h
      · subst h
        generalize l.getD j default = a at hb ⊢
        generalize m.getD j default = b at hb ⊢
        cases a; cases b
        simp only [Smp.mk.injEq]
        exact hb
    · (repeat' (first | (refine And.intro ?_ ?_) | exact trivial | rfl | exact Nat.le_refl _ | exact (fun _ _ => rfl) | exact all_one (by rfl) | (simp only [Int.toNat_natCast, Nat.zero_add, Nat.add_zero]; done)))
  · refine FinK.mk ⟨[0, 1], _, _, ⟨rfl, rfl⟩, ?_⟩; (repeat' (first | (refine And.intro ?_ ?_) | exact trivial | rfl | exact Nat.le_refl _ | exact (fun _ _ => rfl) | exact all_one (by rfl) | (simp only [Int.toNat_natCast, Nat.zero_add, Nat.add_zero]; done)))
    exact decide_eq_true (getD_ext (by omega) fun j hj => hno j (by omega))

end Go.Proofs.Ytgcofipbdidhmaa


namespace Go.Proofs.Ytgcofipbdidhmaa
open Go.X
set_option linter.unusedSimpArgs false
set_option linter.unusedVariables false
abbrev rrd (fh fm fl : Nat) (id : Int) (q : Qos) (nM cM n c : Nat) : Ck := .cells true [.i .i64 id, .b q.rel, .b q.dur, .b q.keep, .i .i64 q.depth, .i .i64 q.dead, .i .i64 q.life, .i .i64 q.lease, .p fh 0 0, .sl fm 0 5 0 nM cM, .sl fl 0 2 0 n c]
abbrev lsr (w : Bool) (l : List (Int × Int)) (c : Nat) : Ck := .row w false 64 2 l.length c (rowOf encL l)
def encSl (e : Nat × Int × Slt) : List C := .i .i64 e.2.1 :: .i .i64 e.2.2.st :: encS e.2.2.x
abbrev slR (W : Win) (c : Nat) : Ck := .row true false 130 6 W.length c (rowOf encSl W)
/-- The cells of a match. -/
def mtc5 (F : Nat) (w : Int) (m : Mx) (c : Nat) : List C := [.i .i64 w, .i .i64 m.nd, .b m.rel, .i .i64 m.ex, .sl F w.toNat 6 0 m.W.length c]
def encMt (F : Nat) (R : Rd) (cf : Nat → Nat) (i : Nat) : List C := match R.D (R.M.getD i default).2.toNat with
  | none => [.i .i64 0, .i .i64 0, .ff, .i .i64 0, .nils]
  | some m => mtc5 F (R.M.getD i default).2 m (cf (R.M.getD i default).2.toNat)
abbrev mtR (F : Nat) (R : Rd) (cM : Nat) (cf : Nat → Nat) : Ck := .row true true 107 5 R.M.length cM (encMt F R cf)
def slG (R : Rd) (cf : Nat → Nat) (x : Nat) : Ck := match R.D x with | none => .no | some m => slR m.W (cf x)
theorem slG_rk (σ : List Sg) (N : Nat) (R : Rd) (cf : Nat → Nat) (x : Nat) : (slG R cf x).rk σ N = slG R cf x := by
  unfold slG
  split <;> rfl
theorem slG_le {σ : List Sg} {N N' : Nat} {R : Rd} {cf : Nat → Nat} {x : Nat} : (slG R cf x).leK N ((slG R cf x).rk σ N') True := by
  rw [slG_rk]
  unfold slG
  split
  · trivial
  · exact ⟨rfl, rfl, rfl, rfl, Nat.le_refl _, rfl, fun _ _ => rfl, trivial⟩
theorem slG_bel {n : Nat} {R : Rd} {cf : Nat → Nat} {x : Nat} : (slG R cf x).belK n True := by
  unfold slG
  split <;> trivial
theorem slG_belR {σ : List Sg} {n N : Nat} {R : Rd} {cf : Nat → Nat} {x : Nat} : ((slG R cf x).rk σ N).belK n True := by rw [slG_rk]; exact slG_bel
theorem mt_rk (σ : List Sg) (N F : Nat) (R : Rd) (cf : Nat → Nat) (i : Nat) : List.map (C.rk σ N) (encMt F R cf i) = match R.D (R.M.getD i default).2.toNat with
    | none => [.i .i64 0, .i .i64 0, .ff, .i .i64 0, .nils]
    | some m => [.i .i64 (R.M.getD i default).2, .i .i64 m.nd, .b m.rel, .i .i64 m.ex, .sl (key σ N F (R.M.getD i default).2.toNat).1 (key σ N F (R.M.getD i default).2.toNat).2 6 0 m.W.length (cf (R.M.getD i default).2.toNat)] := by
  unfold encMt
  split <;> rfl
theorem mt_key {σ : List Sg} {N F G : Nat} (h : ∀ x, key σ N F x = (G, x)) (R : Rd) (cf : Nat → Nat) (i : Nat) : List.map (C.rk σ N) (encMt F R cf i) = encMt G R cf i := by
  rw [mt_rk]
  unfold encMt
  simp only [h]
  rfl
theorem mt_bel {n F : Nat} (h : Nat.blt F n = true) (R : Rd) (cf : Nat → Nat) (i : Nat) : (encMt F R cf i).all (C.belB n) = true := by
  unfold encMt
  split
  · rfl
  · simp [mtc5, C.belB, h]
theorem xmR {p : Prop} (h : p := by first | exact fun _ => trivial | exact fun x => slG_le | exact fun x => slG_bel | exact fun x => slG_belR | exact fun i hi => (mt_key (fun x => rfl) _ _ _).symm | exact fun i hi => mt_key (fun x => rfl) _ _ _ | exact fun i hi => mt_bel rfl _ _ _ | (intro i hi; dsimp only; rw [mt_key (fun x => rfl)]; exact mt_bel rfl _ _ _) | fail) : p := h
/-- Where a writer is. -/
def fndM (R : Rd) (w : Int) : Option Nat := R.M.findIdx? fun e => decide (e.2 = w)
def idxM (o : Option Nat) : Int := match o with | none => -1 | some k => (k : Nat)
theorem fndM_at {R : Rd} {w : Int} {i : Nat} (hi : i < R.M.length) (h : (R.M.getD i default).2 = w) (hno : ∀ j, j < i → (R.M.getD j default).2 ≠ w) : fndM R w = some i := by
  unfold fndM
  rw [List.findIdx?_eq_some_iff_getElem]
  refine ⟨hi, ?_, fun j hj => ?_⟩
  · rw [getD_at hi] at h; exact decide_eq_true h
  · have := hno j hj
    rw [getD_at (by omega)] at this
    simpa using this
theorem fndM_no {R : Rd} {w : Int} (hno : ∀ j, j < R.M.length → (R.M.getD j default).2 ≠ w) : fndM R w = none := by
  unfold fndM
  rw [List.findIdx?_eq_none_iff]
  intro t ht
  obtain ⟨j, hj, rfl⟩ := List.mem_iff_getElem.1 ht
  have := hno j hj
  rw [getD_at hj] at this
  exact decide_eq_false this
theorem mt_at {F : Nat} {R : Rd} {cf : Nat → Nat} {i : Nat} {m : Mx} (h : R.D (R.M.getD i default).2.toNat = some m) : encMt F R cf i = mtc5 F (R.M.getD i default).2 m (cf (R.M.getD i default).2.toNat) := by
  unfold encMt
  rw [h]
set_option maxRecDepth 10000 in
theorem rrfind (id : Int) (q : Qos) (R : Rd) (cM n c : Nat) (cf : Nat → Nat) (w : Int) (hR : RdOk R) (hl : R.M.length ≤ 1000000) :
    Ctr Try.prog 50 [.c (.p 0 0 0), .c (.i .i64 w)] [.one (rrd 1 2 3 id q R.M.length cM n c), .one .no, .one (mtR 4 R cM cf), .one .no, .one .no]
      fun v h => v = .c (.i .i64 (idxM (fndM R w))) ∧ h = [.one (rrd 1 2 3 id q R.M.length cM n c), .one .no, .one (mtR 4 R cM cf), .one .no, .one .no] := by
  refine Ctr.mk' tbv mixed Try.func50 rfl rfl rfl (fun _ _ => by kernel_rfl) (by kernel_rfl) (by rfl) (by rfl) (by (repeat' first | refine And.intro ?_ ?_ | exact xeC | fail) <;> exact xmR) ?_
  repeat' (first | (fail_if_success (with_reducible refine xstp ?_)); first | (with_reducible intro hc; (try simp only [capsP, and_true] at hc); (try exact xfC)) | ((fail_if_success (with_reducible first | refine xgon ?_ | intro _)); (conv => whnf); (fail_if_success (fail_if_success (with_reducible first | refine xstp ?_ | refine xgon ?_ | intro _)))))
  refine LoopK.mk' {i : Nat // i ≤ R.M.length ∧ ∀ j, j < i → (R.M.getD j default).2 ≠ w}
    (fun ⟨i, _⟩ => ⟨[(0, .c (.p 0 0 0)), (1, .c (.i .i64 w)), (5, .c (.i .i64 (i : Nat)))], [.one (rrd 1 2 3 id q R.M.length cM n c), .one .no, .one (mtR 4 R cM cf), .one .no, .one .no]⟩) (fun k => R.M.length - k.1)
    ⟨⟨0, Nat.zero_le _, fun j h => absurd h (Nat.not_lt_zero j)⟩, [0, 1, 2, 3, 4], ?_⟩ ?_
  · (repeat' first | refine And.intro ?_ ?_ | exact xeC | fail)
    all_goals exact xmR
  rintro ⟨i, hi, hno⟩
  have e3 : 0 + ((i : Nat) : Int).toNat = i := by omega
  rcases Nat.lt_or_ge i R.M.length with hlt | hge
  · obtain ⟨h1, m, hm⟩ := hR.a i hlt
    have he : encMt 4 R cf i = _ := mt_at hm
    unfold mtc5 at he
    repeat' (first | (fail_if_success (with_reducible refine xstp ?_)); first | ((with_reducible refine And.intro (fun (hb : _ = true) => ?_) (fun (hb : _ = false) => ?_)) <;> replace hb := xnC hb <;> (try first | exact xfC | exact bff hb (by assumption) | exact bff (by assumption) hb)) | ((with_reducible refine And.intro ?_ ?_); focus exact xoC) | (with_reducible intro hc; (try simp only [capsP, and_true] at hc); (try exact xfC)) | ((fail_if_success (with_reducible first | refine xgon ?_ | intro _)); (conv => whnf); (fail_if_success (fail_if_success (with_reducible first | refine xstp ?_ | refine xgon ?_ | intro _)))))
    rw [e3, he]
    repeat' (first | (fail_if_success (with_reducible refine xstp ?_)); first | ((with_reducible refine And.intro (fun (hb : _ = true) => ?_) (fun (hb : _ = false) => ?_)) <;> replace hb := xnC hb <;> (try first | exact xfC | exact bff hb (by assumption) | exact bff (by assumption) hb)) | ((with_reducible refine And.intro ?_ ?_); focus exact xoC) | ((fail_if_success (with_reducible first | refine xgon ?_ | intro _)); (conv => whnf); (fail_if_success (fail_if_success (with_reducible first | refine xstp ?_ | refine xgon ?_ | intro _)))))
    · have hb' : (R.M.getD i default).2 = w := hb
      rw [fndM_at hlt hb' hno]
      refine FinK.mk ⟨[0, 1, 2, 3, 4], _, _, ⟨rfl, rfl⟩, ?_⟩
      (repeat' first | refine And.intro ?_ ?_ | exact xeC | fail)
      all_goals exact xmR
    · refine ⟨⟨i + 1, by omega, fun j hj => ?_⟩, [0, 1, 2, 3, 4], by simp only; omega, ?_⟩
      · rcases (by omega : j < i ∨ j = i) with h | rfl
        · exact hno j h
        · exact hb
      · (repeat' first | refine And.intro ?_ ?_ | exact xeC | fail)
        all_goals exact xmR
  · skip
    repeat' (first | (fail_if_success (with_reducible refine xstp ?_)); first | ((with_reducible refine And.intro (fun (hb : _ = true) => ?_) (fun (hb : _ = false) => ?_)) <;> replace hb := xnC hb <;> (try first | exact xfC | exact bff hb (by assumption) | exact bff (by assumption) hb)) | (with_reducible intro hc; (try simp only [capsP, and_true] at hc); (try exact xfC)) | ((fail_if_success (with_reducible first | refine xgon ?_ | intro _)); (conv => whnf); (fail_if_success (fail_if_success (with_reducible first | refine xstp ?_ | refine xgon ?_ | intro _)))))
    rw [fndM_no fun j hj => hno j (by omega)]
    refine FinK.mk ⟨[0, 1, 2, 3, 4], _, _, ⟨rfl, rfl⟩, ?_⟩
    (repeat' first | refine And.intro ?_ ?_ | exact xeC | fail)
    all_goals exact xmR
end Go.Proofs.Ytgcofipbdidhmaa


namespace Go.Proofs.Ytgcofipbdidhmaa
open Go.X
set_option linter.unusedSimpArgs false
set_option linter.unusedVariables false
def fndW (W : Win) (n : Int) : Option Nat := W.findIdx? fun e => decide (e.2.1 = n)
theorem fndW_at {W : Win} {n : Int} {i : Nat} (hi : i < W.length) (h : (W.getD i default).2.1 = n) (hno : ∀ j, j < i → (W.getD j default).2.1 ≠ n) : fndW W n = some i := by
  unfold fndW
  rw [List.findIdx?_eq_some_iff_getElem]
  refine ⟨hi, ?_, fun j hj => ?_⟩
  · rw [getD_at hi] at h; exact decide_eq_true h
  · have := hno j hj
    rw [getD_at (by omega)] at this
    simpa using this
theorem fndW_no {W : Win} {n : Int} (hno : ∀ j, j < W.length → (W.getD j default).2.1 ≠ n) : fndW W n = none := by
  unfold fndW
  rw [List.findIdx?_eq_none_iff]
  intro t ht
  obtain ⟨j, hj, rfl⟩ := List.mem_iff_getElem.1 ht
  have := hno j hj
  rw [getD_at hj] at this
  exact decide_eq_false this
theorem slG_at {R : Rd} {cf : Nat → Nat} {x : Nat} {m : Mx} (h : R.D x = some m) : slG R cf x = slR m.W (cf x) := by
  unfold slG
  rw [h]
set_option maxRecDepth 10000 in
theorem rrslot (R : Rd) (cM : Nat) (cf : Nat → Nat) (k : Nat) (m : Mx) (n : Int) (hk : k < R.M.length) (hm : R.D (R.M.getD k default).2.toNat = some m) (hl : m.W.length ≤ 1000000) :
    Ctr Try.prog 70 [.c (.pe 0 0 5 k 0), .c (.i .i64 n)] [.one (mtR 1 R cM cf), .many (slG R cf)]
      fun v h => v = .c (.i .i64 (idxM (fndW m.W n))) ∧ h = [.one (mtR 1 R cM cf), .many (slG R cf)] := by
  have he : encMt 1 R cf k = _ := mt_at hm
  unfold mtc5 at he
  have hs := slG_at (cf := cf) hm
  refine Ctr.mk' tbv mixed Try.func70 rfl rfl rfl (fun _ _ => by kernel_rfl) (by kernel_rfl) (by rfl) (by rfl) (by (repeat' first | refine And.intro ?_ ?_ | exact xeC | fail) <;> exact xmR) ?_
  repeat' (first | (fail_if_success (with_reducible refine xstp ?_)); first | (with_reducible intro hc; (try simp only [capsP, and_true] at hc); (try exact xfC)) | ((fail_if_success (with_reducible first | refine xgon ?_ | intro _)); (conv => whnf); (fail_if_success (fail_if_success (with_reducible first | refine xstp ?_ | refine xgon ?_ | intro _)))))
  refine LoopK.mk' {i : Nat // i ≤ m.W.length ∧ ∀ j, j < i → (m.W.getD j default).2.1 ≠ n}
    (fun ⟨i, _⟩ => ⟨[(0, .c (.pe 0 0 5 k 0)), (1, .c (.i .i64 n)), (5, .c (.i .i64 (i : Nat)))], [.one (mtR 1 R cM cf), .many (slG R cf)]⟩) (fun q => m.W.length - q.1)
    ⟨⟨0, Nat.zero_le _, fun j h => absurd h (Nat.not_lt_zero j)⟩, [0, 1], ?_⟩ ?_
  · (repeat' first | refine And.intro ?_ ?_ | exact xeC | fail)
    all_goals exact xmR
  rintro ⟨i, hi, hno⟩
  have e3 : 0 + ((i : Nat) : Int).toNat = i := by omega
  repeat' (first | (fail_if_success (with_reducible refine xstp ?_)); first | ((with_reducible refine And.intro ?_ ?_); focus exact xoC) | (with_reducible intro hc; (try simp only [capsP, and_true] at hc); (try exact xfC)) | ((fail_if_success (with_reducible first | refine xgon ?_ | intro _)); (conv => whnf); (fail_if_success (fail_if_success (with_reducible first | refine xstp ?_ | refine xgon ?_ | intro _)))))
  rw [he]
  repeat' (first | (fail_if_success (with_reducible refine xstp ?_)); first | ((with_reducible refine And.intro (fun (hb : _ = true) => ?_) (fun (hb : _ = false) => ?_)) <;> replace hb := xnC hb <;> (try first | exact xfC | exact bff hb (by assumption) | exact bff (by assumption) hb)) | ((with_reducible refine And.intro ?_ ?_); focus exact xoC) | ((fail_if_success (with_reducible first | refine xgon ?_ | intro _)); (conv => whnf); (fail_if_success (fail_if_success (with_reducible first | refine xstp ?_ | refine xgon ?_ | intro _)))))
  · rw [he]
    repeat' (first | (fail_if_success (with_reducible refine xstp ?_)); first | ((fail_if_success (with_reducible first | refine xgon ?_ | intro _)); (conv => whnf); (fail_if_success (fail_if_success (with_reducible first | refine xstp ?_ | refine xgon ?_ | intro _)))))
    refine ManyK.mk ⟨slR m.W (cf (R.M.getD k default).2.toNat), hs, ?_⟩
    repeat' (first | (fail_if_success (with_reducible refine xstp ?_)); first | ((with_reducible refine And.intro ?_ ?_); focus exact xoC) | ((fail_if_success (with_reducible first | refine xgon ?_ | intro _)); (conv => whnf); (fail_if_success (fail_if_success (with_reducible first | refine xstp ?_ | refine xgon ?_ | intro _)))))
    refine ManyK.mk ⟨slR m.W (cf (R.M.getD k default).2.toNat), hs, ?_⟩
    repeat' (first | (fail_if_success (with_reducible refine xstp ?_)); first | ((with_reducible refine And.intro (fun (hb : _ = true) => ?_) (fun (hb : _ = false) => ?_)) <;> replace hb := xnC hb <;> (try first | exact xfC | exact bff hb (by assumption) | exact bff (by assumption) hb)) | ((with_reducible refine And.intro ?_ ?_); focus exact xoC) | ((fail_if_success (with_reducible first | refine xgon ?_ | intro _)); (conv => whnf); (fail_if_success (fail_if_success (with_reducible first | refine xstp ?_ | refine xgon ?_ | intro _)))))
    · rw [fndW_at (W := m.W) (by omega) hb hno]
      refine FinK.mk ⟨[0, 1], _, _, ⟨rfl, rfl⟩, ?_⟩
      (repeat' first | refine And.intro ?_ ?_ | exact xeC | fail)
      all_goals exact xmR
    · refine ⟨⟨i + 1, by omega, fun j hj => ?_⟩, [0, 1], by simp only; omega, ?_⟩
      · rcases (by omega : j < i ∨ j = i) with h | rfl
        · exact hno j h
        · exact hb
      · (repeat' first | refine And.intro ?_ ?_ | exact xeC | fail)
        all_goals exact xmR
  · rw [fndW_no fun j hj => hno j (by omega)]
    refine FinK.mk ⟨[0, 1], _, _, ⟨rfl, rfl⟩, ?_⟩
    (repeat' first | refine And.intro ?_ ?_ | exact xeC | fail)
    all_goals exact xmR
/-- Another writer's state in the place of one. -/
def updW (R : Rd) (w : Int) (m : Mx) : Rd := ⟨R.l, R.ls, R.M, R.ck, fun y => if y = w.toNat then some m else R.D y⟩
def updC (cf : Nat → Nat) (w : Int) (c : Nat) : Nat → Nat := fun y => if y = w.toNat then c else cf y
structure RdN (R : Rd) : Prop extends RdOk R where
  nd : (R.M.map (·.2)).Nodup
theorem wr_ne {R : Rd} (hR : RdN R) {i k : Nat} (hi : i < R.M.length) (hk : k < R.M.length) (e : i ≠ k) : (R.M.getD i default).2.toNat ≠ (R.M.getD k default).2.toNat := by
  have h1 := (hR.a i hi).1
  have h2 := (hR.a k hk).1
  have hp := List.pairwise_iff_getElem.1 (List.pairwise_map.1 hR.nd)
  intro q
  have q : (R.M.getD i default).2 = (R.M.getD k default).2 := by omega
  rw [getD_at hi, getD_at hk] at q
  rcases Nat.lt_or_gt_of_ne e with h | h
  · exact hp i k hi hk h q
  · exact hp k i hk hi h q.symm
theorem mt_upd {F G k : Nat} {R : Rd} {cf : Nat → Nat} {m : Mx} {c : Nat} {L : List C} {σ : List Sg} {N : Nat} (hR : RdN R) (hk : k < R.M.length)
    (h3 : ∀ x, x ≠ (R.M.getD k default).2.toNat → key σ N F x = (G, x))
    (hL : L = [.i .i64 (R.M.getD k default).2, .i .i64 m.nd, .b m.rel, .i .i64 m.ex, .sl (key σ N F (R.M.getD k default).2.toNat).1 (key σ N F (R.M.getD k default).2.toNat).2 6 0 m.W.length c]) (i : Nat) (hi : i < R.M.length) :
    (if i = k then L else encMt G R cf i) = List.map (C.rk σ N) (encMt F (updW R (R.M.getD k default).2 m) (updC cf (R.M.getD k default).2 c) i) := by
  rw [mt_rk]
  by_cases e : i = k
  · subst e
    rw [if_pos rfl, hL]
    have h1 : (updW R (R.M.getD i default).2 m).D ((updW R (R.M.getD i default).2 m).M.getD i default).2.toNat = some m := if_pos rfl
    have h2 : updC cf (R.M.getD i default).2 c ((updW R (R.M.getD i default).2 m).M.getD i default).2.toNat = c := if_pos rfl
    rw [h1]
    simp only [h2]
    rfl
  · have hn := wr_ne hR hi hk e
    rw [if_neg e]
    have h1 : (updW R (R.M.getD k default).2 m).D ((updW R (R.M.getD k default).2 m).M.getD i default).2.toNat = R.D (R.M.getD i default).2.toNat := if_neg hn
    have h2 : updC cf (R.M.getD k default).2 c ((updW R (R.M.getD k default).2 m).M.getD i default).2.toNat = cf (R.M.getD i default).2.toNat := if_neg hn
    rw [h1]
    unfold encMt
    cases R.D (R.M.getD i default).2.toNat with
    | none => rfl
    | some m2 =>
      simp only [h2]
      have h4 := h3 _ hn
      unfold mtc5
      have h5 : (updW R (R.M.getD k default).2 m).M.getD i default = R.M.getD i default := rfl
      rw [h5, h4]
theorem slG_up {R : Rd} {cf : Nat → Nat} {w : Int} {m : Mx} {c x : Nat} : slG (updW R w m) (updC cf w c) x = if x = w.toNat then slR m.W c else slG R cf x := by
  unfold slG updW updC
  simp only
  by_cases h : x = w.toNat
  · rw [if_pos h, if_pos h, if_pos h]
  · rw [if_neg h, if_neg h, if_neg h]
/-- The member of one writer went away; the others stay. -/
theorem slG_leC {R : Rd} {cf : Nat → Nat} {w : Int} {m : Mx} {c N N' x : Nat} {σ : List Sg} (h : x ≠ w.toNat) : (slG R cf x).leK N ((slG (updW R w m) (updC cf w c) x).rk σ N') True := by
  have e : slG (updW R w m) (updC cf w c) x = slG R cf x := by rw [slG_up, if_neg h]
  rw [e]
  exact slG_le
theorem slG_leX {R : Rd} {cf : Nat → Nat} {w : Int} {m : Mx} {c N N' x : Nat} {σ : List Sg} (h : x ≠ w.toNat) : ((fun y => if y = w.toNat then Ck.no else slG R cf y) x).leK N ((slG (updW R w m) (updC cf w c) x).rk σ N') True := by
  show (if x = w.toNat then Ck.no else slG R cf x).leK N _ True
  rw [if_neg h]
  exact slG_leC h
theorem slG_leN {R : Rd} {cf : Nat → Nat} {w : Int} {m : Mx} {c N N' : Nat} {σ : List Sg} {q : Ck} {A : Prop} (h : q.leK N (slR m.W c) A) : q.leK N ((slG (updW R w m) (updC cf w c) w.toNat).rk σ N') A := by
  rw [slG_rk, slG_up, if_pos rfl]
  exact h
/-! ### cut -/
theorem wge_take (n : Int) (W : Win) {i : Nat} (h : i < W.length) : wge n (W.take (i + 1)) = if n ≤ (W.getD i default).2.1 then wge n (W.take i) ++ [W.getD i default] else wge n (W.take i) := by
  unfold wge
  rw [take_snocG W h, List.filter_append]
  by_cases q : n ≤ (W.getD i default).2.1
  · rw [if_pos q, List.filter_cons_of_pos (by simpa using q)]
    rfl
  · rw [if_neg q, List.filter_cons_of_neg (by simpa using q), List.filter_nil, List.append_nil]
def cutM (n : Int) (m : Mx) : Mx := ⟨m.nd, m.ex, m.rel, wge n m.W, m.ck⟩
theorem keyU {w : Nat} {G : Nat} : (∀ x, x ≠ w → key [0, 1, .adopt 1 w G] 0 2 x = (1, x)) ∧ key [0, 1, .adopt 1 w G] 0 2 w = (G, 0) := ⟨fun x hx => by simp [key, hx], by simp [key]⟩
set_option maxRecDepth 10000 in
theorem rrcut (R : Rd) (cM : Nat) (cf : Nat → Nat) (k : Nat) (m : Mx) (n : Int) (hR : RdN R) (hk : k < R.M.length) (hm : R.D (R.M.getD k default).2.toNat = some m) (hl : m.W.length ≤ 1000000) :
    Ctr Try.prog 68 [.c (.pe 0 0 5 k 0), .c (.i .i64 n)] [.one (mtR 1 R cM cf), .many (slG R cf)]
      fun v h => ∃ c', v = .t [] ∧ h = [.one (mtR 2 (updW R (R.M.getD k default).2 (cutM n m)) cM (updC cf (R.M.getD k default).2 c')), .one .no, .many (slG (updW R (R.M.getD k default).2 (cutM n m)) (updC cf (R.M.getD k default).2 c'))] := by
  have he : encMt 1 R cf k = _ := mt_at hm
  unfold mtc5 at he
  have hs := slG_at (cf := cf) hm
  refine Ctr.mk' tbv mixed Try.func68 rfl rfl rfl (fun _ _ => by kernel_rfl) (by kernel_rfl) (by rfl) (by rfl) (by (repeat' first | refine And.intro ?_ ?_ | exact xeC | fail) <;> exact xmR) ?_
  repeat' (first | (fail_if_success (with_reducible refine xstp ?_)); first | (with_reducible intro hc; (try simp only [capsP, and_true] at hc); (try exact xfC)) | ((fail_if_success (with_reducible first | refine xgon ?_ | intro _)); (conv => whnf); (fail_if_success (fail_if_success (with_reducible first | refine xstp ?_ | refine xgon ?_ | intro _)))))
  refine LoopK.mk' {p : Nat × Nat // p.1 ≤ m.W.length}
    (fun ⟨(i, c'), _⟩ => ⟨[(0, .c (.pe 0 0 5 k 0)), (1, .c (.i .i64 n)), (4, .c (.sl 2 0 6 0 (wge n (m.W.take i)).length c')), (5, .c (.i .i64 (i : Nat)))], [.one (mtR 1 R cM cf), .many (slG R cf), .one (slR (wge n (m.W.take i)) c')]⟩) (fun q => m.W.length - q.1.1)
    ⟨⟨(0, 0), Nat.zero_le _⟩, [0, 1, 99], ?_⟩ ?_
  · (repeat' first | refine And.intro ?_ ?_ | exact xeC | fail)
    all_goals first
      | exact xmR
      | (intro i hi; simp [wge] at hi)
      | skip
  rintro ⟨⟨i, c'⟩, hi⟩
  simp only at hi
  have hwl : (wge n (m.W.take i)).length ≤ i := Nat.le_trans (List.length_filter_le _ _) (by rw [List.length_take]; omega)
  have e3 : 0 + ((i : Nat) : Int).toNat = i := by omega
  rcases Nat.lt_or_ge i m.W.length with hlt | hge
  · have hwt := wge_take n m.W hlt
    repeat' (first | (fail_if_success (with_reducible refine xstp ?_)); first | ((with_reducible refine And.intro ?_ ?_); focus exact xoC) | (with_reducible intro hc; (try simp only [capsP, and_true] at hc); (try exact xfC)) | ((fail_if_success (with_reducible first | refine xgon ?_ | intro _)); (conv => whnf); (fail_if_success (fail_if_success (with_reducible first | refine xstp ?_ | refine xgon ?_ | intro _)))))
    rw [he]
    repeat' (first | (fail_if_success (with_reducible refine xstp ?_)); first | ((with_reducible refine And.intro (fun (hb : _ = true) => ?_) (fun (hb : _ = false) => ?_)) <;> replace hb := xnC hb <;> (try first | exact xfC | exact bff hb (by assumption) | exact bff (by assumption) hb)) | ((with_reducible refine And.intro ?_ ?_); focus exact xoC) | ((fail_if_success (with_reducible first | refine xgon ?_ | intro _)); (conv => whnf); (fail_if_success (fail_if_success (with_reducible first | refine xstp ?_ | refine xgon ?_ | intro _)))))
    rw [he]
    repeat' (first | (fail_if_success (with_reducible refine xstp ?_)); first | ((fail_if_success (with_reducible first | refine xgon ?_ | intro _)); (conv => whnf); (fail_if_success (fail_if_success (with_reducible first | refine xstp ?_ | refine xgon ?_ | intro _)))))
    refine ManyK.mk ⟨slR m.W (cf (R.M.getD k default).2.toNat), hs, ?_⟩
    repeat' (first | (fail_if_success (with_reducible refine xstp ?_)); first | ((with_reducible refine And.intro ?_ ?_); focus exact xoC) | ((fail_if_success (with_reducible first | refine xgon ?_ | intro _)); (conv => whnf); (fail_if_success (fail_if_success (with_reducible first | refine xstp ?_ | refine xgon ?_ | intro _)))))
    refine ManyK.mk ⟨slR m.W (cf (R.M.getD k default).2.toNat), hs, ?_⟩
    repeat' (first | (fail_if_success (with_reducible refine xstp ?_)); first | ((with_reducible refine And.intro (fun (hb : _ = true) => ?_) (fun (hb : _ = false) => ?_)) <;> replace hb := xnC hb <;> (try first | exact xfC | exact bff hb (by assumption) | exact bff (by assumption) hb)) | ((with_reducible refine And.intro ?_ ?_); focus exact xoC) | ((fail_if_success (with_reducible first | refine xgon ?_ | intro _)); (conv => whnf); (fail_if_success (fail_if_success (with_reducible first | refine xstp ?_ | refine xgon ?_ | intro _)))))
    · rw [he]
      repeat' (first | (fail_if_success (with_reducible refine xstp ?_)); first | ((fail_if_success (with_reducible first | refine xgon ?_ | intro _)); (conv => whnf); (fail_if_success (fail_if_success (with_reducible first | refine xstp ?_ | refine xgon ?_ | intro _)))))
      refine ManyK.mk ⟨slR m.W (cf (R.M.getD k default).2.toNat), hs, ?_⟩
      repeat' (first | (fail_if_success (with_reducible refine xstp ?_)); first | ((with_reducible refine And.intro ?_ ?_); focus exact xoC) | ((fail_if_success (with_reducible first | refine xgon ?_ | intro _)); (conv => whnf); (fail_if_success (fail_if_success (with_reducible first | refine xstp ?_ | refine xgon ?_ | intro _)))))
      refine ManyK.mk ⟨slR m.W (cf (R.M.getD k default).2.toNat), hs, ?_⟩
      repeat' (first | (fail_if_success (with_reducible refine xstp ?_)); first | ((with_reducible refine And.intro ?_ ?_); focus exact xoC) | ((with_reducible refine Or.inl ⟨?_, ?_, ?_⟩); (focus rfl); focus exact xaC) | (with_reducible intro hc; (try simp only [capsP, and_true] at hc); (try exact xfC)) | ((fail_if_success (with_reducible first | refine xgon ?_ | intro _)); (conv => whnf); (fail_if_success (fail_if_success (with_reducible first | refine xstp ?_ | refine xgon ?_ | intro _)))))
      rename_i c3
      rw [if_pos hb] at hwt
      rw [e3]
      refine ⟨⟨(i + 1, c3), hlt⟩, [0, 1, 4], by simp only; omega, ?_⟩
      simp only [hwt]
      (repeat' first | refine And.intro ?_ ?_ | exact xeC | fail)
      all_goals first
        | exact xmR
        | (rw [List.length_append, List.length_singleton]; done)
        | (rw [List.length_append, List.length_singleton]; exact Nat.le_refl _)
        | exact fun i hi => app_rowG encSl _ _ _ rfl i hi
        | skip
    · rw [if_neg (by omega)] at hwt
      refine ⟨⟨(i + 1, c'), hlt⟩, [0, 1, 2], by simp only; omega, ?_⟩
      simp only [hwt]
      (repeat' first | refine And.intro ?_ ?_ | exact xeC | fail)
      all_goals first
        | exact xmR
        | skip
  · obtain rfl : i = m.W.length := by omega
    have ht : m.W.take m.W.length = m.W := List.take_length
    repeat' (first | (fail_if_success (with_reducible refine xstp ?_)); first | ((with_reducible refine And.intro ?_ ?_); focus exact xoC) | (with_reducible intro hc; (try simp only [capsP, and_true] at hc); (try exact xfC)) | ((fail_if_success (with_reducible first | refine xgon ?_ | intro _)); (conv => whnf); (fail_if_success (fail_if_success (with_reducible first | refine xstp ?_ | refine xgon ?_ | intro _)))))
    rw [he]
    repeat' (first | (fail_if_success (with_reducible refine xstp ?_)); first | ((with_reducible refine And.intro (fun (hb : _ = true) => ?_) (fun (hb : _ = false) => ?_)) <;> replace hb := xnC hb <;> (try first | exact xfC | exact bff hb (by assumption) | exact bff (by assumption) hb)) | ((with_reducible refine And.intro ?_ ?_); focus exact xoC) | ((fail_if_success (with_reducible first | refine xgon ?_ | intro _)); (conv => whnf); (fail_if_success (fail_if_success (with_reducible first | refine xstp ?_ | refine xgon ?_ | intro _)))))
    rw [he]
    repeat' (first | (fail_if_success (with_reducible refine xstp ?_)); first | ((fail_if_success (with_reducible first | refine xgon ?_ | intro _)); (conv => whnf); (fail_if_success (fail_if_success (with_reducible first | refine xstp ?_ | refine xgon ?_ | intro _)))))
    rw [ht]
    refine FinK.mk ⟨[0, 1, .adopt 1 (R.M.getD k default).2.toNat 2], _, _, ⟨c', rfl, rfl⟩, ?_⟩
    (repeat' first | refine And.intro ?_ ?_ | exact xeC | fail)
    all_goals first
      | exact xmR
      | exact fun i hi => mt_upd hR hk keyU.1 (by rw [keyU.2]; rfl) i hi
      | exact fun x hx => slG_leC hx
      | skip
    refine slG_leN ?_
    refine ⟨rfl, rfl, rfl, rfl, Nat.le_refl _, rfl, fun _ _ => rfl, ?_⟩
    (repeat' first | refine And.intro ?_ ?_ | exact xeC | fail)
    all_goals exact xmR
end Go.Proofs.Ytgcofipbdidhmaa


namespace Go.Proofs.Ytgcofipbdidhmaa
open Go.X
set_option linter.unusedSimpArgs false
set_option linter.unusedVariables false
set_option maxRecDepth 10000 in
theorem rrnumber (n : Int) : Ctr Try.prog 76 [.c (.i .i64 n)] [] fun v h => v = .c (.b (decide (okN n))) ∧ h = [] := by
  refine Ctr.mk' tbv mixed Try.func76 rfl rfl rfl (fun _ _ => by kernel_rfl) (by kernel_rfl) (by rfl) (by rfl) (by (repeat' first | refine And.intro ?_ ?_ | exact xeC | fail)) ?_
  repeat' (first | (fail_if_success (with_reducible refine xstp ?_)); first | ((with_reducible refine And.intro (fun (hb : _ = true) => ?_) (fun (hb : _ = false) => ?_)) <;> replace hb := xnC hb <;> (try first | exact xfC | exact bff hb (by assumption) | exact bff (by assumption) hb)) | (with_reducible intro hc; (try simp only [capsP, and_true] at hc); (try exact xfC)) | ((fail_if_success (with_reducible first | refine xgon ?_ | intro _)); (conv => whnf); (fail_if_success (fail_if_success (with_reducible first | refine xstp ?_ | refine xgon ?_ | intro _)))))
  all_goals first
    | (refine FinK.mk ⟨[], _, _, ⟨rfl, rfl⟩, ?_⟩
       (repeat' first | refine And.intro ?_ ?_ | exact xeC | fail)
       all_goals (unfold okN; first | exact decide_eq_true (by omega) | exact (decide_eq_true (by omega)).symm | exact decide_eq_false (by omega) | exact (decide_eq_false (by omega)).symm | exact decide_eq_decide.2 (by omega))
       done)
    | skip
def wrongP (x : Pkt) : Prop := if x.k = 1 then ¬ (okN x.q ∧ 0 ≤ x.at' ∧ x.at' ≤ 1099511627776 ∧ x.p.size ≤ 2000) else ¬ (okN x.f ∧ x.f - 1 ≤ x.la ∧ x.la ≤ 1099511627776 ∧ (x.k = 4 → x.q = 0 ∨ x.q = 1))
instance (x : Pkt) : Decidable (wrongP x) := by unfold wrongP; infer_instance
set_option maxRecDepth 10000 in
theorem rrlose (id : Int) (q : Qos) (nM cM : Nat) (ls : List (Int × Int)) (c : Nat) (w sq : Int) (hl : ls.length ≤ 1000000) : Ctr Try.prog 79 [.c (.p 0 0 0), .c (.i .i64 w), .c (.i .i64 sq)] [.one (rrd 1 2 3 id q nM cM ls.length c), .one .no, .one .no, .one (lsr true ls c)]
      fun v h => v = .t [] ∧ ∃ c', h = [.one (rrd 1 2 4 id q nM cM (ls ++ [(w, sq)]).length c'), .one .no, .one .no, .one .no, .one (lsr true (ls ++ [(w, sq)]) c')] := by
  refine Ctr.mk' tbv mixed Try.func79 rfl rfl rfl (fun _ _ => by kernel_rfl) (by kernel_rfl) (by rfl) (by rfl) (by (repeat' first | refine And.intro ?_ ?_ | exact xeC | fail)) ?_
  repeat' (first | (fail_if_success (with_reducible refine xstp ?_)); first | ((with_reducible refine And.intro ?_ ?_); focus exact xoC) | ((with_reducible refine Or.inl ⟨?_, ?_, ?_⟩); (focus rfl); focus exact xaC) | (with_reducible intro hc; (try simp only [capsP, and_true] at hc); (try exact xfC)) | ((fail_if_success (with_reducible first | refine xgon ?_ | intro _)); (conv => whnf); (fail_if_success (fail_if_success (with_reducible first | refine xstp ?_ | refine xgon ?_ | intro _)))))
  rename Nat => c2
  refine FinK.mk ⟨[0, 1, 2, 3, 5], _, _, ⟨rfl, c2, rfl⟩, ?_⟩; (repeat' first | refine And.intro ?_ ?_ | exact xeC | fail)
  all_goals first | (simp; done) | (intro i hi; exact app_rowG encL ls (w, sq) _ rfl i hi) | omega
theorem rH29C0 {σ : List Sg} {H h' : List Fam} {v : T} {K : T → List Fam → Prop} {H' : List Fam} {v' : T} {N : Nat} (hk : K v' H') (hN : H.length = N := by (try simp only [↓List.length_cons, ↓List.length_nil, Nat.reduceAdd]) <;> rfl) (h : givesF σ N H σ h' = some H' := by (try simp (maxSteps := 1000000) only [givesF, setF, updF, Fam.zeroth, Fam.rk, Ck.rk, C.rk, E.rk, T.rk, key, List.map_cons, List.map_nil, List.cons_append, List.nil_append, List.length_cons, List.length_nil, Option.map_some, Option.bind_some, Nat.reduceAdd, Nat.zero_add, Nat.add_zero, Nat.add_sub_cancel_left, Int.toNat_natCast, reps, List.all_cons, List.all_nil, C.flat, List.append_eq, Bool.not_true, Bool.and_true, Bool.or_false, Bool.or_self, Bool.not_false, List.append_nil, Bool.and_self, ↓slG_rk]) <;> rfl) (hv : v.rk σ N = v' := by (try simp only [givesF, setF, updF, Fam.zeroth, Fam.rk, Ck.rk, C.rk, E.rk, T.rk, key, List.map_cons, List.map_nil, List.cons_append, List.nil_append, List.length_cons, List.length_nil, Option.map_some, Option.bind_some, Nat.reduceAdd, Nat.zero_add, Nat.add_zero, Nat.add_sub_cancel_left, Int.toNat_natCast, reps, List.all_cons, List.all_nil, C.flat, List.append_eq, Bool.not_true, Bool.and_true, Bool.or_false, Bool.or_self, Bool.not_false, List.append_nil, Bool.and_self, ↓slG_rk]) <;> rfl) : RetG σ H h' v K := ret_mk3 hN h hv hk
theorem cH29C1 {P : Program} {F : Nat} {args : List T} {H : List Fam} {K : T → List Fam → Prop} {σ : List Sg} {nl : List Fam} {args0 : List T} {h0 : List Fam} {Q : T → List Fam → Prop} {H2 H1 : List Fam} {N n : Nat} (hc : Ctr P F args0 h0 Q) (hk : ∀ v h', Q v h' → capsP h' → RetG σ H2 h' v K) (hap : apart σ = true := by rfl) (hnl : nl.all nilB = true := by rfl) (h1 : H ++ nl = H1 := by first | exact List.append_nil _ | ((try simp only [List.cons_append, List.nil_append]) <;> rfl)) (hN : H1.length = N := by (try simp only [↓List.length_cons, ↓List.length_nil, Nat.reduceAdd]) <;> rfl) (hn : H.length = n := by (try simp only [↓List.length_cons, ↓List.length_nil, Nat.reduceAdd]) <;> rfl) (hH : givesF σ N H1 σ h0 = some H2 := by (try simp (maxSteps := 1000000) only [givesF, setF, updF, Fam.zeroth, Fam.rk, Ck.rk, C.rk, E.rk, T.rk, key, List.map_cons, List.map_nil, List.cons_append, List.nil_append, List.length_cons, List.length_nil, Option.map_some, Option.bind_some, Nat.reduceAdd, Nat.zero_add, Nat.add_zero, Nat.add_sub_cancel_left, Int.toNat_natCast, reps, List.all_cons, List.all_nil, C.flat, List.append_eq, Bool.not_true, Bool.and_true, Bool.or_false, Bool.or_self, Bool.not_false, List.append_nil, Bool.and_self, ↓slG_rk]) <;> rfl) (hle : leS n H1 σ N σ h0 (belsK N (h0.map (Fam.rk σ N)) (argsK n args (args0.map (T.rk σ N)) True)) := by repeat' first | refine And.intro ?_ ?_ | exact xeC | fail) : CallK P F args H K := CallK.mk3 hc hap hnl h1 hN hn hH hle hk
set_option maxRecDepth 10000 in
set_option maxHeartbeats 4000000 in
theorem rrdeliver (id : Int) (q : Qos) (nM cM : Nat) (l : List Smp) (c : Nat) (ls : List (Int × Int)) (cl : Nat) (x : Smp) (hl : l.length ≤ 1000000) (hls : ls.length ≤ 900000) (hq : q.keep = true ∨ 1 ≤ q.depth) :
    Ctr Try.prog 78 [.c (.p 0 0 0), .a (encS x)] [.one (rrd 1 2 3 id q nM cM ls.length cl), .one (hist 4 q l.length c), .one .no, .one (lsr true ls cl), .one (smps true l c)]
      fun v h => v = .t [] ∧ ∃ c' cl', h = [.one (rrd 1 2 5 id q nM cM (dlvL q l ls x).length cl'), .one (hist 6 q (newS q l x).length c'), .one .no, .one .no, .one .no, .one (lsr true (dlvL q l ls x) cl'), .one (smps true (newS q l x) c')] := by
  refine Ctr.mk' tbv mixed Try.func78 rfl rfl rfl (fun _ _ => by kernel_rfl) (by kernel_rfl) (by rfl) (by rfl) (by (repeat' first | refine And.intro ?_ ?_ | exact xeC | fail)) ?_
  repeat' (first | (fail_if_success (with_reducible refine xstp ?_)); first | (with_reducible intro hc; (try simp only [capsP, and_true] at hc); (try exact xfC)) | ((fail_if_success (with_reducible first | refine xgon ?_ | intro _)); (conv => whnf); (fail_if_success (fail_if_success (with_reducible first | refine xstp ?_ | refine xgon ?_ | intro _)))))
  refine cH29C1 (σ := [.whole 1, .whole 4]) (nl := []) (radd q l c x hl hq) ?_
  rintro v h' ⟨co, c', rfl, rfl⟩ hcaps
  refine rH29C0 ?_
  repeat' (first | (fail_if_success (with_reducible refine xstp ?_)); first | ((fail_if_success (with_reducible first | refine xgon ?_ | intro _)); (conv => whnf); (fail_if_success (fail_if_success (with_reducible first | refine xstp ?_ | refine xgon ?_ | intro _)))))
  refine LoopK.mk' ({k : Nat // k ≤ (outS q l x).length} × Nat)
    (fun ⟨⟨k, _⟩, cc⟩ => ⟨[(0, .c (.p 0 0 0)), (3, .c (.p 5 0 0)), (4, .c (.sl 7 0 4 0 (outS q l x).length co)), (5, .c (.i .i64 (addE q l x))), (6, .c (.i .i64 k))],
      [.one (rrd 1 2 8 id q nM cM (ls ++ ((outS q l x).take k).map keyL).length cc), .one (hist 6 q (newS q l x).length c'), .one .no, .one .no, .one .no, .one (.cells true (encS x)), .one (smps true (newS q l x) c'), .one (smps true (outS q l x) co), .one (lsr true (ls ++ ((outS q l x).take k).map keyL) cc)]⟩)
    (fun k => (outS q l x).length - k.1.1)
    ⟨⟨⟨0, Nat.zero_le _⟩, cl⟩, [0, 1, 2, 3, 4, 5, 6, 7, 3], ?_⟩ ?_
  · simp only [List.take_zero, List.map_nil, List.append_nil]
    (repeat' first | refine And.intro ?_ ?_ | exact xeC | fail)
  rintro ⟨⟨k, hk⟩, cc⟩
  have hout : (outS q l x).length ≤ 1 := out_le q l x
  have hlen : (ls ++ ((outS q l x).take k).map keyL).length ≤ 1000000 := by
    simp only [List.length_append, List.length_map, List.length_take]; omega
  repeat' (first | (fail_if_success (with_reducible refine xstp ?_)); first | ((with_reducible refine And.intro (fun (hb : _ = true) => ?_) (fun (hb : _ = false) => ?_)) <;> replace hb := xnC hb <;> (try first | exact xfC | exact bff hb (by assumption) | exact bff (by assumption) hb)) | ((with_reducible refine And.intro ?_ ?_); focus exact xoC) | (with_reducible intro hc; (try simp only [capsP, and_true] at hc); (try exact xfC)) | ((fail_if_success (with_reducible first | refine xgon ?_ | intro _)); (conv => whnf); (fail_if_success (fail_if_success (with_reducible first | refine xstp ?_ | refine xgon ?_ | intro _)))))
  · have e1 : ls ++ ((outS q l x).take (k + 1)).map keyL = ls ++ ((outS q l x).take k).map keyL ++ [(((outS q l x).getD k default).w, ((outS q l x).getD k default).q)] := by
      rw [List.append_assoc, ← List.take_append_getElem (show k < (outS q l x).length by omega), List.map_append, getD_at (show k < (outS q l x).length by omega)]
      rfl
    simp only [Int.toNat_natCast, Nat.zero_add]
    refine cH29C1 (σ := [.whole 0, .name 1, .name 2, .whole 8]) (nl := []) (rrlose id q nM cM (ls ++ ((outS q l x).take k).map keyL) cc ((outS q l x).getD k default).w ((outS q l x).getD k default).q hlen) ?_
    rintro v h' ⟨rfl, c2, rfl⟩ hcaps
    refine rH29C0 ?_
    repeat' (first | (fail_if_success (with_reducible refine xstp ?_)); first | ((with_reducible refine And.intro ?_ ?_); focus exact xoC) | ((fail_if_success (with_reducible first | refine xgon ?_ | intro _)); (conv => whnf); (fail_if_success (fail_if_success (with_reducible first | refine xstp ?_ | refine xgon ?_ | intro _)))))
    refine ⟨⟨⟨k + 1, by omega⟩, c2⟩, [0, 1, 2, 3, 4, 5, 6, 7, 9], by simp only; omega, ?_⟩
    simp only [e1]
    (repeat' first | refine And.intro ?_ ?_ | exact xeC | fail)
  · have e0 : (outS q l x).take k = outS q l x := List.take_of_length_le (by omega)
    have e1 : dlvL q l ls x = ls ++ ((outS q l x).take k).map keyL ++ [(x.w, x.q)] := by
      unfold dlvL
      rw [e0, if_neg hb]
      rfl
    refine cH29C1 (σ := [.whole 0, .name 1, .name 2, .whole 8]) (nl := []) (rrlose id q nM cM (ls ++ ((outS q l x).take k).map keyL) cc x.w x.q hlen) ?_
    rintro v h' ⟨rfl, c2, rfl⟩ hcaps
    refine rH29C0 ?_
    repeat' (first | (fail_if_success (with_reducible refine xstp ?_)); first | ((fail_if_success (with_reducible first | refine xgon ?_ | intro _)); (conv => whnf); (fail_if_success (fail_if_success (with_reducible first | refine xstp ?_ | refine xgon ?_ | intro _)))))
    rw [e1]
    refine FinK.mk ⟨[0, 1, 2, 3, 4, 9, 6], _, _, ⟨rfl, c', c2, rfl⟩, ?_⟩
    (repeat' first | refine And.intro ?_ ?_ | exact xeC | fail)
  · have e0 : (outS q l x).take k = outS q l x := List.take_of_length_le (by omega)
    have e1 : dlvL q l ls x = ls ++ ((outS q l x).take k).map keyL := by
      unfold dlvL
      rw [e0, if_pos hb, List.append_nil]
    rw [e1]
    refine FinK.mk ⟨[0, 1, 2, 3, 4, 8, 6], _, _, ⟨rfl, c', cc, rfl⟩, ?_⟩
    (repeat' first | refine And.intro ?_ ?_ | exact xeC | fail)
end Go.Proofs.Ytgcofipbdidhmaa


namespace Go.Proofs.Ytgcofipbdidhmaa
open Go.X
set_option linter.unusedSimpArgs false
set_option linter.unusedVariables false
theorem encMt_cong {F : Nat} {R R' : Rd} {cf : Nat → Nat} (hM : R.M = R'.M) (hD : ∀ y, R.D y = R'.D y) : encMt F R cf = encMt F R' cf := by
  funext i
  unfold encMt
  rw [hM, hD]
theorem slG_cong {R R' : Rd} {cf : Nat → Nat} (hD : ∀ y, R.D y = R'.D y) : slG R cf = slG R' cf := by
  funext x
  unfold slG
  rw [hD]
theorem updC_self (cf : Nat → Nat) (w : Int) : updC cf w (cf w.toNat) = cf := by
  funext y
  unfold updC
  split
  · rename_i h; rw [h]
  · rfl
abbrev rrB (id : Int) (q : Qos) (R : Rd) (cM c cl : Nat) (cf : Nat → Nat) : List Fam :=
  [.one (rrd 1 2 3 id q R.M.length cM R.ls.length cl), .one (hist 4 q R.l.length c), .one (mtR 5 R cM cf), .one (lsr true R.ls cl), .one (smps true R.l c), .many (slG R cf)]
abbrev rrA (id : Int) (q : Qos) (R : Rd) (cM c cl : Nat) (cf : Nat → Nat) : List Fam :=
  [.one (rrd 1 2 6 id q R.M.length cM R.ls.length cl), .one (hist 7 q R.l.length c), .one (mtR 8 R cM cf), .one .no, .one .no, .one .no, .one (lsr true R.ls cl), .one (smps true R.l c), .many (slG R cf)]
theorem rnUpd {R : Rd} {k : Nat} {m : Mx} {r : Rs} (hR : RdN R) (hk : k < R.M.length) (hm : R.D (R.M.getD k default).2.toNat = some m) : RdN (upd R (R.M.getD k default).2 m r) := by
  refine ⟨⟨fun i hi => ?_, fun x m' hx => ?_⟩, hR.nd⟩
  · obtain ⟨h1, m1, h2⟩ := hR.a i hi
    refine ⟨h1, ?_⟩
    show ∃ m', (if _ = _ then _ else _) = some m'
    split
    · exact ⟨_, rfl⟩
    · exact ⟨m1, h2⟩
  · have hx : (if x = (R.M.getD k default).2.toNat then _ else R.D x) = some m' := hx
    split at hx
    · rename_i h
      have h1 := (hR.a k hk).1
      exact ⟨k, hk, by show (R.M.getD k default).2 = (x : Int); omega, by omega⟩
    · exact hR.b x m' hx
theorem wge_ne {W : Win} {ex : Int} (h : WOk W ex) : wge (ex + 1) W = wne ex W := by
  unfold wge wne
  apply List.filter_congr
  intro e he
  have := h.rg e he
  exact decide_eq_decide.2 (by omega)
theorem fnd_get {W : Win} {n : Int} (hnd : (W.map (·.2.1)).Nodup) : (fndW W n = none ∧ wget W n = none) ∨ ∃ i, fndW W n = some i ∧ i < W.length ∧ (W.getD i default).2.1 = n ∧ wget W n = some (W.getD i default).2.2 := by
  cases h : fndW W n with
  | none =>
    refine .inl ⟨rfl, get_none fun i hi e => ?_⟩
    unfold fndW at h
    rw [List.findIdx?_eq_none_iff] at h
    have := h (W.getD i default) (by rw [getD_at hi]; exact List.getElem_mem _)
    rw [e] at this
    simp at this
  | some i =>
    unfold fndW at h
    rw [List.findIdx?_eq_some_iff_getElem] at h
    obtain ⟨hi, h1, _⟩ := h
    have h1 : (W.getD i default).2.1 = n := by rw [getD_at hi]; exact of_decide_eq_true h1
    exact .inr ⟨i, rfl, hi, h1, get_some hnd hi h1⟩
theorem rnUpdW {R : Rd} {k : Nat} {m m2 : Mx} (hR : RdN R) (hk : k < R.M.length) (hm : R.D (R.M.getD k default).2.toNat = some m) : RdN (updW R (R.M.getD k default).2 m2) := by
  refine ⟨⟨fun i hi => ?_, fun x m' hx => ?_⟩, hR.nd⟩
  · obtain ⟨h1, m1, h2⟩ := hR.a i hi
    refine ⟨h1, ?_⟩
    show ∃ m', (if _ = _ then _ else _) = some m'
    split
    · exact ⟨_, rfl⟩
    · exact ⟨m1, h2⟩
  · have hx : (if x = (R.M.getD k default).2.toNat then _ else R.D x) = some m' := hx
    split at hx
    · rename_i h
      have h1 := (hR.a k hk).1
      exact ⟨k, hk, by show (R.M.getD k default).2 = (x : Int); omega, by omega⟩
    · exact hR.b x m' hx
theorem slG_same {R : Rd} {cf : Nat → Nat} {w : Int} {m1 m2 : Mx} (h : R.D w.toNat = some m1) (hW : m1.W = m2.W) : slG (updW R w m2) (updC cf w (cf w.toNat)) = slG R cf := by
  funext x
  rw [slG_up]
  split
  · rename_i e
    rw [e, slG_at h, hW]
  · rfl
theorem mt_fun {σ : List Sg} {N F G : Nat} (h : ∀ x, key σ N F x = (G, x)) (R : Rd) (cf : Nat → Nat) : (fun i => List.map (C.rk σ N) (encMt F R cf i)) = encMt G R cf := funext fun i => mt_key h R cf i
theorem chain_eq {q : Qos} {R : Rd} {w : Int} {m : Mx} {r : Rs} {s : Slt} (hW : WOk r.W r.ex) : ∀ y, (updW (updW (upd R w m r) w ⟨m.nd, r.ex + 1, m.rel, r.W, r.ck⟩) w (cutM (r.ex + 1) ⟨m.nd, r.ex + 1, m.rel, r.W, r.ck⟩)).D y = (upd R w m (mvStep q w s r)).D y := by
  intro y
  show (if y = w.toNat then _ else (if y = w.toNat then _ else (if y = w.toNat then _ else R.D y))) = if y = w.toNat then _ else R.D y
  by_cases h : y = w.toNat
  · rw [if_pos h, if_pos h]
    simp only [cutM, wge_ne hW, mvStep]
  · rw [if_neg h, if_neg h, if_neg h, if_neg h]
theorem mv_none {q : Qos} {w : Int} {r : Rs} (h : wget r.W r.ex = none) : ∀ n, mv q w n r = r
  | 0 => rfl
  | n + 1 => by unfold mv; rw [h]
theorem rH29D0 {σ : List Sg} {H h' : List Fam} {v : T} {K : T → List Fam → Prop} {H' : List Fam} {v' : T} {N : Nat} (hk : K v' H') (hN : H.length = N := by (try simp only [↓List.length_cons, ↓List.length_nil, Nat.reduceAdd]) <;> rfl) (h : givesF σ N H σ h' = some H' := by (try simp (maxSteps := 1000000) only [givesF, setF, updF, Fam.zeroth, Fam.rk, Ck.rk, C.rk, E.rk, T.rk, key, List.map_cons, List.map_nil, List.cons_append, List.nil_append, List.length_cons, List.length_nil, Option.map_some, Option.bind_some, Nat.reduceAdd, Nat.zero_add, Nat.add_zero, Nat.add_sub_cancel_left, Int.toNat_natCast, reps, List.all_cons, List.all_nil, C.flat, List.append_eq, Bool.not_true, Bool.and_true, Bool.or_false, Bool.or_self, Bool.not_false, List.append_nil, Bool.and_self, ↓slG_rk]) <;> rfl) (hv : v.rk σ N = v' := by (try simp only [givesF, setF, updF, Fam.zeroth, Fam.rk, Ck.rk, C.rk, E.rk, T.rk, key, List.map_cons, List.map_nil, List.cons_append, List.nil_append, List.length_cons, List.length_nil, Option.map_some, Option.bind_some, Nat.reduceAdd, Nat.zero_add, Nat.add_zero, Nat.add_sub_cancel_left, Int.toNat_natCast, reps, List.all_cons, List.all_nil, C.flat, List.append_eq, Bool.not_true, Bool.and_true, Bool.or_false, Bool.or_self, Bool.not_false, List.append_nil, Bool.and_self, ↓slG_rk]) <;> rfl) : RetG σ H h' v K := ret_mk3 hN h hv hk
theorem cH29D1 {P : Program} {F : Nat} {args : List T} {H : List Fam} {K : T → List Fam → Prop} {σ : List Sg} {nl : List Fam} {args0 : List T} {h0 : List Fam} {Q : T → List Fam → Prop} {H2 H1 : List Fam} {N n : Nat} (hc : Ctr P F args0 h0 Q) (hk : ∀ v h', Q v h' → capsP h' → RetG σ H2 h' v K) (hap : apart σ = true := by rfl) (hnl : nl.all nilB = true := by rfl) (h1 : H ++ nl = H1 := by first | exact List.append_nil _ | ((try simp only [List.cons_append, List.nil_append]) <;> rfl)) (hN : H1.length = N := by (try simp only [↓List.length_cons, ↓List.length_nil, Nat.reduceAdd]) <;> rfl) (hn : H.length = n := by (try simp only [↓List.length_cons, ↓List.length_nil, Nat.reduceAdd]) <;> rfl) (hH : givesF σ N H1 σ h0 = some H2 := by (try simp (maxSteps := 1000000) only [givesF, setF, updF, Fam.zeroth, Fam.rk, Ck.rk, C.rk, E.rk, T.rk, key, List.map_cons, List.map_nil, List.cons_append, List.nil_append, List.length_cons, List.length_nil, Option.map_some, Option.bind_some, Nat.reduceAdd, Nat.zero_add, Nat.add_zero, Nat.add_sub_cancel_left, Int.toNat_natCast, reps, List.all_cons, List.all_nil, C.flat, List.append_eq, Bool.not_true, Bool.and_true, Bool.or_false, Bool.or_self, Bool.not_false, List.append_nil, Bool.and_self, ↓slG_rk]) <;> rfl) (hle : leS n H1 σ N σ h0 (belsK N (h0.map (Fam.rk σ N)) (argsK n args (args0.map (T.rk σ N)) True)) := by repeat' first | refine And.intro ?_ ?_ | exact xeC | fail) : CallK P F args H K := CallK.mk3 hc hap hnl h1 hN hn hH hle hk
set_option maxRecDepth 10000 in
set_option maxHeartbeats 8000000 in
theorem rrmove (id : Int) (q : Qos) (R : Rd) (cM c cl : Nat) (cf : Nat → Nat) (k : Nat) (m : Mx) (hR : RdN R) (hk : k < R.M.length) (hm : R.D (R.M.getD k default).2.toNat = some m) (hI : Inv (R.rs m) 900000 800000) (hq : q.keep = true ∨ 1 ≤ q.depth) (hl : R.M.length ≤ 1000000) :
    Ctr Try.prog 69 [.c (.p 0 0 0), .c (.i .i64 (k : Nat))] (rrB id q R cM c cl cf)
      fun v h => ∃ c' cl' cf', v = .t [] ∧ h = rrA id q (upd R (R.M.getD k default).2 m (mvA q (R.M.getD k default).2 (R.rs m))) cM c' cl' cf' := by
  generalize hw : (R.M.getD k default).2 = w at *
  generalize hF : mvA q w (R.rs m) = F
  have e3 : 0 + ((k : Nat) : Int).toNat = k := by omega
  refine Ctr.mk' tbv mixed Try.func69 rfl rfl rfl (fun _ _ => by kernel_rfl) (by kernel_rfl) (by rfl) (by rfl) (by (repeat' first | refine And.intro ?_ ?_ | exact xeC | fail) <;> exact xmR) ?_
  repeat' (first | (fail_if_success (with_reducible refine xstp ?_)); first | ((with_reducible refine And.intro ?_ ?_); focus exact xoC) | (with_reducible intro hc; (try simp only [capsP, and_true] at hc); (try exact xfC)) | ((fail_if_success (with_reducible first | refine xgon ?_ | intro _)); (conv => whnf); (fail_if_success (fail_if_success (with_reducible first | refine xstp ?_ | refine xgon ?_ | intro _)))))
  refine LoopK.mk' ({r : Rs // mv q w r.W.length r = F ∧ WOk r.W r.ex ∧ (1 ≤ r.ex ∧ r.ex ≤ 1099511627777) ∧ r.l.length + r.W.length ≤ 900000 ∧ r.ls.length + 2 * r.W.length ≤ 800000} × Nat × Nat × (Nat → Nat))
    (fun ⟨⟨r, _⟩, c1, cl1, cf1⟩ => ⟨[(0, .c (.p 0 0 0)), (4, .c (.pe 2 0 5 k 0))],
      [.one (rrd 1 2 6 id q R.M.length cM r.ls.length cl1), .one (hist 7 q r.l.length c1), .one (mtR 8 (upd R w m r) cM cf1), .one .no, .one .no, .one .no, .one (lsr true r.ls cl1), .one (smps true r.l c1), .many (slG (upd R w m r) cf1)]⟩)
    (fun r => r.1.1.W.length)
    ⟨⟨⟨R.rs m, hF, hI.ok, ⟨hI.lo, hI.hi⟩, hI.l, hI.ls⟩, c, cl, cf⟩, [0, 1, 2, 3, 4, 5, 3, 4, 5], ?_⟩ ?_
  · have hself : ∀ y, R.D y = (upd R w m (R.rs m)).D y := fun y => by
      show _ = if y = w.toNat then _ else _
      split
      · rename_i h; rw [h, hm]; rfl
      · rfl
    (repeat' first | refine And.intro ?_ ?_ | exact xeC | fail)
    all_goals first
      | exact xmR
      | exact e3
      | (intro i hi; dsimp only; rw [mt_key (G := 5) (fun x => rfl), ← encMt_cong (R := R) (R' := upd R w m (R.rs m)) rfl hself])
      | exact fun x => by rw [← slG_cong (R := R) (R' := upd R w m (R.rs m)) hself]; exact slG_le
  rintro ⟨⟨r, hr, hW, hex, hrl, hrls⟩, c1, cl1, cf1⟩
  subst hw
  have hD1 : (upd R (R.M.getD k default).2 m r).D (R.M.getD k default).2.toNat = some ⟨m.nd, r.ex, m.rel, r.W, r.ck⟩ := if_pos rfl
  have hR1 := rnUpd (r := r) hR hk hm
  have he : encMt 8 (upd R (R.M.getD k default).2 m r) cf1 k = _ := mt_at (m := ⟨m.nd, r.ex, m.rel, r.W, r.ck⟩) hD1
  unfold mtc5 at he
  have hs := slG_at (cf := cf1) hD1
  have hWl : r.W.length ≤ 1000000 := by omega
  repeat' (first | (fail_if_success (with_reducible refine xstp ?_)); first | ((with_reducible refine And.intro ?_ ?_); focus exact xoC) | (with_reducible intro hc; (try simp only [capsP, and_true] at hc); (try exact xfC)) | ((fail_if_success (with_reducible first | refine xgon ?_ | intro _)); (conv => whnf); (fail_if_success (fail_if_success (with_reducible first | refine xstp ?_ | refine xgon ?_ | intro _)))))
  rw [he]
  repeat' (first | (fail_if_success (with_reducible refine xstp ?_)); first | ((fail_if_success (with_reducible first | refine xgon ?_ | intro _)); (conv => whnf); (fail_if_success (fail_if_success (with_reducible first | refine xstp ?_ | refine xgon ?_ | intro _)))))
  refine cH29D1 (σ := [.whole 2, .whole 8]) (nl := []) (rrslot (upd R (R.M.getD k default).2 m r) cM cf1 k ⟨m.nd, r.ex, m.rel, r.W, r.ck⟩ r.ex hk hD1 hWl) ?_ (hle := by (repeat' first | refine And.intro ?_ ?_ | exact xeC | fail) <;> exact xmR)
  rcases fnd_get (W := r.W) (n := r.ex) hW.nd with ⟨h1, h2⟩ | ⟨i, h1, hi, h3, h2⟩
  · rw [h1, show idxM none = (-1 : Int) from rfl]
    rintro v h' ⟨rfl, rfl⟩ hcaps
    refine rH29D0 ?_
    repeat' (first | (fail_if_success (with_reducible refine xstp ?_)); first | ((with_reducible refine And.intro (fun (hb : _ = true) => ?_) (fun (hb : _ = false) => ?_)) <;> replace hb := xnC hb <;> (try first | exact xfC | exact bff hb (by assumption) | exact bff (by assumption) hb)) | ((fail_if_success (with_reducible first | refine xgon ?_ | intro _)); (conv => whnf); (fail_if_success (fail_if_success (with_reducible first | refine xstp ?_ | refine xgon ?_ | intro _)))))
    have hrF : r = F := by rw [← hr, mv_none h2]
    subst hrF
    refine FinK.mk ⟨[0, 1, 2, 3, 4, 5, 6, 7, 8], _, _, ⟨c1, cl1, cf1, rfl, rfl⟩, ?_⟩
    (repeat' first | refine And.intro ?_ ?_ | exact xeC | fail)
    all_goals first
      | exact xmR
      | (intro i hi; dsimp only; rw [mt_key (G := 8) (fun x => rfl), mt_key (G := 8) (fun x => rfl)])
      | skip
    all_goals trace_state
  · rw [h1, show idxM (some i) = (i : Nat) from rfl]
    have e5 : 0 + ((i : Nat) : Int).toNat = i := by omega
    have hif : ∀ (A : List C) (B : Nat → List C), (fun i => if i = k then A else B i) k = A := fun A B => if_pos rfl
    rintro v h' ⟨rfl, rfl⟩ hcaps
    refine rH29D0 ?_
    rw [mt_fun (G := 8) (fun x => rfl)]
    repeat' (first | (fail_if_success (with_reducible refine xstp ?_)); first | ((with_reducible refine And.intro (fun (hb : _ = true) => ?_) (fun (hb : _ = false) => ?_)) <;> replace hb := xnC hb <;> (try first | exact xfC | exact bff hb (by assumption) | exact bff (by assumption) hb)) | ((with_reducible refine And.intro ?_ ?_); focus exact xoC) | ((fail_if_success (with_reducible first | refine xgon ?_ | intro _)); (conv => whnf); (fail_if_success (fail_if_success (with_reducible first | refine xstp ?_ | refine xgon ?_ | intro _)))))
    rw [he]
    repeat' (first | (fail_if_success (with_reducible refine xstp ?_)); first | ((fail_if_success (with_reducible first | refine xgon ?_ | intro _)); (conv => whnf); (fail_if_success (fail_if_success (with_reducible first | refine xstp ?_ | refine xgon ?_ | intro _)))))
    refine ManyK.mk ⟨slR r.W (cf1 (R.M.getD k default).2.toNat), hs, ?_⟩
    repeat' (first | (fail_if_success (with_reducible refine xstp ?_)); first | ((with_reducible refine And.intro ?_ ?_); focus exact xoC) | ((fail_if_success (with_reducible first | refine xgon ?_ | intro _)); (conv => whnf); (fail_if_success (fail_if_success (with_reducible first | refine xstp ?_ | refine xgon ?_ | intro _)))))
    refine ManyK.mk ⟨slR r.W (cf1 (R.M.getD k default).2.toNat), hs, ?_⟩
    repeat' (first | (fail_if_success (with_reducible refine xstp ?_)); first | ((with_reducible refine And.intro ?_ ?_); focus exact xoC) | ((fail_if_success (with_reducible first | refine xgon ?_ | intro _)); (conv => whnf); (fail_if_success (fail_if_success (with_reducible first | refine xstp ?_ | refine xgon ?_ | intro _)))))
    rw [he]
    repeat' (first | (fail_if_success (with_reducible refine xstp ?_)); first | ((with_reducible refine And.intro ?_ ?_); focus exact xoC) | ((fail_if_success (with_reducible first | refine xgon ?_ | intro _)); (conv => whnf); (fail_if_success (fail_if_success (with_reducible first | refine xstp ?_ | refine xgon ?_ | intro _)))))
    rw [he]
    repeat' (first | (fail_if_success (with_reducible refine xstp ?_)); first | ((with_reducible refine And.intro ?_ ?_); focus exact xoC) | ((fail_if_success (with_reducible first | refine xgon ?_ | intro _)); (conv => whnf); (fail_if_success (fail_if_success (with_reducible first | refine xstp ?_ | refine xgon ?_ | intro _)))))
    rw [hif]
    repeat' (first | (fail_if_success (with_reducible refine xstp ?_)); first | ((fail_if_success (with_reducible first | refine xgon ?_ | intro _)); (conv => whnf); (fail_if_success (fail_if_success (with_reducible first | refine xstp ?_ | refine xgon ?_ | intro _)))))
    rw [e5]
    have hm2 : (updW (upd R (R.M.getD k default).2 m r) (R.M.getD k default).2 ⟨m.nd, r.ex + 1, m.rel, r.W, r.ck⟩).D (R.M.getD k default).2.toNat = some ⟨m.nd, r.ex + 1, m.rel, r.W, r.ck⟩ := if_pos rfl
    have hR2 := rnUpdW (m2 := ⟨m.nd, r.ex + 1, m.rel, r.W, r.ck⟩) hR1 hk hD1
    have hsm := slG_same (cf := cf1) (m2 := ⟨m.nd, r.ex + 1, m.rel, r.W, r.ck⟩) hD1 rfl
    have hrow := fun i hi => mt_upd (F := 1) (G := 8) (N := 10) (σ := [.whole 2, .whole 8]) (cf := cf1) (m := ⟨m.nd, r.ex + 1, m.rel, r.W, r.ck⟩) (c := cf1 (R.M.getD k default).2.toNat) (L := [.i .i64 (R.M.getD k default).2, .i .i64 m.nd, .b m.rel, .i .i64 (r.ex + 1), .sl 8 (R.M.getD k default).2.toNat 6 0 r.W.length (cf1 (R.M.getD k default).2.toNat)]) hR1 hk (fun x _ => rfl) rfl i hi
    refine cH29D1 (σ := [.whole 2, .whole 8]) (nl := []) (rrcut (updW (upd R (R.M.getD k default).2 m r) (R.M.getD k default).2 ⟨m.nd, r.ex + 1, m.rel, r.W, r.ck⟩) cM (updC cf1 (R.M.getD k default).2 (cf1 (R.M.getD k default).2.toNat)) k ⟨m.nd, r.ex + 1, m.rel, r.W, r.ck⟩ (r.ex + 1) hR2 hk hm2 hWl) ?_ (hle := by (repeat' first | refine And.intro ?_ ?_ | exact xeC | fail) <;> (first | exact xmR | exact hrow | (intro x; rw [hsm]; exact slG_le) | skip))
    rintro v h' ⟨c2, rfl, rfl⟩ hcaps
    obtain ⟨f1, f2, f3⟩ := mv_next hr hW hex hrl hrls hi h3 hi h3
    have hch : ∀ y, (updW (updW (upd R (R.M.getD k default).2 m r) (R.M.getD k default).2 ⟨m.nd, r.ex + 1, m.rel, r.W, r.ck⟩) ((updW (upd R (R.M.getD k default).2 m r) (R.M.getD k default).2 ⟨m.nd, r.ex + 1, m.rel, r.W, r.ck⟩).M.getD k default).2 (cutM (r.ex + 1) ⟨m.nd, r.ex + 1, m.rel, r.W, r.ck⟩)).D y = (upd R (R.M.getD k default).2 m (mvStep q (R.M.getD k default).2 (r.W.getD i default).2.2 r)).D y := chain_eq (q := q) (m := m) (s := (r.W.getD i default).2.2) (R := R) (w := (R.M.getD k default).2) hW
    generalize updC (updC cf1 (R.M.getD k default).2 (cf1 (R.M.getD k default).2.toNat)) ((updW (upd R (R.M.getD k default).2 m r) (R.M.getD k default).2 ⟨m.nd, r.ex + 1, m.rel, r.W, r.ck⟩).M.getD k default).2 c2 = cf3 at *
    have hD3 : (upd R (R.M.getD k default).2 m (mvStep q (R.M.getD k default).2 (r.W.getD i default).2.2 r)).D (R.M.getD k default).2.toNat = some ⟨m.nd, r.ex + 1, m.rel, wne r.ex r.W, r.ck⟩ := if_pos rfl
    have he3 : encMt 10 (upd R (R.M.getD k default).2 m (mvStep q (R.M.getD k default).2 (r.W.getD i default).2.2 r)) cf3 k = _ := mt_at (m := ⟨m.nd, r.ex + 1, m.rel, wne r.ex r.W, r.ck⟩) hD3
    unfold mtc5 at he3
    refine rH29D0 ?_
    rw [mt_fun (G := 10) (fun x => rfl)]
    rw [encMt_cong (R := (updW (updW (upd R (R.M.getD k default).2 m r) (R.M.getD k default).2 ⟨m.nd, r.ex + 1, m.rel, r.W, r.ck⟩) ((updW (upd R (R.M.getD k default).2 m r) (R.M.getD k default).2 ⟨m.nd, r.ex + 1, m.rel, r.W, r.ck⟩).M.getD k default).2 (cutM (r.ex + 1) ⟨m.nd, r.ex + 1, m.rel, r.W, r.ck⟩))) (R' := (upd R (R.M.getD k default).2 m (mvStep q (R.M.getD k default).2 (r.W.getD i default).2.2 r))) rfl hch, slG_cong (R := (updW (updW (upd R (R.M.getD k default).2 m r) (R.M.getD k default).2 ⟨m.nd, r.ex + 1, m.rel, r.W, r.ck⟩) ((updW (upd R (R.M.getD k default).2 m r) (R.M.getD k default).2 ⟨m.nd, r.ex + 1, m.rel, r.W, r.ck⟩).M.getD k default).2 (cutM (r.ex + 1) ⟨m.nd, r.ex + 1, m.rel, r.W, r.ck⟩))) (R' := (upd R (R.M.getD k default).2 m (mvStep q (R.M.getD k default).2 (r.W.getD i default).2.2 r))) hch]
    repeat' (first | (fail_if_success (with_reducible refine xstp ?_)); first | ((with_reducible refine And.intro (fun (hb : _ = true) => ?_) (fun (hb : _ = false) => ?_)) <;> replace hb := xnC hb <;> (try first | exact xfC | exact bff hb (by assumption) | exact bff (by assumption) hb)) | ((with_reducible refine And.intro ?_ ?_); focus exact xoC) | ((fail_if_success (with_reducible first | refine xgon ?_ | intro _)); (conv => whnf); (fail_if_success (fail_if_success (with_reducible first | refine xstp ?_ | refine xgon ?_ | intro _)))))
    · have el : (mvStep q (R.M.getD k default).2 (r.W.getD i default).2.2 r).l = newS q r.l (r.W.getD i default).2.2.x := by simp only [mvStep, hb, if_true]
      have es : (mvStep q (R.M.getD k default).2 (r.W.getD i default).2.2 r).ls = dlvL q r.l r.ls (r.W.getD i default).2.2.x := by simp only [mvStep, hb, if_true]
      refine cH29D1 (σ := [.whole 0, .whole 1, .name 2, .whole 6, .whole 7]) (nl := []) (rrdeliver id q R.M.length cM r.l c1 r.ls cl1 (r.W.getD i default).2.2.x (by omega) (by omega) hq) ?_
      rintro v h' ⟨rfl, c4, cl4, rfl⟩ hcaps
      refine rH29D0 ?_
      repeat' (first | (fail_if_success (with_reducible refine xstp ?_)); first | ((with_reducible refine And.intro (fun (hb : _ = true) => ?_) (fun (hb : _ = false) => ?_)) <;> replace hb := xnC hb <;> (try first | exact xfC | exact bff hb (by assumption) | exact bff (by assumption) hb)) | ((fail_if_success (with_reducible first | refine xgon ?_ | intro _)); (conv => whnf); (fail_if_success (fail_if_success (with_reducible first | refine xstp ?_ | refine xgon ?_ | intro _)))))
      rw [← el, ← es]
      refine ⟨⟨⟨mvStep q (R.M.getD k default).2 (r.W.getD i default).2.2 r, f3⟩, c4, cl4, cf3⟩, [0, 1, 2, 3, 4, 5, 11, 12, 10], f1.2, ?_⟩
      (repeat' first | refine And.intro ?_ ?_ | exact xeC | fail)
      all_goals first
        | exact xmR
        | (intro i' hi'; dsimp only; rw [mt_key (G := 10) (fun x => rfl)]; done)
        | exact fun x => slG_le
        | skip
      all_goals trace_state
    · rename_i hb0
      have el : (mvStep q (R.M.getD k default).2 (r.W.getD i default).2.2 r).l = r.l := by simp only [mvStep, hb, show ¬ (3 : Int) = 1 by decide, if_false]
      have es : (mvStep q (R.M.getD k default).2 (r.W.getD i default).2.2 r).ls = r.ls ++ [((R.M.getD k default).2, r.ex)] := by simp only [mvStep, hb, show ¬ (3 : Int) = 1 by decide, if_false, if_true]
      rw [he3]
      repeat' (first | (fail_if_success (with_reducible refine xstp ?_)); first | ((fail_if_success (with_reducible first | refine xgon ?_ | intro _)); (conv => whnf); (fail_if_success (fail_if_success (with_reducible first | refine xstp ?_ | refine xgon ?_ | intro _)))))
      rw [h3]
      refine cH29D1 (σ := [.whole 0, .name 1, .name 2, .whole 6]) (nl := []) (rrlose id q R.M.length cM r.ls cl1 (R.M.getD k default).2 r.ex (by omega)) ?_
      rintro v h' ⟨rfl, cl4, rfl⟩ hcaps
      refine rH29D0 ?_
      repeat' (first | (fail_if_success (with_reducible refine xstp ?_)); first | ((fail_if_success (with_reducible first | refine xgon ?_ | intro _)); (conv => whnf); (fail_if_success (fail_if_success (with_reducible first | refine xstp ?_ | refine xgon ?_ | intro _)))))
      refine ⟨⟨⟨mvStep q (R.M.getD k default).2 (r.W.getD i default).2.2 r, f3⟩, c1, cl4, cf3⟩, [0, 1, 2, 3, 4, 5, 11, 7, 10], f1.2, ?_⟩
      rw [← el, ← es]
      (repeat' first | refine And.intro ?_ ?_ | exact xeC | fail)
      all_goals first
        | exact xmR
        | (intro i' hi'; dsimp only; rw [mt_key (G := 10) (fun x => rfl)]; done)
        | exact fun x => slG_le
        | skip
      all_goals trace_state
    · rename_i hb0
      have el : (mvStep q (R.M.getD k default).2 (r.W.getD i default).2.2 r).l = r.l := by simp only [mvStep, hb, hb0, if_false]
      have es : (mvStep q (R.M.getD k default).2 (r.W.getD i default).2.2 r).ls = r.ls := by simp only [mvStep, hb, hb0, if_false]
      refine ⟨⟨⟨mvStep q (R.M.getD k default).2 (r.W.getD i default).2.2 r, f3⟩, c1, cl1, cf3⟩, [0, 1, 2, 3, 4, 5, 6, 7, 10], f1.2, ?_⟩
      rw [← el, ← es]
      (repeat' first | refine And.intro ?_ ?_ | exact xeC | fail)
      all_goals first
        | exact xmR
        | (intro i' hi'; dsimp only; rw [mt_key (G := 10) (fun x => rfl)]; done)
        | exact fun x => slG_le
        | skip
      all_goals trace_state
end Go.Proofs.Ytgcofipbdidhmaa

