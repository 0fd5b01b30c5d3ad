/- Part 4 of the texts that a walk of this program rests on: an abstract machine, its soundness, contracts of functions. No statement of the seat is proved in this file. -/
import Derived.Test.YteifgkldagnodaaGreatZ3
namespace Go.Proofs.YteifgkldagnodaaGreat
open Go.X
set_option linter.unusedSimpArgs false
set_option linter.unusedVariables false
def encRp (e : Pn) : List C := [.i .i64 e.id, .i .i64 e.t, .i .i64 e.p.x, .i .i64 e.p.y]
structure Rx where
  (sp ac br h2 mg tmo life st : Int)
abbrev refF (x : Rx) (hu ke : Int) (f n c : Nat) : Ck := .cells true [.i .i64 x.sp, .i .i64 x.ac, .i .i64 x.br, .i .i64 x.h2, .i .i64 x.mg, .i .i64 x.tmo, .i .i64 hu, .i .i64 ke, .sl f 0 4 0 n c, .i .i64 x.life, .i .i64 x.st]
abbrev refC (x : Rx) (hu ke : Int) (n c : Nat) : Ck := refF x hu ke 1 n c
abbrev refR (R : List Pn) (c : Nat) : Ck := .row true false 79 4 R.length c (rowOf encRp R)
abbrev refB (x : Rx) (hu ke : Int) (R : List Pn) (c : Nat) : List Fam := [.one (refC x hu ke R.length c), .one (refR R c)]
def plc (R : List Pn) (id : Int) : Int := match fndP R id with | some i => (i : Nat) | none => -1
theorem plc_some {R : List Pn} {id : Int} {i : Nat} (h : fndP R id = some i) : plc R id = (i : Nat) := by unfold plc; rw [h]
theorem plc_none {R : List Pn} {id : Int} (h : fndP R id = none) : plc R id = -1 := by unfold plc; rw [h]
theorem fndP_first {M : List Pn} {id : Int} {i : Nat} (hi : i < M.length) (hk : (M.getD i default).id = id) (hn : ∀ j, j < i → (M.getD j default).id ≠ id) : fndP M id = some i := by
  unfold fndP
  rw [List.findIdx?_eq_some_iff_getElem]
  refine ⟨hi, by simp only [decide_eq_true_eq]; rw [← getD_at hi]; exact hk, fun j hj => ?_⟩
  have := hn j hj
  rw [getD_at (by omega)] at this
  simpa using this
set_option maxRecDepth 10000 in
theorem cNewR (hu ke : Int) :
    Ctr Tryz.prog 26 [.c (.i .i64 hu), .c (.i .i64 ke)] [] fun v h => v = (if okN hu ke then .t [.a [.i .i64 hu, .i .i64 ke, .nils], .c (.i .i64 0)] else .t [.a [.i .i64 0, .i .i64 0, .nils], .c (.i .i64 4)]) ∧ h = [] := by
  refine Ctr.mk' tbv mixed Tryz.func26 rfl rfl rfl (fun _ _ => by kernel_rfl) (by kernel_rfl) (by rfl) (by rfl) (by (repeat' first | refine And.intro ?_ ?_ | exact xeC | fail)) ?_
  repeat' (first | (fail_if_success (with_reducible refine xstp ?_)); first | ((with_reducible refine And.intro (fun (hb : _ = true) => ?_) (fun (hb : _ = false) => ?_)) <;> replace hb := xnC hb <;> (try first | exact xfC | exact bff hb (by assumption) | exact bff (by assumption) hb)) | (with_reducible refine Both.mk ?_ ?_) | ((with_reducible refine And.intro ?_ ?_); focus exact xoC) | ((with_reducible refine Or.inl ⟨?_, ?_, ?_⟩); (focus rfl); focus exact xaC) | ((with_reducible refine xwB ?_ ?_); focus exact xaC) | ((with_reducible refine xwC ?_ ?_); focus exact xaC) | ((with_reducible refine xwD ?_ ?_); focus exact xaC) | ((with_reducible refine xwE ?_ ?_); focus exact xaC) | (with_reducible intro hc; (try simp only [capsP, and_true] at hc); (try exact xfC)) | ((fail_if_success (with_reducible first | refine xgon ?_ | intro _)); (conv => whnf); (fail_if_success (fail_if_success (with_reducible first | refine xstp ?_ | refine Both.mk ?_ ?_ | refine xgon ?_ | intro _)))))
  all_goals first
    | (rw [if_pos (by unfold okN; omega)]
       refine FinK.mk ⟨[], _, _, ⟨rfl, rfl⟩, ?_⟩; (repeat' first | refine And.intro ?_ ?_ | exact xeC | fail)
       done)
    | (rw [if_neg (by unfold okN; omega)]
       refine FinK.mk ⟨[], _, _, ⟨rfl, rfl⟩, ?_⟩; (repeat' first | refine And.intro ?_ ?_ | exact xeC | fail)
       done)
set_option maxRecDepth 10000 in
theorem cplace (x : Rx) (hu ke : Int) (R : List Pn) (c : Nat) (id : Int) (hR : R.length ≤ 8) :
    Ctr Tryz.prog 51 [.c (.p 0 0 6), .c (.i .i64 id)] (refB x hu ke R c) fun v h => v = .c (.i .i64 (plc R id)) ∧ h = refB x hu ke R c := by
  refine Ctr.mk' tbv mixed Tryz.func51 rfl rfl rfl (fun _ _ => by kernel_rfl) (by kernel_rfl) (by rfl) (by rfl) (by (repeat' first | refine And.intro ?_ ?_ | exact xeC | fail)) ?_
  repeat' (first | (fail_if_success (with_reducible refine xstp ?_)); first | ((with_reducible refine And.intro (fun (hb : _ = true) => ?_) (fun (hb : _ = false) => ?_)) <;> replace hb := xnC hb <;> (try first | exact xfC | exact bff hb (by assumption) | exact bff (by assumption) hb)) | (with_reducible refine Both.mk ?_ ?_) | ((with_reducible refine And.intro ?_ ?_); focus exact xoC) | ((with_reducible refine Or.inl ⟨?_, ?_, ?_⟩); (focus rfl); focus exact xaC) | ((with_reducible refine xwB ?_ ?_); focus exact xaC) | ((with_reducible refine xwC ?_ ?_); focus exact xaC) | ((with_reducible refine xwD ?_ ?_); focus exact xaC) | ((with_reducible refine xwE ?_ ?_); focus exact xaC) | (with_reducible intro hc; (try simp only [capsP, and_true] at hc); (try exact xfC)) | ((fail_if_success (with_reducible first | refine xgon ?_ | intro _)); (conv => whnf); (fail_if_success (fail_if_success (with_reducible first | refine xstp ?_ | refine Both.mk ?_ ?_ | refine xgon ?_ | intro _)))))
  refine LoopK.mk' {i : Nat // i ≤ R.length ∧ ∀ j, j < i → (R.getD j default).id ≠ id}
    (fun ⟨i, _⟩ => ⟨[(0, .c (.p 0 0 6)), (1, .c (.i .i64 id)), (5, .c (.i .i64 (i : Nat)))], refB x hu ke R c⟩) (fun k => R.length - k.1)
    ⟨⟨0, Nat.zero_le _, by intro j h; omega⟩, [0, 1], ?_⟩ ?_
  · (repeat' first | refine And.intro ?_ ?_ | exact xeC | fail)
  rintro ⟨i, hi, hno⟩
  repeat' (first | (fail_if_success (with_reducible refine xstp ?_)); first | ((with_reducible refine And.intro (fun (hb : _ = true) => ?_) (fun (hb : _ = false) => ?_)) <;> replace hb := xnC hb <;> (try first | exact xfC | exact bff hb (by assumption) | exact bff (by assumption) hb)) | (with_reducible refine Both.mk ?_ ?_) | ((with_reducible refine And.intro ?_ ?_); focus exact xoC) | ((with_reducible refine Or.inl ⟨?_, ?_, ?_⟩); (focus rfl); focus exact xaC) | ((with_reducible refine xwB ?_ ?_); focus exact xaC) | ((with_reducible refine xwC ?_ ?_); focus exact xaC) | ((with_reducible refine xwD ?_ ?_); focus exact xaC) | ((with_reducible refine xwE ?_ ?_); focus exact xaC) | (with_reducible intro hc; (try simp only [capsP, and_true] at hc); (try exact xfC)) | ((fail_if_success (with_reducible first | refine xgon ?_ | intro _)); (conv => whnf); (fail_if_success (fail_if_success (with_reducible first | refine xstp ?_ | refine Both.mk ?_ ?_ | refine xgon ?_ | intro _)))))
  · rw [plc_some (fndP_first (by omega) hb hno)]
    refine FinK.mk ⟨[0, 1], _, _, ⟨rfl, rfl⟩, ?_⟩; (repeat' first | refine And.intro ?_ ?_ | exact xeC | fail)
  · refine ⟨⟨i + 1, by omega, fun j hj => ?_⟩, [0, 1], by simp only; omega, ?_⟩
    · rcases (by omega : j < i ∨ j = i) with h | rfl
      · exact hno j h
      · exact hb
    · (repeat' first | refine And.intro ?_ ?_ | exact xeC | fail)
  · rw [plc_none (fndP_none (fun j hj => hno j (by omega)))]
    refine FinK.mk ⟨[0, 1], _, _, ⟨rfl, rfl⟩, ?_⟩; (repeat' first | refine And.intro ?_ ?_ | exact xeC | fail)
set_option maxRecDepth 10000 in
theorem cAgeR (e : Pn) (t : Int) (ha : okT e.t) (ht : okT t) :
    Ctr Tryz.prog 56 [.a (encRp e), .c (.i .i64 t)] [] fun v h => v = .c (.i .i64 (age e.t t)) ∧ h = [] := by
  unfold okT at ha ht
  refine Ctr.mk' tbv mixed Tryz.func56 rfl rfl rfl (fun _ _ => by kernel_rfl) (by kernel_rfl) (by rfl) (by rfl) (by (repeat' first | refine And.intro ?_ ?_ | exact xeC | fail)) ?_
  repeat' (first | (fail_if_success (with_reducible refine xstp ?_)); first | ((with_reducible refine And.intro (fun (hb : _ = true) => ?_) (fun (hb : _ = false) => ?_)) <;> replace hb := xnC hb <;> (try first | exact xfC | exact bff hb (by assumption) | exact bff (by assumption) hb)) | (with_reducible refine Both.mk ?_ ?_) | ((with_reducible refine And.intro ?_ ?_); focus exact xoC) | ((with_reducible refine Or.inl ⟨?_, ?_, ?_⟩); (focus rfl); focus exact xaC) | ((with_reducible refine xwB ?_ ?_); focus exact xaC) | ((with_reducible refine xwC ?_ ?_); focus exact xaC) | ((with_reducible refine xwD ?_ ?_); focus exact xaC) | ((with_reducible refine xwE ?_ ?_); focus exact xaC) | (with_reducible intro hc; (try simp only [capsP, and_true] at hc); (try exact xfC)) | ((fail_if_success (with_reducible first | refine xgon ?_ | intro _)); (conv => whnf); (fail_if_success (fail_if_success (with_reducible first | refine xstp ?_ | refine Both.mk ?_ ?_ | refine xgon ?_ | intro _)))))
  · refine FinK.mk ⟨[], _, _, ⟨rfl, rfl⟩, ?_⟩; (repeat' first | refine And.intro ?_ ?_ | exact xeC | fail)
    all_goals (unfold age; omega)
  · refine FinK.mk ⟨[], _, _, ⟨rfl, rfl⟩, ?_⟩; (repeat' first | refine And.intro ?_ ?_ | exact xeC | fail)
    all_goals (unfold age; omega)
def slotR (R : List Pn) (id t : Int) (p : Pt) (n : Int) : List Pn := if n = id then [⟨0, id, t, p⟩] else match fndP R n with | some i => [R.getD i default] | none => []
def accR (R : List Pn) (id t : Int) (p : Pt) (k : Nat) : List Pn := (List.range k).flatMap fun i => slotR R id t p ((i : Nat) + 1 : Int)
theorem accR_succ (R : List Pn) (id t : Int) (p : Pt) (k : Nat) : accR R id t p (k + 1) = accR R id t p k ++ slotR R id t p ((k : Nat) + 1 : Int) := by
  unfold accR
  rw [List.range_succ, List.flatMap_append]
  simp
theorem slotR_le (R : List Pn) (id t : Int) (p : Pt) (n : Int) : (slotR R id t p n).length ≤ 1 := by
  unfold slotR
  split
  · exact Nat.le_refl _
  · split <;> simp
theorem accR_le (R : List Pn) (id t : Int) (p : Pt) : ∀ k, (accR R id t p k).length ≤ k
  | 0 => by simp [accR]
  | k + 1 => by
    rw [accR_succ, List.length_append]
    have := accR_le R id t p k
    have := slotR_le R id t p ((k : Nat) + 1 : Int)
    omega
def seeR (R : List Pn) (id t : Int) (p : Pt) : List Pn := if seeE R id t p ≠ 0 then R else accR R id t p 8
theorem rH51zeA0 {σ : List Sg} {H h' : List Fam} {v : T} {K : T → List Fam → Prop} {H' : List Fam} {v' : T} {N : Nat} (hk : K v' H') (hN : H.length = N := by (try simp only [↓List.length_cons, ↓List.length_nil, Nat.reduceAdd]) <;> rfl) (h : givesF σ N H σ h' = some H' := by (try simp (maxSteps := 1000000) only [givesF, setF, updF, Fam.zeroth, Fam.rk, Ck.rk, C.rk, E.rk, T.rk, key, List.map_cons, List.map_nil, List.cons_append, List.nil_append, List.length_cons, List.length_nil, Option.map_some, Option.bind_some, Nat.reduceAdd, Nat.zero_add, Nat.add_zero, Nat.add_sub_cancel_left, Int.toNat_natCast, reps, List.all_cons, List.all_nil, C.flat, List.append_eq, Bool.not_true, Bool.and_true, Bool.or_false, Bool.or_self, Bool.not_false, List.append_nil, Bool.and_self, encPt]) <;> rfl) (hv : v.rk σ N = v' := by (try simp only [givesF, setF, updF, Fam.zeroth, Fam.rk, Ck.rk, C.rk, E.rk, T.rk, key, List.map_cons, List.map_nil, List.cons_append, List.nil_append, List.length_cons, List.length_nil, Option.map_some, Option.bind_some, Nat.reduceAdd, Nat.zero_add, Nat.add_zero, Nat.add_sub_cancel_left, Int.toNat_natCast, reps, List.all_cons, List.all_nil, C.flat, List.append_eq, Bool.not_true, Bool.and_true, Bool.or_false, Bool.or_self, Bool.not_false, List.append_nil, Bool.and_self, encPt]) <;> rfl) : RetG σ H h' v K := ret_mk3 hN h hv hk
set_option maxRecDepth 20000 in
set_option maxHeartbeats 1000000 in
theorem cSeeR (x : Rx) (hu ke : Int) (R : List Pn) (c : Nat) (id t : Int) (p : Pt) (hR : R.length ≤ 8) :
    Ctr Tryz.prog 28 [.c (.p 0 0 6), .c (.i .i64 id), .c (.i .i64 t), .a (encPt p)] (refB x hu ke R c)
      fun v h => ∃ c', v = .c (.i .i64 (seeE R id t p : Nat)) ∧ h = [.one (refF x hu ke 2 (seeR R id t p).length c'), .one .no, .one (refR (seeR R id t p) c')] := by
  refine Ctr.mk' tbv mixed Tryz.func28 rfl rfl rfl (fun _ _ => by kernel_rfl) (by kernel_rfl) (by rfl) (by rfl) (by (repeat' first | refine And.intro ?_ ?_ | exact xeC | fail)) ?_
  repeat' (first | (fail_if_success (with_reducible refine xstp ?_)); first | ((with_reducible refine And.intro (fun (hb : _ = true) => ?_) (fun (hb : _ = false) => ?_)) <;> replace hb := xnC hb <;> (try first | exact xfC | exact bff hb (by assumption) | exact bff (by assumption) hb)) | (with_reducible refine Both.mk ?_ ?_) | ((with_reducible refine And.intro ?_ ?_); focus exact xoC) | ((with_reducible refine Or.inl ⟨?_, ?_, ?_⟩); (focus rfl); focus exact xaC) | ((with_reducible refine xwB ?_ ?_); focus exact xaC) | ((with_reducible refine xwC ?_ ?_); focus exact xaC) | ((with_reducible refine xwD ?_ ?_); focus exact xaC) | ((with_reducible refine xwE ?_ ?_); focus exact xaC) | (with_reducible intro hc; (try simp only [capsP, and_true] at hc); (try exact xfC)) | ((fail_if_success (with_reducible first | refine xgon ?_ | intro _)); (conv => whnf); (fail_if_success (fail_if_success (with_reducible first | refine xstp ?_ | refine Both.mk ?_ ?_ | refine xgon ?_ | intro _)))))
  · skip
    have hE : seeE R id t p = 4 := if_pos (fun h => by omega)
    have hM : seeR R id t p = R := if_pos (by rw [hE]; decide)
    rw [hE, hM]
    refine FinK.mk ⟨[0, 1, 1], _, _, ⟨c, rfl, rfl⟩, ?_⟩
    (repeat' first | refine And.intro ?_ ?_ | exact xeC | fail)
  · skip
    have hE : seeE R id t p = 4 := if_pos (fun h => by omega)
    have hM : seeR R id t p = R := if_pos (by rw [hE]; decide)
    rw [hE, hM]
    refine FinK.mk ⟨[0, 1, 1], _, _, ⟨c, rfl, rfl⟩, ?_⟩
    (repeat' first | refine And.intro ?_ ?_ | exact xeC | fail)
  refine xcal (σ := []) (nl := []) (cTimeR t) ?_
  rintro v h' ⟨rfl, rfl⟩ hcaps
  refine rH51zeA0 ?_
  repeat' (first | (fail_if_success (with_reducible refine xstp ?_)); first | ((with_reducible refine And.intro (fun (hb : _ = true) => ?_) (fun (hb : _ = false) => ?_)) <;> replace hb := xnC hb <;> (try first | exact xfC | exact bff hb (by assumption) | exact bff (by assumption) hb)) | (with_reducible refine Both.mk ?_ ?_) | ((with_reducible refine And.intro ?_ ?_); focus exact xoC) | ((with_reducible refine Or.inl ⟨?_, ?_, ?_⟩); (focus rfl); focus exact xaC) | ((with_reducible refine xwB ?_ ?_); focus exact xaC) | ((with_reducible refine xwC ?_ ?_); focus exact xaC) | ((with_reducible refine xwD ?_ ?_); focus exact xaC) | ((with_reducible refine xwE ?_ ?_); focus exact xaC) | (with_reducible intro hc; (try simp only [capsP, and_true] at hc); (try exact xfC)) | ((fail_if_success (with_reducible first | refine xgon ?_ | intro _)); (conv => whnf); (fail_if_success (fail_if_success (with_reducible first | refine xstp ?_ | refine Both.mk ?_ ?_ | refine xgon ?_ | intro _)))))
  · skip
    have hE : seeE R id t p = 4 := if_pos (fun h => hb h.2.1)
    have hM : seeR R id t p = R := if_pos (by rw [hE]; decide)
    rw [hE, hM]
    refine FinK.mk ⟨[0, 1, 1], _, _, ⟨c, rfl, rfl⟩, ?_⟩
    (repeat' first | refine And.intro ?_ ?_ | exact xeC | fail)
  refine xcal (σ := []) (nl := []) (cReachesR p) ?_
  rintro v h' ⟨rfl, rfl⟩ hcaps
  refine rH51zeA0 ?_
  repeat' (first | (fail_if_success (with_reducible refine xstp ?_)); first | ((with_reducible refine And.intro (fun (hb : _ = true) => ?_) (fun (hb : _ = false) => ?_)) <;> replace hb := xnC hb <;> (try first | exact xfC | exact bff hb (by assumption) | exact bff (by assumption) hb)) | (with_reducible refine Both.mk ?_ ?_) | ((with_reducible refine And.intro ?_ ?_); focus exact xoC) | ((with_reducible refine Or.inl ⟨?_, ?_, ?_⟩); (focus rfl); focus exact xaC) | ((with_reducible refine xwB ?_ ?_); focus exact xaC) | ((with_reducible refine xwC ?_ ?_); focus exact xaC) | ((with_reducible refine xwD ?_ ?_); focus exact xaC) | ((with_reducible refine xwE ?_ ?_); focus exact xaC) | (with_reducible intro hc; (try simp only [capsP, and_true] at hc); (try exact xfC)) | ((fail_if_success (with_reducible first | refine xgon ?_ | intro _)); (conv => whnf); (fail_if_success (fail_if_success (with_reducible first | refine xstp ?_ | refine Both.mk ?_ ?_ | refine xgon ?_ | intro _)))))
  · skip
    have hE : seeE R id t p = 4 := if_pos (fun h => hb h.2.2)
    have hM : seeR R id t p = R := if_pos (by rw [hE]; decide)
    rw [hE, hM]
    refine FinK.mk ⟨[0, 1, 1], _, _, ⟨c, rfl, rfl⟩, ?_⟩
    (repeat' first | refine And.intro ?_ ?_ | exact xeC | fail)
  have hok : (1 ≤ id ∧ id ≤ 8) ∧ okT t ∧ okP p := ⟨by omega, by assumption, by assumption⟩
  refine xcal (σ := [.whole 0, .whole 1]) (nl := []) (cplace x hu ke R c id hR) ?_
  rintro v h' ⟨rfl, rfl⟩ hcaps
  rcases (by cases fndP R id <;> simp : (∃ i, fndP R id = some i) ∨ fndP R id = none) with ⟨i, hf⟩ | hf
  · have hil := (fndP_lt hf).1
    rw [plc_some hf]
    refine rH51zeA0 ?_
    repeat' (first | (fail_if_success (with_reducible refine xstp ?_)); first | ((with_reducible refine And.intro (fun (hb : _ = true) => ?_) (fun (hb : _ = false) => ?_)) <;> replace hb := xnC hb <;> (try first | exact xfC | exact bff hb (by assumption) | exact bff (by assumption) hb)) | (with_reducible refine Both.mk ?_ ?_) | ((with_reducible refine And.intro ?_ ?_); focus exact xoC) | ((with_reducible refine Or.inl ⟨?_, ?_, ?_⟩); (focus rfl); focus exact xaC) | ((with_reducible refine xwB ?_ ?_); focus exact xaC) | ((with_reducible refine xwC ?_ ?_); focus exact xaC) | ((with_reducible refine xwD ?_ ?_); focus exact xaC) | ((with_reducible refine xwE ?_ ?_); focus exact xaC) | (with_reducible intro hc; (try simp only [capsP, and_true] at hc); (try exact xfC)) | ((fail_if_success (with_reducible first | refine xgon ?_ | intro _)); (conv => whnf); (fail_if_success (fail_if_success (with_reducible first | refine xstp ?_ | refine Both.mk ?_ ?_ | refine xgon ?_ | intro _)))))
    · have hE : seeE R id t p = 17 := by rw [see_in hok, hf]; exact if_pos (by simpa using hb)
      have hM : seeR R id t p = R := if_pos (by rw [hE]; decide)
      rw [hE, hM]
      refine FinK.mk ⟨[0, 1, 1], _, _, ⟨c, rfl, rfl⟩, ?_⟩
      (repeat' first | refine And.intro ?_ ?_ | exact xeC | fail)
    · have hE : seeE R id t p = 0 := by rw [see_in hok, hf]; exact if_neg (by omega)
      have hM : seeR R id t p = accR R id t p 8 := if_neg (by rw [hE]; decide)
      rw [hE, hM]
      refine LoopK.mk' {q : Nat × Nat // q.1 ≤ 8}
        (fun ⟨(k, c2), _⟩ => ⟨[(0, .c (.p 0 0 6)), (1, .c (.i .i64 id)), (2, .c (.i .i64 t)), (7, .c (.p 2 0 0)), (10, .c (.sl 3 0 4 0 (accR R id t p k).length c2)), (11, .c (.i .i64 ((k : Nat) + 1 : Int)))],
          [.one (refC x hu ke R.length c), .one (refR R c), .one (.cells true (encPt p)), .one (refR (accR R id t p k) c2)]⟩) (fun q => 8 - q.1.1)
        ⟨⟨(0, 0), Nat.zero_le _⟩, [0, 1, 2, 99], ?_⟩ ?_
      · (repeat' first | refine And.intro ?_ ?_ | exact xeC | fail)
        all_goals (intro i hi; exact absurd hi (Nat.not_lt_zero i))
      rintro ⟨⟨k, c2⟩, hk⟩
      simp only at hk
      have hal := accR_le R id t p k
      have hac := accR_succ R id t p k
      repeat' (first | (fail_if_success (with_reducible refine xstp ?_)); first | ((with_reducible refine And.intro (fun (hb : _ = true) => ?_) (fun (hb : _ = false) => ?_)) <;> replace hb := xnC hb <;> (try first | exact xfC | exact bff hb (by assumption) | exact bff (by assumption) hb)) | (with_reducible refine Both.mk ?_ ?_) | ((with_reducible refine And.intro ?_ ?_); focus exact xoC) | ((with_reducible refine Or.inl ⟨?_, ?_, ?_⟩); (focus rfl); focus exact xaC) | ((with_reducible refine xwB ?_ ?_); focus exact xaC) | ((with_reducible refine xwC ?_ ?_); focus exact xaC) | ((with_reducible refine xwD ?_ ?_); focus exact xaC) | ((with_reducible refine xwE ?_ ?_); focus exact xaC) | (with_reducible intro hc; (try simp only [capsP, and_true] at hc); (try exact xfC)) | ((fail_if_success (with_reducible first | refine xgon ?_ | intro _)); (conv => whnf); (fail_if_success (fail_if_success (with_reducible first | refine xstp ?_ | refine Both.mk ?_ ?_ | refine xgon ?_ | intro _)))))
      · rename_i c3
        rw [show slotR R id t p ((k : Nat) + 1 : Int) = [⟨0, id, t, p⟩] from if_pos hb] at hac
        refine ⟨⟨(k + 1, c3), by simp only; omega⟩, [0, 1, 2, 5], by simp only; omega, ?_⟩
        (repeat' first | refine And.intro ?_ ?_ | exact xeC | fail)
        all_goals try rw [hac]
        all_goals first | omega | (simp only [List.length_append, List.length_singleton]; done) | (rw [List.length_append, List.length_singleton]; omega) | (intro i hi; (first | refine app_rowG _ _ _ _ ?_ i hi | refine app_row _ _ _ ?_ i hi); first | rfl | (simp only [Int.toNat_natCast, Nat.zero_add]; rfl))
      · have hneq := hb
        refine xcal (σ := [.whole 0, .whole 1]) (nl := []) (cplace x hu ke R c ((k : Nat) + 1 : Int) hR) ?_
        rintro v h' ⟨rfl, rfl⟩ hcaps
        rcases (by cases fndP R ((k : Nat) + 1 : Int) <;> simp : (∃ i, fndP R ((k : Nat) + 1 : Int) = some i) ∨ fndP R ((k : Nat) + 1 : Int) = none) with ⟨j, hfj⟩ | hfj
        · have hjl := (fndP_lt hfj).1
          rw [plc_some hfj]
          rw [show slotR R id t p ((k : Nat) + 1 : Int) = [R.getD j default] by unfold slotR; rw [if_neg hneq, hfj]] at hac
          refine rH51zeA0 ?_
          repeat' (first | (fail_if_success (with_reducible refine xstp ?_)); first | ((with_reducible refine And.intro (fun (hb : _ = true) => ?_) (fun (hb : _ = false) => ?_)) <;> replace hb := xnC hb <;> (try first | exact xfC | exact bff hb (by assumption) | exact bff (by assumption) hb)) | (with_reducible refine Both.mk ?_ ?_) | ((with_reducible refine And.intro ?_ ?_); focus exact xoC) | ((with_reducible refine Or.inl ⟨?_, ?_, ?_⟩); (focus rfl); focus exact xaC) | ((with_reducible refine xwB ?_ ?_); focus exact xaC) | ((with_reducible refine xwC ?_ ?_); focus exact xaC) | ((with_reducible refine xwD ?_ ?_); focus exact xaC) | ((with_reducible refine xwE ?_ ?_); focus exact xaC) | (with_reducible intro hc; (try simp only [capsP, and_true] at hc); (try exact xfC)) | ((fail_if_success (with_reducible first | refine xgon ?_ | intro _)); (conv => whnf); (fail_if_success (fail_if_success (with_reducible first | refine xstp ?_ | refine Both.mk ?_ ?_ | refine xgon ?_ | intro _)))))
          rename_i c3
          refine ⟨⟨(k + 1, c3), by simp only; omega⟩, [0, 1, 2, 5], by simp only; omega, ?_⟩
          (repeat' first | refine And.intro ?_ ?_ | exact xeC | fail)
          all_goals try rw [hac]
          all_goals first | omega | (simp only [List.length_append, List.length_singleton]; done) | (rw [List.length_append, List.length_singleton]; omega) | (intro i hi; (first | refine app_rowG _ _ _ _ ?_ i hi | refine app_row _ _ _ ?_ i hi); first | rfl | (simp only [Int.toNat_natCast, Nat.zero_add]; rfl))
        · rw [plc_none hfj]
          rw [show slotR R id t p ((k : Nat) + 1 : Int) = [] by unfold slotR; rw [if_neg hneq, hfj], List.append_nil] at hac
          refine rH51zeA0 ?_
          repeat' (first | (fail_if_success (with_reducible refine xstp ?_)); first | ((with_reducible refine And.intro (fun (hb : _ = true) => ?_) (fun (hb : _ = false) => ?_)) <;> replace hb := xnC hb <;> (try first | exact xfC | exact bff hb (by assumption) | exact bff (by assumption) hb)) | (with_reducible refine Both.mk ?_ ?_) | ((with_reducible refine And.intro ?_ ?_); focus exact xoC) | ((with_reducible refine Or.inl ⟨?_, ?_, ?_⟩); (focus rfl); focus exact xaC) | ((with_reducible refine xwB ?_ ?_); focus exact xaC) | ((with_reducible refine xwC ?_ ?_); focus exact xaC) | ((with_reducible refine xwD ?_ ?_); focus exact xaC) | ((with_reducible refine xwE ?_ ?_); focus exact xaC) | (with_reducible intro hc; (try simp only [capsP, and_true] at hc); (try exact xfC)) | ((fail_if_success (with_reducible first | refine xgon ?_ | intro _)); (conv => whnf); (fail_if_success (fail_if_success (with_reducible first | refine xstp ?_ | refine Both.mk ?_ ?_ | refine xgon ?_ | intro _)))))
          refine ⟨⟨(k + 1, c2), by simp only; omega⟩, [0, 1, 2, 3], by simp only; omega, ?_⟩
          (repeat' first | refine And.intro ?_ ?_ | exact xeC | fail)
          all_goals first
            | (rw [hac]; done)
            | exact Nat.le_of_eq (congrArg List.length hac)
            | (intro q hq; rw [hac])
            | omega
      · obtain rfl : k = 8 := by omega
        refine FinK.mk ⟨[0, 1, 3], _, _, ⟨c2, rfl, rfl⟩, ?_⟩
        (repeat' first | refine And.intro ?_ ?_ | exact xeC | fail)
  · rw [plc_none hf]
    refine rH51zeA0 ?_
    repeat' (first | (fail_if_success (with_reducible refine xstp ?_)); first | ((with_reducible refine And.intro (fun (hb : _ = true) => ?_) (fun (hb : _ = false) => ?_)) <;> replace hb := xnC hb <;> (try first | exact xfC | exact bff hb (by assumption) | exact bff (by assumption) hb)) | (with_reducible refine Both.mk ?_ ?_) | ((with_reducible refine And.intro ?_ ?_); focus exact xoC) | ((with_reducible refine Or.inl ⟨?_, ?_, ?_⟩); (focus rfl); focus exact xaC) | ((with_reducible refine xwB ?_ ?_); focus exact xaC) | ((with_reducible refine xwC ?_ ?_); focus exact xaC) | ((with_reducible refine xwD ?_ ?_); focus exact xaC) | ((with_reducible refine xwE ?_ ?_); focus exact xaC) | (with_reducible intro hc; (try simp only [capsP, and_true] at hc); (try exact xfC)) | ((fail_if_success (with_reducible first | refine xgon ?_ | intro _)); (conv => whnf); (fail_if_success (fail_if_success (with_reducible first | refine xstp ?_ | refine Both.mk ?_ ?_ | refine xgon ?_ | intro _)))))
    have hE : seeE R id t p = 0 := by rw [see_in hok, hf]
    have hM : seeR R id t p = accR R id t p 8 := if_neg (by rw [hE]; decide)
    rw [hE, hM]
    refine LoopK.mk' {q : Nat × Nat // q.1 ≤ 8}
      (fun ⟨(k, c2), _⟩ => ⟨[(0, .c (.p 0 0 6)), (1, .c (.i .i64 id)), (2, .c (.i .i64 t)), (7, .c (.p 2 0 0)), (10, .c (.sl 3 0 4 0 (accR R id t p k).length c2)), (11, .c (.i .i64 ((k : Nat) + 1 : Int)))],
        [.one (refC x hu ke R.length c), .one (refR R c), .one (.cells true (encPt p)), .one (refR (accR R id t p k) c2)]⟩) (fun q => 8 - q.1.1)
      ⟨⟨(0, 0), Nat.zero_le _⟩, [0, 1, 2, 99], ?_⟩ ?_
    · (repeat' first | refine And.intro ?_ ?_ | exact xeC | fail)
      all_goals (intro i hi; exact absurd hi (Nat.not_lt_zero i))
    rintro ⟨⟨k, c2⟩, hk⟩
    simp only at hk
    have hal := accR_le R id t p k
    have hac := accR_succ R id t p k
    repeat' (first | (fail_if_success (with_reducible refine xstp ?_)); first | ((with_reducible refine And.intro (fun (hb : _ = true) => ?_) (fun (hb : _ = false) => ?_)) <;> replace hb := xnC hb <;> (try first | exact xfC | exact bff hb (by assumption) | exact bff (by assumption) hb)) | (with_reducible refine Both.mk ?_ ?_) | ((with_reducible refine And.intro ?_ ?_); focus exact xoC) | ((with_reducible refine Or.inl ⟨?_, ?_, ?_⟩); (focus rfl); focus exact xaC) | ((with_reducible refine xwB ?_ ?_); focus exact xaC) | ((with_reducible refine xwC ?_ ?_); focus exact xaC) | ((with_reducible refine xwD ?_ ?_); focus exact xaC) | ((with_reducible refine xwE ?_ ?_); focus exact xaC) | (with_reducible intro hc; (try simp only [capsP, and_true] at hc); (try exact xfC)) | ((fail_if_success (with_reducible first | refine xgon ?_ | intro _)); (conv => whnf); (fail_if_success (fail_if_success (with_reducible first | refine xstp ?_ | refine Both.mk ?_ ?_ | refine xgon ?_ | intro _)))))
    · rename_i c3
      rw [show slotR R id t p ((k : Nat) + 1 : Int) = [⟨0, id, t, p⟩] from if_pos hb] at hac
      refine ⟨⟨(k + 1, c3), by simp only; omega⟩, [0, 1, 2, 5], by simp only; omega, ?_⟩
      (repeat' first | refine And.intro ?_ ?_ | exact xeC | fail)
      all_goals try rw [hac]
      all_goals first | omega | (simp only [List.length_append, List.length_singleton]; done) | (rw [List.length_append, List.length_singleton]; omega) | (intro i hi; (first | refine app_rowG _ _ _ _ ?_ i hi | refine app_row _ _ _ ?_ i hi); first | rfl | (simp only [Int.toNat_natCast, Nat.zero_add]; rfl))
    · have hneq := hb
      refine xcal (σ := [.whole 0, .whole 1]) (nl := []) (cplace x hu ke R c ((k : Nat) + 1 : Int) hR) ?_
      rintro v h' ⟨rfl, rfl⟩ hcaps
      rcases (by cases fndP R ((k : Nat) + 1 : Int) <;> simp : (∃ i, fndP R ((k : Nat) + 1 : Int) = some i) ∨ fndP R ((k : Nat) + 1 : Int) = none) with ⟨j, hfj⟩ | hfj
      · have hjl := (fndP_lt hfj).1
        rw [plc_some hfj]
        rw [show slotR R id t p ((k : Nat) + 1 : Int) = [R.getD j default] by unfold slotR; rw [if_neg hneq, hfj]] at hac
        refine rH51zeA0 ?_
        repeat' (first | (fail_if_success (with_reducible refine xstp ?_)); first | ((with_reducible refine And.intro (fun (hb : _ = true) => ?_) (fun (hb : _ = false) => ?_)) <;> replace hb := xnC hb <;> (try first | exact xfC | exact bff hb (by assumption) | exact bff (by assumption) hb)) | (with_reducible refine Both.mk ?_ ?_) | ((with_reducible refine And.intro ?_ ?_); focus exact xoC) | ((with_reducible refine Or.inl ⟨?_, ?_, ?_⟩); (focus rfl); focus exact xaC) | ((with_reducible refine xwB ?_ ?_); focus exact xaC) | ((with_reducible refine xwC ?_ ?_); focus exact xaC) | ((with_reducible refine xwD ?_ ?_); focus exact xaC) | ((with_reducible refine xwE ?_ ?_); focus exact xaC) | (with_reducible intro hc; (try simp only [capsP, and_true] at hc); (try exact xfC)) | ((fail_if_success (with_reducible first | refine xgon ?_ | intro _)); (conv => whnf); (fail_if_success (fail_if_success (with_reducible first | refine xstp ?_ | refine Both.mk ?_ ?_ | refine xgon ?_ | intro _)))))
        rename_i c3
        refine ⟨⟨(k + 1, c3), by simp only; omega⟩, [0, 1, 2, 5], by simp only; omega, ?_⟩
        (repeat' first | refine And.intro ?_ ?_ | exact xeC | fail)
        all_goals try rw [hac]
        all_goals first | omega | (simp only [List.length_append, List.length_singleton]; done) | (rw [List.length_append, List.length_singleton]; omega) | (intro i hi; (first | refine app_rowG _ _ _ _ ?_ i hi | refine app_row _ _ _ ?_ i hi); first | rfl | (simp only [Int.toNat_natCast, Nat.zero_add]; rfl))
      · rw [plc_none hfj]
        rw [show slotR R id t p ((k : Nat) + 1 : Int) = [] by unfold slotR; rw [if_neg hneq, hfj], List.append_nil] at hac
        refine rH51zeA0 ?_
        repeat' (first | (fail_if_success (with_reducible refine xstp ?_)); first | ((with_reducible refine And.intro (fun (hb : _ = true) => ?_) (fun (hb : _ = false) => ?_)) <;> replace hb := xnC hb <;> (try first | exact xfC | exact bff hb (by assumption) | exact bff (by assumption) hb)) | (with_reducible refine Both.mk ?_ ?_) | ((with_reducible refine And.intro ?_ ?_); focus exact xoC) | ((with_reducible refine Or.inl ⟨?_, ?_, ?_⟩); (focus rfl); focus exact xaC) | ((with_reducible refine xwB ?_ ?_); focus exact xaC) | ((with_reducible refine xwC ?_ ?_); focus exact xaC) | ((with_reducible refine xwD ?_ ?_); focus exact xaC) | ((with_reducible refine xwE ?_ ?_); focus exact xaC) | (with_reducible intro hc; (try simp only [capsP, and_true] at hc); (try exact xfC)) | ((fail_if_success (with_reducible first | refine xgon ?_ | intro _)); (conv => whnf); (fail_if_success (fail_if_success (with_reducible first | refine xstp ?_ | refine Both.mk ?_ ?_ | refine xgon ?_ | intro _)))))
        refine ⟨⟨(k + 1, c2), by simp only; omega⟩, [0, 1, 2, 3], by simp only; omega, ?_⟩
        (repeat' first | refine And.intro ?_ ?_ | exact xeC | fail)
        all_goals first
          | (rw [hac]; done)
          | exact Nat.le_of_eq (congrArg List.length hac)
          | (intro q hq; rw [hac])
          | omega
    · obtain rfl : k = 8 := by omega
      refine FinK.mk ⟨[0, 1, 3], _, _, ⟨c2, rfl, rfl⟩, ?_⟩
      (repeat' first | refine And.intro ?_ ?_ | exact xeC | fail)
end Go.Proofs.YteifgkldagnodaaGreat

namespace Go.Proofs.YteifgkldagnodaaGreat
open Go.X
set_option linter.unusedSimpArgs false
set_option linter.unusedVariables false
def accL (R : List Pn) (k i : Nat) : List Pn := if i ≤ k then R.take i else R.take k ++ (R.drop (k + 1)).take (i - (k + 1))
theorem accL_skip (R : List Pn) (k : Nat) : accL R k (k + 1) = accL R k k := by
  unfold accL
  rw [if_neg (by omega), if_pos (Nat.le_refl _)]
  simp
theorem accL_snoc {R : List Pn} {k i : Nat} (hi : i < R.length) (h : i ≠ k) : accL R k (i + 1) = accL R k i ++ [R.getD i default] := by
  unfold accL
  by_cases h1 : i < k
  · rw [if_pos (by omega), if_pos (by omega)]
    exact take_snocG R hi
  · rw [if_neg (by omega), if_neg (by omega), List.append_assoc]
    congr 1
    rw [show i + 1 - (k + 1) = (i - (k + 1)) + 1 by omega, take_snocG _ (by rw [List.length_drop]; omega)]
    congr 2
    simp only [List.getD, List.getElem?_drop]
    rw [show k + 1 + (i - (k + 1)) = i by omega]
theorem accL_end (R : List Pn) {k : Nat} (hk : k < R.length) : accL R k R.length = R.take k ++ R.drop (k + 1) := by
  unfold accL
  rw [if_neg (by omega), List.take_of_length_le (l := R.drop (k + 1)) (by rw [List.length_drop]; omega)]
theorem accL_le (R : List Pn) (k i : Nat) (hi : i ≤ R.length) : (accL R k i).length ≤ i := by
  unfold accL
  split
  · rw [List.length_take]; omega
  · simp only [List.length_append, List.length_take, List.length_drop]; omega
set_option maxRecDepth 20000 in
set_option maxHeartbeats 1000000 in
theorem cLeaveR (x : Rx) (hu ke : Int) (R : List Pn) (c : Nat) (id t : Int) (hR : R.length ≤ 8) :
    Ctr Tryz.prog 30 [.c (.p 0 0 6), .c (.i .i64 id), .c (.i .i64 t)] (refB x hu ke R c)
      fun v h => ∃ c', v = .c (.i .i64 (leaE R id t : Nat)) ∧ h = [.one (refF x hu ke 2 (leaM R id t).length c'), .one .no, .one (refR (leaM R id t) c')] := by
  refine Ctr.mk' tbv mixed Tryz.func30 rfl rfl rfl (fun _ _ => by kernel_rfl) (by kernel_rfl) (by rfl) (by rfl) (by (repeat' first | refine And.intro ?_ ?_ | exact xeC | fail)) ?_
  repeat' (first | (fail_if_success (with_reducible refine xstp ?_)); first | ((with_reducible refine And.intro (fun (hb : _ = true) => ?_) (fun (hb : _ = false) => ?_)) <;> replace hb := xnC hb <;> (try first | exact xfC | exact bff hb (by assumption) | exact bff (by assumption) hb)) | (with_reducible refine Both.mk ?_ ?_) | ((with_reducible refine And.intro ?_ ?_); focus exact xoC) | ((with_reducible refine Or.inl ⟨?_, ?_, ?_⟩); (focus rfl); focus exact xaC) | ((with_reducible refine xwB ?_ ?_); focus exact xaC) | ((with_reducible refine xwC ?_ ?_); focus exact xaC) | ((with_reducible refine xwD ?_ ?_); focus exact xaC) | ((with_reducible refine xwE ?_ ?_); focus exact xaC) | (with_reducible intro hc; (try simp only [capsP, and_true] at hc); (try exact xfC)) | ((fail_if_success (with_reducible first | refine xgon ?_ | intro _)); (conv => whnf); (fail_if_success (fail_if_success (with_reducible first | refine xstp ?_ | refine Both.mk ?_ ?_ | refine xgon ?_ | intro _)))))
  refine xcal (σ := [.whole 0, .whole 1]) (nl := []) (cplace x hu ke R c id hR) ?_
  rintro v h' ⟨rfl, rfl⟩ hcaps
  rcases (by cases fndP R id <;> simp : (∃ i, fndP R id = some i) ∨ fndP R id = none) with ⟨k, hf⟩ | hf
  · have hkl := (fndP_lt hf).1
    rw [plc_some hf]
    refine xret ?_
    repeat' (first | (fail_if_success (with_reducible refine xstp ?_)); first | ((with_reducible refine And.intro (fun (hb : _ = true) => ?_) (fun (hb : _ = false) => ?_)) <;> replace hb := xnC hb <;> (try first | exact xfC | exact bff hb (by assumption) | exact bff (by assumption) hb)) | (with_reducible refine Both.mk ?_ ?_) | ((with_reducible refine And.intro ?_ ?_); focus exact xoC) | ((with_reducible refine Or.inl ⟨?_, ?_, ?_⟩); (focus rfl); focus exact xaC) | ((with_reducible refine xwB ?_ ?_); focus exact xaC) | ((with_reducible refine xwC ?_ ?_); focus exact xaC) | ((with_reducible refine xwD ?_ ?_); focus exact xaC) | ((with_reducible refine xwE ?_ ?_); focus exact xaC) | (with_reducible intro hc; (try simp only [capsP, and_true] at hc); (try exact xfC)) | ((fail_if_success (with_reducible first | refine xgon ?_ | intro _)); (conv => whnf); (fail_if_success (fail_if_success (with_reducible first | refine xstp ?_ | refine Both.mk ?_ ?_ | refine xgon ?_ | intro _)))))
    refine xcal (σ := []) (nl := []) (cTimeR t) ?_
    rintro v h' ⟨rfl, rfl⟩ hcaps
    refine xret ?_
    repeat' (first | (fail_if_success (with_reducible refine xstp ?_)); first | ((with_reducible refine And.intro (fun (hb : _ = true) => ?_) (fun (hb : _ = false) => ?_)) <;> replace hb := xnC hb <;> (try first | exact xfC | exact bff hb (by assumption) | exact bff (by assumption) hb)) | (with_reducible refine Both.mk ?_ ?_) | ((with_reducible refine And.intro ?_ ?_); focus exact xoC) | ((with_reducible refine Or.inl ⟨?_, ?_, ?_⟩); (focus rfl); focus exact xaC) | ((with_reducible refine xwB ?_ ?_); focus exact xaC) | ((with_reducible refine xwC ?_ ?_); focus exact xaC) | ((with_reducible refine xwD ?_ ?_); focus exact xaC) | ((with_reducible refine xwE ?_ ?_); focus exact xaC) | (with_reducible intro hc; (try simp only [capsP, and_true] at hc); (try exact xfC)) | ((fail_if_success (with_reducible first | refine xgon ?_ | intro _)); (conv => whnf); (fail_if_success (fail_if_success (with_reducible first | refine xstp ?_ | refine Both.mk ?_ ?_ | refine xgon ?_ | intro _)))))
    · have hE : leaE R id t = 17 := by unfold leaE; rw [hf]; exact if_pos (Or.inl hb)
      have hM : leaM R id t = R := if_pos (by rw [hE]; decide)
      rw [hE, hM]
      refine FinK.mk ⟨[0, 1, 1], _, _, ⟨c, rfl, rfl⟩, ?_⟩
      (repeat' first | refine And.intro ?_ ?_ | exact xeC | fail)
    · have hE : leaE R id t = 17 := by unfold leaE; rw [hf]; exact if_pos (Or.inr (by simpa using hb))
      have hM : leaM R id t = R := if_pos (by rw [hE]; decide)
      rw [hE, hM]
      refine FinK.mk ⟨[0, 1, 1], _, _, ⟨c, rfl, rfl⟩, ?_⟩
      (repeat' first | refine And.intro ?_ ?_ | exact xeC | fail)
    · have hot : okT t := by assumption
      have hE : leaE R id t = 0 := by unfold leaE; rw [hf]; exact if_neg (by intro h; rcases h with h | h; exact h hot; omega)
      have hM : leaM R id t = R.take k ++ R.drop (k + 1) := by unfold leaM; rw [if_neg (by rw [hE]; decide), hf]
      rw [hE, hM, ← accL_end R hkl]
      refine LoopK.mk' {q : Nat × Nat // q.1 ≤ R.length}
        (fun ⟨(i, c2), _⟩ => ⟨[(0, .c (.p 0 0 6)), (7, .c (.i .i64 (k : Nat))), (8, .c (.sl 2 0 4 0 (accL R k i).length c2)), (9, .c (.i .i64 (i : Nat)))],
          [.one (refC x hu ke R.length c), .one (refR R c), .one (refR (accL R k i) c2)]⟩) (fun q => R.length - q.1.1)
        ⟨⟨(0, 0), Nat.zero_le _⟩, [0, 1, 99], ?_⟩ ?_
      · (repeat' first | refine And.intro ?_ ?_ | exact xeC | fail)
        all_goals first | rfl | (intro i hi; exact absurd hi (Nat.not_lt_zero i)) | simp [accL]
      rintro ⟨⟨i, c2⟩, hi⟩
      simp only at hi
      have hal := accL_le R k i hi
      repeat' (first | (fail_if_success (with_reducible refine xstp ?_)); first | ((with_reducible refine And.intro (fun (hb : _ = true) => ?_) (fun (hb : _ = false) => ?_)) <;> replace hb := xnC hb <;> (try first | exact xfC | exact bff hb (by assumption) | exact bff (by assumption) hb)) | (with_reducible refine Both.mk ?_ ?_) | ((with_reducible refine And.intro ?_ ?_); focus exact xoC) | ((with_reducible refine Or.inl ⟨?_, ?_, ?_⟩); (focus rfl); focus exact xaC) | ((with_reducible refine xwB ?_ ?_); focus exact xaC) | ((with_reducible refine xwC ?_ ?_); focus exact xaC) | ((with_reducible refine xwD ?_ ?_); focus exact xaC) | ((with_reducible refine xwE ?_ ?_); focus exact xaC) | (with_reducible intro hc; (try simp only [capsP, and_true] at hc); (try exact xfC)) | ((fail_if_success (with_reducible first | refine xgon ?_ | intro _)); (conv => whnf); (fail_if_success (fail_if_success (with_reducible first | refine xstp ?_ | refine Both.mk ?_ ?_ | refine xgon ?_ | intro _)))))
      · have hac := accL_snoc (R := R) (k := k) (i := i) (by omega) (by omega)
        rename_i c3
        refine ⟨⟨(i + 1, c3), by simp only; omega⟩, [0, 1, 4], by simp only; omega, ?_⟩
        (repeat' first | refine And.intro ?_ ?_ | exact xeC | fail)
        all_goals try rw [hac]
        all_goals first | omega | (simp only [List.length_append, List.length_singleton]; done) | (rw [List.length_append, List.length_singleton]; omega) | (intro i hi; (first | refine app_rowG _ _ _ _ ?_ i hi | refine app_row _ _ _ ?_ i hi); first | rfl | (simp only [Int.toNat_natCast, Nat.zero_add]; rfl))
      · have hki : i = k := by omega
        have hac := accL_skip R k
        rw [← hki] at hac
        refine ⟨⟨(i + 1, c2), by simp only; omega⟩, [0, 1, 2], by simp only; omega, ?_⟩
        (repeat' first | refine And.intro ?_ ?_ | exact xeC | fail)
        all_goals first
          | (rw [← hki, hac]; done)
          | (rw [← hki]; exact Nat.le_of_eq (congrArg List.length hac))
          | (intro q hq; rw [← hki, hac])
          | omega
      · obtain rfl : i = R.length := by omega
        refine FinK.mk ⟨[0, 1, 2], _, _, ⟨c2, rfl, rfl⟩, ?_⟩
        (repeat' first | refine And.intro ?_ ?_ | exact xeC | fail)
  · rw [plc_none hf]
    refine xret ?_
    repeat' (first | (fail_if_success (with_reducible refine xstp ?_)); first | ((with_reducible refine And.intro (fun (hb : _ = true) => ?_) (fun (hb : _ = false) => ?_)) <;> replace hb := xnC hb <;> (try first | exact xfC | exact bff hb (by assumption) | exact bff (by assumption) hb)) | (with_reducible refine Both.mk ?_ ?_) | ((with_reducible refine And.intro ?_ ?_); focus exact xoC) | ((with_reducible refine Or.inl ⟨?_, ?_, ?_⟩); (focus rfl); focus exact xaC) | ((with_reducible refine xwB ?_ ?_); focus exact xaC) | ((with_reducible refine xwC ?_ ?_); focus exact xaC) | ((with_reducible refine xwD ?_ ?_); focus exact xaC) | ((with_reducible refine xwE ?_ ?_); focus exact xaC) | (with_reducible intro hc; (try simp only [capsP, and_true] at hc); (try exact xfC)) | ((fail_if_success (with_reducible first | refine xgon ?_ | intro _)); (conv => whnf); (fail_if_success (fail_if_success (with_reducible first | refine xstp ?_ | refine Both.mk ?_ ?_ | refine xgon ?_ | intro _)))))
    have hE : leaE R id t = 6 := by unfold leaE; rw [hf]
    have hM : leaM R id t = R := if_pos (by rw [hE]; decide)
    rw [hE, hM]
    refine FinK.mk ⟨[0, 1, 1], _, _, ⟨c, rfl, rfl⟩, ?_⟩
    (repeat' first | refine And.intro ?_ ?_ | exact xeC | fail)
end Go.Proofs.YteifgkldagnodaaGreat

namespace Go.Proofs.YteifgkldagnodaaGreat
open Go.X
set_option linter.unusedSimpArgs false
set_option linter.unusedVariables false
def stepR (hu t : Int) (p : Pt) (b : Int) (e : Pn) : Int := if b < 0 ∨ gapD hu e t p < b then gapD hu e t p else b
def gapLR (hu : Int) (t : Int) (p : Pt) (l : List Pn) : Int := l.foldl (stepR hu t p) (-1)
def gapVR (hu : Int) (R : List Pn) (t : Int) (p : Pt) : Int × Bool := if R.length = 0 then (0, false) else if ¬ (okT t ∧ okP p) then (0, true) else (gapLR hu t p R, true)
theorem gapLR_snoc (hu t : Int) (p : Pt) (l : List Pn) {i : Nat} (h : i < l.length) : gapLR hu t p (l.take (i + 1)) = stepR hu t p (gapLR hu t p (l.take i)) (l.getD i default) := by
  unfold gapLR
  rw [take_snocG l h, List.foldl_append]
  rfl
theorem rH51zeC0 {σ : List Sg} {H h' : List Fam} {v : T} {K : T → List Fam → Prop} {H' : List Fam} {v' : T} {N : Nat} (hk : K v' H') (hN : H.length = N := by (try simp only [↓List.length_cons, ↓List.length_nil, Nat.reduceAdd]) <;> rfl) (h : givesF σ N H σ h' = some H' := by (try simp (maxSteps := 1000000) only [givesF, setF, updF, Fam.zeroth, Fam.rk, Ck.rk, C.rk, E.rk, T.rk, key, List.map_cons, List.map_nil, List.cons_append, List.nil_append, List.length_cons, List.length_nil, Option.map_some, Option.bind_some, Nat.reduceAdd, Nat.zero_add, Nat.add_zero, Nat.add_sub_cancel_left, Int.toNat_natCast, reps, List.all_cons, List.all_nil, C.flat, List.append_eq, Bool.not_true, Bool.and_true, Bool.or_false, Bool.or_self, Bool.not_false, List.append_nil, Bool.and_self, encPt]) <;> rfl) (hv : v.rk σ N = v' := by (try simp only [givesF, setF, updF, Fam.zeroth, Fam.rk, Ck.rk, C.rk, E.rk, T.rk, key, List.map_cons, List.map_nil, List.cons_append, List.nil_append, List.length_cons, List.length_nil, Option.map_some, Option.bind_some, Nat.reduceAdd, Nat.zero_add, Nat.add_zero, Nat.add_sub_cancel_left, Int.toNat_natCast, reps, List.all_cons, List.all_nil, C.flat, List.append_eq, Bool.not_true, Bool.and_true, Bool.or_false, Bool.or_self, Bool.not_false, List.append_nil, Bool.and_self, encPt]) <;> rfl) : RetG σ H h' v K := ret_mk3 hN h hv hk
set_option maxRecDepth 10000 in
theorem cGapR (x : Rx) (hu ke : Int) (R : List Pn) (c : Nat) (t : Int) (p : Pt) (hR : R.length ≤ 8) (hh : 0 ≤ hu ∧ hu ≤ 4096) (hT : ∀ e ∈ R, okT e.t) (hP : ∀ e ∈ R, okP e.p) :
    Ctr Tryz.prog 38 [.c (.p 0 0 6), .c (.i .i64 t), .a (encPt p)] (refB x hu ke R c)
      fun v h => v = .t [.c (.i .i64 (gapVR hu R t p).1), .c (.b (gapVR hu R t p).2)] ∧ h = refB x hu ke R c := by
  refine Ctr.mk' tbv mixed Tryz.func38 rfl rfl rfl (fun _ _ => by kernel_rfl) (by kernel_rfl) (by rfl) (by rfl) (by (repeat' first | refine And.intro ?_ ?_ | exact xeC | fail)) ?_
  repeat' (first | (fail_if_success (with_reducible refine xstp ?_)); first | ((with_reducible refine And.intro (fun (hb : _ = true) => ?_) (fun (hb : _ = false) => ?_)) <;> replace hb := xnC hb <;> (try first | exact xfC | exact bff hb (by assumption) | exact bff (by assumption) hb)) | (with_reducible refine Both.mk ?_ ?_) | ((with_reducible refine And.intro ?_ ?_); focus exact xoC) | ((with_reducible refine Or.inl ⟨?_, ?_, ?_⟩); (focus rfl); focus exact xaC) | ((with_reducible refine xwB ?_ ?_); focus exact xaC) | ((with_reducible refine xwC ?_ ?_); focus exact xaC) | ((with_reducible refine xwD ?_ ?_); focus exact xaC) | ((with_reducible refine xwE ?_ ?_); focus exact xaC) | (with_reducible intro hc; (try simp only [capsP, and_true] at hc); (try exact xfC)) | ((fail_if_success (with_reducible first | refine xgon ?_ | intro _)); (conv => whnf); (fail_if_success (fail_if_success (with_reducible first | refine xstp ?_ | refine Both.mk ?_ ?_ | refine xgon ?_ | intro _)))))
  · rw [show gapVR hu R t p = (0, false) from if_pos (by omega)]
    refine FinK.mk ⟨[0, 1], _, _, ⟨rfl, rfl⟩, ?_⟩; (repeat' first | refine And.intro ?_ ?_ | exact xeC | fail)
  refine xcal (σ := []) (nl := []) (cTimeR t) ?_
  rintro v h' ⟨rfl, rfl⟩ hcaps
  refine rH51zeC0 ?_
  repeat' (first | (fail_if_success (with_reducible refine xstp ?_)); first | ((with_reducible refine And.intro (fun (hb : _ = true) => ?_) (fun (hb : _ = false) => ?_)) <;> replace hb := xnC hb <;> (try first | exact xfC | exact bff hb (by assumption) | exact bff (by assumption) hb)) | (with_reducible refine Both.mk ?_ ?_) | ((with_reducible refine And.intro ?_ ?_); focus exact xoC) | ((with_reducible refine Or.inl ⟨?_, ?_, ?_⟩); (focus rfl); focus exact xaC) | ((with_reducible refine xwB ?_ ?_); focus exact xaC) | ((with_reducible refine xwC ?_ ?_); focus exact xaC) | ((with_reducible refine xwD ?_ ?_); focus exact xaC) | ((with_reducible refine xwE ?_ ?_); focus exact xaC) | (with_reducible intro hc; (try simp only [capsP, and_true] at hc); (try exact xfC)) | ((fail_if_success (with_reducible first | refine xgon ?_ | intro _)); (conv => whnf); (fail_if_success (fail_if_success (with_reducible first | refine xstp ?_ | refine Both.mk ?_ ?_ | refine xgon ?_ | intro _)))))
  · rw [show gapVR hu R t p = (0, true) by unfold gapVR; rw [if_neg (by omega), if_pos (fun h => hb h.1)]]
    refine FinK.mk ⟨[0, 1], _, _, ⟨rfl, rfl⟩, ?_⟩; (repeat' first | refine And.intro ?_ ?_ | exact xeC | fail)
  refine xcal (σ := []) (nl := []) (cReachesR p) ?_
  rintro v h' ⟨rfl, rfl⟩ hcaps
  refine rH51zeC0 ?_
  repeat' (first | (fail_if_success (with_reducible refine xstp ?_)); first | ((with_reducible refine And.intro (fun (hb : _ = true) => ?_) (fun (hb : _ = false) => ?_)) <;> replace hb := xnC hb <;> (try first | exact xfC | exact bff hb (by assumption) | exact bff (by assumption) hb)) | (with_reducible refine Both.mk ?_ ?_) | ((with_reducible refine And.intro ?_ ?_); focus exact xoC) | ((with_reducible refine Or.inl ⟨?_, ?_, ?_⟩); (focus rfl); focus exact xaC) | ((with_reducible refine xwB ?_ ?_); focus exact xaC) | ((with_reducible refine xwC ?_ ?_); focus exact xaC) | ((with_reducible refine xwD ?_ ?_); focus exact xaC) | ((with_reducible refine xwE ?_ ?_); focus exact xaC) | (with_reducible intro hc; (try simp only [capsP, and_true] at hc); (try exact xfC)) | ((fail_if_success (with_reducible first | refine xgon ?_ | intro _)); (conv => whnf); (fail_if_success (fail_if_success (with_reducible first | refine xstp ?_ | refine Both.mk ?_ ?_ | refine xgon ?_ | intro _)))))
  · rw [show gapVR hu R t p = (0, true) by unfold gapVR; rw [if_neg (by omega), if_pos (fun h => hb h.2)]]
    refine FinK.mk ⟨[0, 1], _, _, ⟨rfl, rfl⟩, ?_⟩; (repeat' first | refine And.intro ?_ ?_ | exact xeC | fail)
  have hot : okT t := by assumption
  have hop : okP p := by assumption
  rw [show gapVR hu R t p = (gapLR hu t p R, true) by unfold gapVR; rw [if_neg (by omega), if_neg (by simp [hot, hop])]]
  refine LoopK.mk' {i : Nat // i ≤ R.length}
    (fun ⟨i, _⟩ => ⟨[(0, .c (.p 0 0 6)), (1, .c (.i .i64 t)), (5, .c (.p 2 0 0)), (8, .c (.i .i64 (gapLR hu t p (R.take i)))), (9, .c (.i .i64 (i : Nat)))],
      [.one (refC x hu ke R.length c), .one (refR R c), .one (.cells true (encPt p))]⟩) (fun k => R.length - k.1)
    ⟨⟨0, Nat.zero_le _⟩, [0, 1, 2], ?_⟩ ?_
  · (repeat' first | refine And.intro ?_ ?_ | exact xeC | fail)
  rintro ⟨i, hi⟩
  repeat' (first | (fail_if_success (with_reducible refine xstp ?_)); first | ((with_reducible refine And.intro (fun (hb : _ = true) => ?_) (fun (hb : _ = false) => ?_)) <;> replace hb := xnC hb <;> (try first | exact xfC | exact bff hb (by assumption) | exact bff (by assumption) hb)) | (with_reducible refine Both.mk ?_ ?_) | ((with_reducible refine And.intro ?_ ?_); focus exact xoC) | ((with_reducible refine Or.inl ⟨?_, ?_, ?_⟩); (focus rfl); focus exact xaC) | ((with_reducible refine xwB ?_ ?_); focus exact xaC) | ((with_reducible refine xwC ?_ ?_); focus exact xaC) | ((with_reducible refine xwD ?_ ?_); focus exact xaC) | ((with_reducible refine xwE ?_ ?_); focus exact xaC) | (with_reducible intro hc; (try simp only [capsP, and_true] at hc); (try exact xfC)) | ((fail_if_success (with_reducible first | refine xgon ?_ | intro _)); (conv => whnf); (fail_if_success (fail_if_success (with_reducible first | refine xstp ?_ | refine Both.mk ?_ ?_ | refine xgon ?_ | intro _)))))
  · have hmj : R.getD i default ∈ R := by rw [getD_at (by omega)]; exact List.getElem_mem _
    have hti := hT _ hmj
    obtain ⟨s1, s2, s3⟩ := okP_sub hop (hP _ hmj)
    have hua := hu_age hh hti hot
    have hdl := isq_lt (sqP (p.sub (R.getD i default).p))
    have hst := gapLR_snoc hu t p R (i := i) (by omega)
    have hgd : gapD hu (R.getD i default) t p = max 0 ((dst p (R.getD i default).p : Int) - 1 - hu * age (R.getD i default).t t) := rfl
    have hdd : dst p (R.getD i default).p = isq (sqP (p.sub (R.getD i default).p)) := rfl
    unfold stepR at hst
    refine xcal (σ := []) (nl := []) (cDistanceR p (R.getD i default).p s1 s2 s3) ?_
    rintro v h' ⟨rfl, rfl⟩ hcaps
    refine rH51zeC0 ?_
    repeat' (first | (fail_if_success (with_reducible refine xstp ?_)); first | ((with_reducible refine And.intro (fun (hb : _ = true) => ?_) (fun (hb : _ = false) => ?_)) <;> replace hb := xnC hb <;> (try first | exact xfC | exact bff hb (by assumption) | exact bff (by assumption) hb)) | (with_reducible refine Both.mk ?_ ?_) | ((with_reducible refine And.intro ?_ ?_); focus exact xoC) | ((with_reducible refine Or.inl ⟨?_, ?_, ?_⟩); (focus rfl); focus exact xaC) | ((with_reducible refine xwB ?_ ?_); focus exact xaC) | ((with_reducible refine xwC ?_ ?_); focus exact xaC) | ((with_reducible refine xwD ?_ ?_); focus exact xaC) | ((with_reducible refine xwE ?_ ?_); focus exact xaC) | (with_reducible intro hc; (try simp only [capsP, and_true] at hc); (try exact xfC)) | ((fail_if_success (with_reducible first | refine xgon ?_ | intro _)); (conv => whnf); (fail_if_success (fail_if_success (with_reducible first | refine xstp ?_ | refine Both.mk ?_ ?_ | refine xgon ?_ | intro _)))))
    refine xcal (σ := []) (nl := []) (cAgeR (R.getD i default) t hti hot) ?_
    rintro v h' ⟨rfl, rfl⟩ hcaps
    refine rH51zeC0 ?_
    repeat' (first | (fail_if_success (with_reducible refine xstp ?_)); first | ((with_reducible refine And.intro (fun (hb : _ = true) => ?_) (fun (hb : _ = false) => ?_)) <;> replace hb := xnC hb <;> (try first | exact xfC | exact bff hb (by assumption) | exact bff (by assumption) hb)) | (with_reducible refine Both.mk ?_ ?_) | ((with_reducible refine And.intro ?_ ?_); focus exact xoC) | ((with_reducible refine Or.inl ⟨?_, ?_, ?_⟩); (focus rfl); focus exact xaC) | ((with_reducible refine xwB ?_ ?_); focus exact xaC) | ((with_reducible refine xwC ?_ ?_); focus exact xaC) | ((with_reducible refine xwD ?_ ?_); focus exact xaC) | ((with_reducible refine xwE ?_ ?_); focus exact xaC) | (with_reducible intro hc; (try simp only [capsP, and_true] at hc); (try exact xfC)) | ((fail_if_success (with_reducible first | refine xgon ?_ | intro _)); (conv => whnf); (fail_if_success (fail_if_success (with_reducible first | refine xstp ?_ | refine Both.mk ?_ ?_ | refine xgon ?_ | intro _)))))
    all_goals (
      rw [hgd] at hst
      refine ⟨⟨i + 1, by omega⟩, [0, 1, 2], by simp only; omega, ?_⟩
      (repeat' first | refine And.intro ?_ ?_ | exact xeC | fail)
      all_goals first
        | (rw [hst, if_pos (by omega)]; done)
        | (rw [hst, if_pos (by omega)]; omega)
        | (rw [hst, if_neg (by omega)]; done)
        | (rw [hst, if_neg (by omega)]; omega))
  · rw [List.take_of_length_le (by omega)]
    refine FinK.mk ⟨[0, 1], _, _, ⟨rfl, rfl⟩, ?_⟩; (repeat' first | refine And.intro ?_ ?_ | exact xeC | fail)
def staR (ke : Int) (R : List Pn) (t : Int) : List Int := (R.filter fun e => decide (¬ okT t ∨ ke < age e.t t)).map Pn.id
set_option maxRecDepth 10000 in
theorem cStaleR (x : Rx) (hu ke : Int) (R : List Pn) (c : Nat) (t : Int) (hR : R.length ≤ 8) (hT : ∀ e ∈ R, okT e.t) :
    Ctr Tryz.prog 37 [.c (.p 0 0 6), .c (.i .i64 t)] (refB x hu ke R c)
      fun v h => ∃ c', v = .c (.sl 2 0 1 0 (staR ke R t).length c') ∧ h = refB x hu ke R c ++ [.one (intR (staR ke R t) c')] := by
  refine Ctr.mk' tbv mixed Tryz.func37 rfl rfl rfl (fun _ _ => by kernel_rfl) (by kernel_rfl) (by rfl) (by rfl) (by (repeat' first | refine And.intro ?_ ?_ | exact xeC | fail)) ?_
  repeat' (first | (fail_if_success (with_reducible refine xstp ?_)); first | ((with_reducible refine And.intro (fun (hb : _ = true) => ?_) (fun (hb : _ = false) => ?_)) <;> replace hb := xnC hb <;> (try first | exact xfC | exact bff hb (by assumption) | exact bff (by assumption) hb)) | (with_reducible refine Both.mk ?_ ?_) | ((with_reducible refine And.intro ?_ ?_); focus exact xoC) | ((with_reducible refine Or.inl ⟨?_, ?_, ?_⟩); (focus rfl); focus exact xaC) | ((with_reducible refine xwB ?_ ?_); focus exact xaC) | ((with_reducible refine xwC ?_ ?_); focus exact xaC) | ((with_reducible refine xwD ?_ ?_); focus exact xaC) | ((with_reducible refine xwE ?_ ?_); focus exact xaC) | (with_reducible intro hc; (try simp only [capsP, and_true] at hc); (try exact xfC)) | ((fail_if_success (with_reducible first | refine xgon ?_ | intro _)); (conv => whnf); (fail_if_success (fail_if_success (with_reducible first | refine xstp ?_ | refine Both.mk ?_ ?_ | refine xgon ?_ | intro _)))))
  refine LoopK.mk' {q : Nat × Nat // q.1 ≤ R.length}
    (fun ⟨(i, c2), _⟩ => ⟨[(0, .c (.p 0 0 6)), (1, .c (.i .i64 t)), (5, .c (.sl 2 0 1 0 (((R.take i).filter fun e => decide (¬ okT t ∨ ke < age e.t t)).map Pn.id).length c2)), (6, .c (.i .i64 (i : Nat)))],
      [.one (refC x hu ke R.length c), .one (refR R c), .one (intR (((R.take i).filter fun e => decide (¬ okT t ∨ ke < age e.t t)).map Pn.id) c2)]⟩) (fun q => R.length - q.1.1)
    ⟨⟨(0, 0), Nat.zero_le _⟩, [0, 1, 99], ?_⟩ ?_
  · (repeat' first | refine And.intro ?_ ?_ | exact xeC | fail)
    all_goals (intro i hi; exact absurd hi (Nat.not_lt_zero i))
  rintro ⟨⟨i, c2⟩, hi⟩
  simp only at hi
  have hfl : (((R.take i).filter fun e => decide (¬ okT t ∨ ke < age e.t t)).map Pn.id).length ≤ i := by
    have h1 := List.length_filter_le (fun e : Pn => decide (¬ okT t ∨ ke < age e.t t)) (R.take i)
    rw [List.length_take] at h1
    rw [List.length_map]
    omega
  repeat' (first | (fail_if_success (with_reducible refine xstp ?_)); first | ((with_reducible refine And.intro (fun (hb : _ = true) => ?_) (fun (hb : _ = false) => ?_)) <;> replace hb := xnC hb <;> (try first | exact xfC | exact bff hb (by assumption) | exact bff (by assumption) hb)) | (with_reducible refine Both.mk ?_ ?_) | ((with_reducible refine And.intro ?_ ?_); focus exact xoC) | ((with_reducible refine Or.inl ⟨?_, ?_, ?_⟩); (focus rfl); focus exact xaC) | ((with_reducible refine xwB ?_ ?_); focus exact xaC) | ((with_reducible refine xwC ?_ ?_); focus exact xaC) | ((with_reducible refine xwD ?_ ?_); focus exact xaC) | ((with_reducible refine xwE ?_ ?_); focus exact xaC) | (with_reducible intro hc; (try simp only [capsP, and_true] at hc); (try exact xfC)) | ((fail_if_success (with_reducible first | refine xgon ?_ | intro _)); (conv => whnf); (fail_if_success (fail_if_success (with_reducible first | refine xstp ?_ | refine Both.mk ?_ ?_ | refine xgon ?_ | intro _)))))
  · have hfs := filter_snoc (fun e : Pn => decide (¬ okT t ∨ ke < age e.t t)) R (i := i) (by omega)
    have hti := hT (R.getD i default) (by rw [getD_at (by omega)]; exact List.getElem_mem _)
    refine xcal (σ := []) (nl := []) (cTimeR t) ?_
    rintro v h' ⟨rfl, rfl⟩ hcaps
    refine xret ?_
    repeat' (first | (fail_if_success (with_reducible refine xstp ?_)); first | ((with_reducible refine And.intro (fun (hb : _ = true) => ?_) (fun (hb : _ = false) => ?_)) <;> replace hb := xnC hb <;> (try first | exact xfC | exact bff hb (by assumption) | exact bff (by assumption) hb)) | (with_reducible refine Both.mk ?_ ?_) | ((with_reducible refine And.intro ?_ ?_); focus exact xoC) | ((with_reducible refine Or.inl ⟨?_, ?_, ?_⟩); (focus rfl); focus exact xaC) | ((with_reducible refine xwB ?_ ?_); focus exact xaC) | ((with_reducible refine xwC ?_ ?_); focus exact xaC) | ((with_reducible refine xwD ?_ ?_); focus exact xaC) | ((with_reducible refine xwE ?_ ?_); focus exact xaC) | (with_reducible intro hc; (try simp only [capsP, and_true] at hc); (try exact xfC)) | ((fail_if_success (with_reducible first | refine xgon ?_ | intro _)); (conv => whnf); (fail_if_success (fail_if_success (with_reducible first | refine xstp ?_ | refine Both.mk ?_ ?_ | refine xgon ?_ | intro _)))))
    · rw [if_pos (decide_eq_true (Or.inl hb))] at hfs
      rename_i c3
      have hms := congrArg (List.map Pn.id) hfs
      rw [List.map_append, show List.map Pn.id [R.getD i default] = [(R.getD i default).id] from rfl] at hms
      refine ⟨⟨(i + 1, c3), by simp only; omega⟩, [0, 1, 4], by simp only; omega, ?_⟩
      (repeat' first | refine And.intro ?_ ?_ | exact xeC | fail)
      all_goals try rw [hms]
      all_goals first | omega | (simp only [List.length_append, List.length_singleton]; done) | (rw [List.length_append, List.length_singleton]; omega) | (intro i hi; (first | refine app_rowG _ _ _ _ ?_ i hi | refine app_row _ _ _ ?_ i hi); first | rfl | (simp only [Int.toNat_natCast, Nat.zero_add]; rfl))
    · have hot : okT t := by assumption
      refine xcal (σ := []) (nl := []) (cAgeR (R.getD i default) t hti hot) ?_
      rintro v h' ⟨rfl, rfl⟩ hcaps
      refine xret ?_
      repeat' (first | (fail_if_success (with_reducible refine xstp ?_)); first | ((with_reducible refine And.intro (fun (hb : _ = true) => ?_) (fun (hb : _ = false) => ?_)) <;> replace hb := xnC hb <;> (try first | exact xfC | exact bff hb (by assumption) | exact bff (by assumption) hb)) | (with_reducible refine Both.mk ?_ ?_) | ((with_reducible refine And.intro ?_ ?_); focus exact xoC) | ((with_reducible refine Or.inl ⟨?_, ?_, ?_⟩); (focus rfl); focus exact xaC) | ((with_reducible refine xwB ?_ ?_); focus exact xaC) | ((with_reducible refine xwC ?_ ?_); focus exact xaC) | ((with_reducible refine xwD ?_ ?_); focus exact xaC) | ((with_reducible refine xwE ?_ ?_); focus exact xaC) | (with_reducible intro hc; (try simp only [capsP, and_true] at hc); (try exact xfC)) | ((fail_if_success (with_reducible first | refine xgon ?_ | intro _)); (conv => whnf); (fail_if_success (fail_if_success (with_reducible first | refine xstp ?_ | refine Both.mk ?_ ?_ | refine xgon ?_ | intro _)))))
      · rw [if_pos (decide_eq_true (Or.inr hb))] at hfs
        rename_i c3
        have hms := congrArg (List.map Pn.id) hfs
        rw [List.map_append, show List.map Pn.id [R.getD i default] = [(R.getD i default).id] from rfl] at hms
        refine ⟨⟨(i + 1, c3), by simp only; omega⟩, [0, 1, 4], by simp only; omega, ?_⟩
        (repeat' first | refine And.intro ?_ ?_ | exact xeC | fail)
        all_goals try rw [hms]
        all_goals first | omega | (simp only [List.length_append, List.length_singleton]; done) | (rw [List.length_append, List.length_singleton]; omega) | (intro i hi; (first | refine app_rowG _ _ _ _ ?_ i hi | refine app_row _ _ _ ?_ i hi); first | rfl | (simp only [Int.toNat_natCast, Nat.zero_add]; rfl))
      · rw [if_neg (show ¬ (decide (¬ okT t ∨ ke < age (R.getD i default).t t) = true) by
            rw [decide_eq_true_eq]; intro h; rcases h with h | h; exact h hot; omega), List.append_nil] at hfs
        have hms := congrArg (List.map Pn.id) hfs
        refine ⟨⟨(i + 1, c2), by simp only; omega⟩, [0, 1, 2], by simp only; omega, ?_⟩
        (repeat' first | refine And.intro ?_ ?_ | exact xeC | fail)
        all_goals first
          | (rw [hms]; done)
          | exact Nat.le_of_eq (congrArg List.length hms)
          | (intro j hj; rw [hms])
  · rw [List.take_of_length_le (by omega)]
    refine FinK.mk ⟨[0, 1, 2], _, _, ⟨c2, rfl, rfl⟩, ?_⟩
    (repeat' first | refine And.intro ?_ ?_ | exact xeC | fail)
end Go.Proofs.YteifgkldagnodaaGreat

namespace Go.Proofs.YteifgkldagnodaaGreat
open Go.X
set_option linter.unusedVariables false
set_option linter.unusedSimpArgs false
def strip (e : Pn) : Pn := ⟨0, e.id, e.t, e.p⟩
def refL (M : List Pn) : List Pn := (lst M).map fun id => strip (ent M id)
theorem mem_at {M : List Pn} {e : Pn} : e ∈ M ↔ ∃ i, i < M.length ∧ M.getD i default = e := by
  constructor
  · intro h
    obtain ⟨i, hi, rfl⟩ := List.mem_iff_getElem.1 h
    exact ⟨i, hi, getD_at hi⟩
  · rintro ⟨i, hi, rfl⟩
    rw [getD_at hi]; exact List.getElem_mem _
theorem sortedP_uniq : ∀ {l m : List Pn}, l.Pairwise (fun a b => a.id < b.id) → m.Pairwise (fun a b => a.id < b.id) → (∀ x, x ∈ l ↔ x ∈ m) → l = m
  | [], [], _, _, _ => rfl
  | [], b :: m, _, _, h => absurd ((h b).2 (List.mem_cons_self ..)) (by simp)
  | a :: l, [], _, _, h => absurd ((h a).1 (List.mem_cons_self ..)) (by simp)
  | a :: l, b :: m, hl, hm, h => by
    have hl' := List.pairwise_cons.1 hl
    have hm' := List.pairwise_cons.1 hm
    have hab : a = b := by
      rcases List.mem_cons.1 ((h a).1 (List.mem_cons_self ..)) with e | e
      · exact e
      · rcases List.mem_cons.1 ((h b).2 (List.mem_cons_self ..)) with e' | e'
        · exact e'.symm
        · have := hl'.1 b e'
          have := hm'.1 a e
          omega
    subst hab
    rw [sortedP_uniq hl'.2 hm'.2 fun x => ?_]
    constructor
    · intro hx
      rcases List.mem_cons.1 ((h x).1 (List.mem_cons_of_mem _ hx)) with e | e
      · have := hl'.1 x hx; rw [e] at this; omega
      · exact e
    · intro hx
      rcases List.mem_cons.1 ((h x).2 (List.mem_cons_of_mem _ hx)) with e | e
      · have := hm'.1 x hx; rw [e] at this; omega
      · exact e
theorem fndP_mem {M : List Pn} {id : Int} {i : Nat} (h : fndP M id = some i) : M.getD i default ∈ M ∧ (M.getD i default).id = id := by
  obtain ⟨h1, h2⟩ := fndP_lt h
  exact ⟨mem_at.2 ⟨i, h1, rfl⟩, h2⟩
theorem POk.inj {ck : Nat} {M : List Pn} (h : POk ck M) {a b : Pn} (ha : a ∈ M) (hb : b ∈ M) (e : a.id = b.id) : a = b := by
  obtain ⟨i, hi, rfl⟩ := mem_at.1 ha
  obtain ⟨j, hj, rfl⟩ := mem_at.1 hb
  rcases (by omega : i < j ∨ j < i ∨ i = j) with h1 | h1 | h1
  · exact absurd e (h.ne i j h1 hj)
  · exact absurd e.symm (h.ne j i h1 hi)
  · rw [h1]
theorem ent_of {ck : Nat} {M : List Pn} (h : POk ck M) {e : Pn} (he : e ∈ M) : ent M e.id = e := by
  obtain ⟨i, hi, rfl⟩ := mem_at.1 he
  exact ent_at (fndP_some h.ne hi rfl)
theorem mem_lstE {ck : Nat} {M : List Pn} (h : POk ck M) (x : Int) : x ∈ lst M ↔ ∃ e ∈ M, e.id = x := by
  rw [mem_lst h]
  constructor
  · rintro ⟨i, hi, e⟩; exact ⟨_, mem_at.2 ⟨i, hi, rfl⟩, e⟩
  · rintro ⟨e, he, rfl⟩
    obtain ⟨i, hi, rfl⟩ := mem_at.1 he
    exact ⟨i, hi, rfl⟩
theorem mem_refL {ck : Nat} {M : List Pn} (h : POk ck M) (x : Pn) : x ∈ refL M ↔ ∃ e ∈ M, x = strip e := by
  unfold refL
  rw [List.mem_map]
  constructor
  · rintro ⟨id, hid, rfl⟩
    obtain ⟨e, he, rfl⟩ := (mem_lstE h id).1 hid
    exact ⟨e, he, by rw [ent_of h he]⟩
  · rintro ⟨e, he, rfl⟩
    exact ⟨e.id, (mem_lstE h _).2 ⟨e, he, rfl⟩, by rw [ent_of h he]⟩
theorem refL_map {ck : Nat} {M : List Pn} (h : POk ck M) : (refL M).map Pn.id = lst M := by
  unfold refL
  rw [List.map_map]
  conv => rhs; rw [← List.map_id (lst M)]
  apply List.map_congr_left
  intro x hx
  obtain ⟨e, he, rfl⟩ := (mem_lstE h x).1 hx
  show (strip (ent M e.id)).id = e.id
  rw [ent_of h he]
  rfl
theorem refL_len (M : List Pn) : (refL M).length ≤ 8 := by
  unfold refL
  rw [List.length_map]
  exact lst_len M
theorem refL_pw {ck : Nat} {M : List Pn} (h : POk ck M) : (refL M).Pairwise (fun a b => a.id < b.id) := by
  have := lst_pw M
  rw [← refL_map h, List.pairwise_map] at this
  exact this
theorem refL_t {ck : Nat} {M : List Pn} (h : POk ck M) : ∀ e ∈ refL M, okT e.t := by
  intro e he
  obtain ⟨x, hx, rfl⟩ := (mem_refL h e).1 he
  exact h.t x hx
theorem refL_p {ck : Nat} {M : List Pn} (h : POk ck M) : ∀ e ∈ refL M, okP e.p := by
  intro e he
  obtain ⟨x, hx, rfl⟩ := (mem_refL h e).1 he
  exact h.p x hx
theorem fnd_ref {ck : Nat} {M : List Pn} (h : POk ck M) (id : Int) : (fndP (refL M) id = none ∧ fndP M id = none) ∨ (∃ k i, fndP (refL M) id = some k ∧ fndP M id = some i ∧ (refL M).getD k default = strip (M.getD i default)) := by
  cases hf : fndP M id with
  | none =>
    left
    refine ⟨fndP_none fun i hi e => ?_, rfl⟩
    have hm := (mem_refL h _).1 (mem_at.2 ⟨i, hi, rfl⟩)
    obtain ⟨x, hx, hxe⟩ := hm
    obtain ⟨j, hj, rfl⟩ := mem_at.1 hx
    rw [hxe] at e
    rw [fndP_some h.ne hj e] at hf
    cases hf
  | some i =>
    right
    obtain ⟨hm, hid⟩ := fndP_mem hf
    have hr := (mem_refL h _).2 ⟨_, hm, rfl⟩
    obtain ⟨k, hk, hke⟩ := mem_at.1 hr
    refine ⟨k, i, ?_, rfl, hke⟩
    refine fndP_some (fun a b hab hb => ?_) hk (by rw [hke]; exact hid)
    have := List.pairwise_iff_getElem.1 (refL_pw h) a b (by omega) hb hab
    rw [getD_at (by omega), getD_at hb]
    omega
theorem seeE_ref {ck : Nat} {M : List Pn} (h : POk ck M) (id t : Int) (p : Pt) : seeE (refL M) id t p = seeE M id t p := by
  unfold seeE
  rcases fnd_ref h id with ⟨h1, h2⟩ | ⟨k, i, h1, h2, h3⟩
  · rw [h1, h2]
  · rw [h1, h2]
    simp only [h3, strip]
theorem leaE_ref {ck : Nat} {M : List Pn} (h : POk ck M) (id t : Int) : leaE (refL M) id t = leaE M id t := by
  unfold leaE
  rcases fnd_ref h id with ⟨h1, h2⟩ | ⟨k, i, h1, h2, h3⟩
  · rw [h1, h2]
  · rw [h1, h2]
    simp only [h3, strip]
theorem reaV_ref {ck : Nat} {M : List Pn} (h : POk ck M) (hu id t : Int) : reaV hu (refL M) id t = reaV hu M id t := by
  unfold reaV
  rcases fnd_ref h id with ⟨h1, h2⟩ | ⟨k, i, h1, h2, h3⟩
  · rw [h1, h2]
  · rw [h1, h2]
    simp only [h3, strip]
theorem refL_nil {ck : Nat} {M : List Pn} (h : POk ck M) : (refL M).length = 0 ↔ M.length = 0 := by
  constructor
  · intro h0
    cases M with
    | nil => rfl
    | cons a l =>
      have := (mem_refL h _).2 ⟨a, List.mem_cons_self .., rfl⟩
      rw [List.length_eq_zero_iff.1 h0] at this
      cases this
  · intro h0
    rw [List.length_eq_zero_iff.1 h0]
    rfl
theorem gap_ref {ck : Nat} {M : List Pn} (h : POk ck M) (hu t : Int) (p : Pt) : gapVR hu (refL M) t p = gapV hu M t p := by
  have hg : gapLR hu t p (refL M) = gapL hu M t p (lst M) := by
    unfold gapLR gapL refL
    rw [List.foldl_map]
    rfl
  unfold gapVR gapV
  rw [hg]
  by_cases h0 : M.length = 0
  · rw [if_pos h0, if_pos ((refL_nil h).2 h0)]
  · rw [if_neg h0, if_neg (fun e => h0 ((refL_nil h).1 e))]
theorem sta_ref {ck : Nat} {M : List Pn} (h : POk ck M) (ke t : Int) : staR ke (refL M) t = staL ke M t := by
  unfold staR staL refL
  rw [List.filter_map, List.map_map]
  have e : ((fun e : Pn => decide (¬ okT t ∨ ke < age e.t t)) ∘ fun id => strip (ent M id)) = fun x => decide (¬ okT t ∨ ke < age (ent M x).t t) := rfl
  rw [e]
  conv => rhs; rw [← List.map_id (List.filter _ _)]
  apply List.map_congr_left
  intro x hx
  obtain ⟨e, he, rfl⟩ := (mem_lstE h x).1 (List.mem_filter.1 hx).1
  show (strip (ent M e.id)).id = e.id
  rw [ent_of h he]
  rfl
end Go.Proofs.YteifgkldagnodaaGreat

namespace Go.Proofs.YteifgkldagnodaaGreat
open Go.X
set_option linter.unusedVariables false
set_option linter.unusedSimpArgs false
theorem POk.mk' {ck : Nat} {M : List Pn} (h1 : ∀ e ∈ M, (1 ≤ e.id ∧ e.id ≤ 8) ∧ okT e.t ∧ okP e.p ∧ e.s < ck) (h2 : M.Pairwise fun a b => a.id ≠ b.id ∧ a.s ≠ b.s) : POk ck M := by
  refine ⟨fun e he => (h1 e he).1, fun e he => (h1 e he).2.1, fun e he => (h1 e he).2.2.1, fun a b hab hb => ?_, fun a b hab hb => ?_, fun e he => (h1 e he).2.2.2⟩
  · rw [getD_at (by omega), getD_at hb]
    exact (List.pairwise_iff_getElem.1 h2 a b (by omega) hb hab).1
  · rw [getD_at (by omega), getD_at hb]
    exact (List.pairwise_iff_getElem.1 h2 a b (by omega) hb hab).2
theorem POk.pw {ck : Nat} {M : List Pn} (h : POk ck M) : M.Pairwise fun a b => a.id ≠ b.id ∧ a.s ≠ b.s := by
  rw [List.pairwise_iff_getElem]
  intro i j hi hj hij
  have h1 := h.ne i j hij hj
  have h2 := h.st i j hij hj
  rw [getD_at hi, getD_at hj] at h1 h2
  exact ⟨h1, h2⟩
theorem POk.all {ck : Nat} {M : List Pn} (h : POk ck M) : ∀ e ∈ M, (1 ≤ e.id ∧ e.id ≤ 8) ∧ okT e.t ∧ okP e.p ∧ e.s < ck := fun e he => ⟨h.id e he, h.t e he, h.p e he, h.lt e he⟩
theorem see_cond {M : List Pn} {id t : Int} {p : Pt} (h : seeE M id t p = 0) : (1 ≤ id ∧ id ≤ 8) ∧ okT t ∧ okP p := by
  unfold seeE at h
  split at h
  · exact absurd h (by decide)
  · rename_i h1
    exact Decidable.of_not_not h1
/-- What lies in the record behind See. -/
theorem mem_seeM {ck : Nat} {M : List Pn} (h : POk ck M) {id t : Int} {p : Pt} (h0 : seeE M id t p = 0) : (∃ s, s < (seeM M ck id t p).2 ∧ ∀ x, x ∈ (seeM M ck id t p).1 ↔ x = ⟨s, id, t, p⟩ ∨ (x ∈ M ∧ x.id ≠ id)) ∧ POk (seeM M ck id t p).2 (seeM M ck id t p).1 := by
  have hc := see_cond h0
  unfold seeM
  rw [if_neg (by rw [h0]; decide)]
  cases hf : fndP M id with
  | none =>
    have hno : ∀ e ∈ M, e.id ≠ id := fun e he e1 => by
      obtain ⟨i, hi, rfl⟩ := mem_at.1 he
      rw [fndP_some h.ne hi e1] at hf
      cases hf
    refine ⟨⟨ck, Nat.lt_succ_self _, fun x => ?_⟩, ?_⟩
    · simp only [List.mem_append, List.mem_singleton]
      constructor
      · rintro (hx | hx)
        · exact Or.inr ⟨hx, hno x hx⟩
        · exact Or.inl hx
      · rintro (hx | hx)
        · exact Or.inr hx
        · exact Or.inl hx.1
    · refine POk.mk' (fun e he => ?_) ?_
      · rcases List.mem_append.1 he with he | he
        · have := h.all e he
          exact ⟨this.1, this.2.1, this.2.2.1, Nat.lt_succ_of_lt this.2.2.2⟩
        · rw [List.mem_singleton.1 he]
          exact ⟨hc.1, hc.2.1, hc.2.2, Nat.lt_succ_self _⟩
      · rw [List.pairwise_append]
        refine ⟨h.pw, by simp, fun a ha b hb => ?_⟩
        rw [List.mem_singleton.1 hb]
        have := h.lt a ha
        exact ⟨hno a ha, by show a.s ≠ ck; omega⟩
  | some i =>
    obtain ⟨hi, hid⟩ := fndP_lt hf
    have hmi : M.getD i default ∈ M := mem_at.2 ⟨i, hi, rfl⟩
    have hget : ∀ j, (M.set i ⟨(M.getD i default).s, id, t, p⟩).getD j default = if j = i then ⟨(M.getD i default).s, id, t, p⟩ else M.getD j default := by
      intro j
      by_cases hj : j = i
      · subst hj
        rw [if_pos rfl]
        simp [List.getD, hi]
      · rw [if_neg hj]
        simp only [List.getD, List.getElem?_set_ne (Ne.symm hj)]
    refine ⟨⟨(M.getD i default).s, h.lt _ hmi, fun x => ?_⟩, ?_⟩
    · rw [mem_at]
      constructor
      · rintro ⟨j, hj, rfl⟩
        rw [List.length_set] at hj
        rw [hget]
        by_cases hji : j = i
        · rw [if_pos hji]; exact Or.inl rfl
        · rw [if_neg hji]
          refine Or.inr ⟨mem_at.2 ⟨j, hj, rfl⟩, ?_⟩
          rw [← hid]
          rcases (by omega : j < i ∨ i < j) with h1 | h1
          · exact h.ne j i h1 hi
          · exact fun e => h.ne i j h1 hj e.symm
      · rintro (hx | ⟨hx, hxn⟩)
        · exact ⟨i, by rw [List.length_set]; exact hi, by rw [hget, if_pos rfl]; exact hx.symm⟩
        · obtain ⟨j, hj, rfl⟩ := mem_at.1 hx
          have hji : j ≠ i := fun e => hxn (by rw [e]; exact hid)
          exact ⟨j, by rw [List.length_set]; exact hj, by rw [hget, if_neg hji]⟩
    · refine ⟨?_, ?_, ?_, fun a b hab hb => ?_, fun a b hab hb => ?_, ?_⟩
      · intro e he
        obtain ⟨j, hj, rfl⟩ := mem_at.1 he
        rw [List.length_set] at hj
        rw [hget]
        split
        · exact hc.1
        · exact h.id _ (mem_at.2 ⟨j, hj, rfl⟩)
      · intro e he
        obtain ⟨j, hj, rfl⟩ := mem_at.1 he
        rw [List.length_set] at hj
        rw [hget]
        split
        · exact hc.2.1
        · exact h.t _ (mem_at.2 ⟨j, hj, rfl⟩)
      · intro e he
        obtain ⟨j, hj, rfl⟩ := mem_at.1 he
        rw [List.length_set] at hj
        rw [hget]
        split
        · exact hc.2.2
        · exact h.p _ (mem_at.2 ⟨j, hj, rfl⟩)
      · rw [List.length_set] at hb
        have hids : ∀ j, ((M.set i ⟨(M.getD i default).s, id, t, p⟩).getD j default).id = (M.getD j default).id := fun j => by
          rw [hget]; split
          · rename_i e; rw [e, hid]
          · rfl
        rw [hids, hids]
        exact h.ne a b hab hb
      · rw [List.length_set] at hb
        have hss : ∀ j, ((M.set i ⟨(M.getD i default).s, id, t, p⟩).getD j default).s = (M.getD j default).s := fun j => by
          rw [hget]; split
          · rename_i e; rw [e]
          · rfl
        rw [hss, hss]
        exact h.st a b hab hb
      · intro e he
        obtain ⟨j, hj, rfl⟩ := mem_at.1 he
        rw [List.length_set] at hj
        rw [hget]
        split
        · exact h.lt (M.getD i default) hmi
        · exact h.lt _ (mem_at.2 ⟨j, hj, rfl⟩)
theorem see_pok {ck : Nat} {M : List Pn} (h : POk ck M) (id t : Int) (p : Pt) : POk (seeM M ck id t p).2 (seeM M ck id t p).1 := by
  by_cases h0 : seeE M id t p = 0
  · exact (mem_seeM h h0).2
  · rw [show seeM M ck id t p = (M, ck) from if_pos h0]; exact h
theorem slot_id {R : List Pn} {id t : Int} {p : Pt} {n : Int} {x : Pn} (hx : x ∈ slotR R id t p n) : x.id = n := by
  unfold slotR at hx
  split at hx
  · rename_i h; rw [List.mem_singleton.1 hx]; exact h.symm
  · split at hx
    · rename_i h; rw [List.mem_singleton.1 hx]; exact (fndP_mem h).2
    · cases hx
theorem acc_id {R : List Pn} {id t : Int} {p : Pt} : ∀ (k : Nat) {x : Pn}, x ∈ accR R id t p k → 1 ≤ x.id ∧ x.id ≤ k ∧ x ∈ slotR R id t p x.id
  | 0, x, hx => by simp [accR] at hx
  | k + 1, x, hx => by
    rw [accR_succ, List.mem_append] at hx
    rcases hx with hx | hx
    · have := acc_id k hx
      exact ⟨this.1, by omega, this.2.2⟩
    · have := slot_id hx
      exact ⟨by omega, by omega, by rw [this]; exact hx⟩
theorem mem_acc {R : List Pn} {id t : Int} {p : Pt} {n : Nat} {x : Pn} (hx : x ∈ slotR R id t p ((n : Nat) + 1 : Int)) : ∀ {k : Nat}, n < k → x ∈ accR R id t p k
  | 0, h => absurd h (Nat.not_lt_zero _)
  | k + 1, h => by
    rw [accR_succ, List.mem_append]
    by_cases h1 : n = k
    · subst h1; exact Or.inr hx
    · exact Or.inl (mem_acc hx (by omega))
theorem acc_pw {R : List Pn} {id t : Int} {p : Pt} : ∀ k, (accR R id t p k).Pairwise fun a b => a.id < b.id
  | 0 => by simp [accR]
  | k + 1 => by
    rw [accR_succ, List.pairwise_append]
    refine ⟨acc_pw k, ?_, fun a ha b hb => ?_⟩
    · have := slotR_le R id t p ((k : Nat) + 1 : Int)
      match hS : slotR R id t p ((k : Nat) + 1 : Int) with
      | [] => exact List.Pairwise.nil
      | [a] => exact List.pairwise_singleton ..
      | a :: b :: l => rw [hS] at this; simp at this
    · have h1 := acc_id k ha
      have h2 := slot_id hb
      omega
theorem see_ref {ck : Nat} {M : List Pn} (h : POk ck M) (id t : Int) (p : Pt) : seeR (refL M) id t p = refL (seeM M ck id t p).1 := by
  unfold seeR
  rw [seeE_ref h]
  by_cases h0 : seeE M id t p = 0
  · rw [if_neg (by rw [h0]; decide)]
    obtain ⟨⟨s, hs, hmem⟩, hok⟩ := mem_seeM h h0
    have hc := see_cond h0
    refine sortedP_uniq (acc_pw 8) (refL_pw hok) fun x => ?_
    rw [mem_refL hok]
    constructor
    · intro hx
      obtain ⟨h1, h2, h3⟩ := acc_id 8 hx
      unfold slotR at h3
      split at h3
      · rw [List.mem_singleton.1 h3]
        exact ⟨⟨s, id, t, p⟩, (hmem _).2 (Or.inl rfl), rfl⟩
      · rename_i hne
        split at h3
        · rename_i j hj
          have hxm := (fndP_mem hj).1
          rw [← List.mem_singleton.1 h3] at hxm
          obtain ⟨e, he, hxe⟩ := (mem_refL h x).1 hxm
          exact ⟨e, (hmem e).2 (Or.inr ⟨he, fun e1 => hne (by rw [hxe]; exact e1)⟩), hxe⟩
        · cases h3
    · rintro ⟨e, he, rfl⟩
      rcases (hmem e).1 he with rfl | ⟨hm, hne⟩
      · refine mem_acc (n := id.toNat - 1) ?_ (by omega)
        rw [show ((id.toNat - 1 : Nat) : Int) + 1 = id by omega]
        unfold slotR
        rw [if_pos rfl]
        exact List.mem_singleton.2 rfl
      · have hid := h.id e hm
        refine mem_acc (n := e.id.toNat - 1) ?_ (by omega)
        rw [show ((e.id.toNat - 1 : Nat) : Int) + 1 = e.id by omega]
        unfold slotR
        rw [if_neg hne]
        have hr : strip e ∈ refL M := (mem_refL h _).2 ⟨e, hm, rfl⟩
        obtain ⟨k, hk, hke⟩ := mem_at.1 hr
        rcases fnd_ref h e.id with ⟨h1, h2⟩ | ⟨k', i, h1, h2, h3⟩
        · exfalso
          obtain ⟨j, hj, hje⟩ := mem_at.1 hm
          rw [fndP_some h.ne hj (by rw [hje])] at h2
          cases h2
        · rw [h1]
          have h4 := fndP_mem h2
          rw [h.inj h4.1 hm h4.2] at h3
          show strip e ∈ [(refL M).getD k' default]
          rw [h3]
          exact List.mem_singleton.2 rfl
  · rw [if_pos h0, show seeM M ck id t p = (M, ck) from if_pos h0]
theorem cut_sub (R : List Pn) (k : Nat) : (R.take k ++ R.drop (k + 1)).Sublist R := by
  conv => rhs; rw [← List.take_append_drop k R]
  exact List.Sublist.append_left (by rw [← List.drop_drop]; exact List.drop_sublist _ _) _
theorem mem_cut {R : List Pn} (hn : R.Pairwise fun a b => a.id ≠ b.id) {k : Nat} (hk : k < R.length) (x : Pn) : x ∈ R.take k ++ R.drop (k + 1) ↔ x ∈ R ∧ x.id ≠ (R.getD k default).id := by
  have hd := List.pairwise_iff_getElem.1 hn
  constructor
  · intro hx
    refine ⟨(cut_sub R k).subset hx, ?_⟩
    rw [getD_at hk]
    rcases List.mem_append.1 hx with hx | hx
    · obtain ⟨j, hj, rfl⟩ := List.mem_iff_getElem.1 hx
      rw [List.length_take] at hj
      rw [List.getElem_take]
      exact hd j k (by omega) hk (by omega)
    · obtain ⟨j, hj, rfl⟩ := List.mem_iff_getElem.1 hx
      rw [List.length_drop] at hj
      rw [List.getElem_drop]
      exact fun e => hd k (k + 1 + j) hk (by omega) (by omega) e.symm
  · rintro ⟨hx, hne⟩
    obtain ⟨j, hj, rfl⟩ := List.mem_iff_getElem.1 hx
    rw [getD_at hk] at hne
    rcases (by omega : j < k ∨ k < j ∨ j = k) with h | h | h
    · refine List.mem_append_left _ (List.mem_iff_getElem.2 ⟨j, by rw [List.length_take]; omega, ?_⟩)
      rw [List.getElem_take]
    · refine List.mem_append_right _ (List.mem_iff_getElem.2 ⟨j - (k + 1), by rw [List.length_drop]; omega, ?_⟩)
      rw [List.getElem_drop]
      congr 1
      omega
    · exact absurd (by subst h; rfl) hne
theorem lea_pok {ck : Nat} {M : List Pn} (h : POk ck M) (id t : Int) : POk ck (leaM M id t) := by
  unfold leaM
  split
  · exact h
  · split
    · rename_i i hf
      have hs := cut_sub M i
      exact POk.mk' (fun e he => h.all e (hs.subset he)) (h.pw.sublist hs)
    · exact h
theorem lea_ref {ck : Nat} {M : List Pn} (h : POk ck M) (id t : Int) : leaM (refL M) id t = refL (leaM M id t) := by
  have hok := lea_pok h id t
  unfold leaM at hok ⊢
  rw [leaE_ref h]
  by_cases h0 : leaE M id t = 0
  · rw [if_neg (by rw [h0]; decide)] at hok ⊢
    rw [if_neg (by rw [h0]; decide)]
    rcases fnd_ref h id with ⟨h1, h2⟩ | ⟨k, i, h1, h2, h3⟩
    · rw [h1, h2]
    · rw [h2] at hok
      rw [h1, h2]
      have hkl := (fndP_lt h1).1
      have hil := (fndP_lt h2).1
      have hpn : (refL M).Pairwise fun a b => a.id ≠ b.id := (refL_pw h).imp fun h => by omega
      refine sortedP_uniq ((refL_pw h).sublist (cut_sub _ _)) (refL_pw hok) fun x => ?_
      rw [mem_refL hok, mem_cut hpn hkl, mem_refL h, (fndP_lt h1).2]
      constructor
      · rintro ⟨⟨e, he, rfl⟩, hne⟩
        exact ⟨e, (mem_cut (h.pw.imp fun h => h.1) hil e).2 ⟨he, by rw [(fndP_lt h2).2]; exact hne⟩, rfl⟩
      · rintro ⟨e, he, rfl⟩
        have := (mem_cut (h.pw.imp fun h => h.1) hil e).1 he
        exact ⟨⟨e, this.1, rfl⟩, by have h5 := this.2; rw [(fndP_lt h2).2] at h5; exact h5⟩
  · rw [if_pos h0, if_pos h0]
end Go.Proofs.YteifgkldagnodaaGreat

namespace Go.Proofs.YteifgkldagnodaaGreat
open Go.X
set_option linter.unusedSimpArgs false
set_option linter.unusedVariables false
structure Lm where
  (sp ac br hu mg : Int)
deriving Inhabited
def encL (l : Lm) : List C := [.i .i64 l.sp, .i .i64 l.ac, .i .i64 l.br, .i .i64 l.hu, .i .i64 l.mg]
def okL (l : Lm) : Prop := (1 ≤ l.sp ∧ l.sp ≤ 4096) ∧ (1 ≤ l.ac ∧ l.ac ≤ l.sp) ∧ (1 ≤ l.br ∧ l.br ≤ l.sp) ∧ (0 ≤ l.hu ∧ l.hu ≤ 4096) ∧ (0 ≤ l.mg ∧ l.mg ≤ 1048576)
instance (l : Lm) : Decidable (okL l) := by unfold okL; infer_instance
structure Mo where
  (p v : Pt)
deriving Inhabited
def encM (m : Mo) : List C := [.i .i64 m.p.x, .i .i64 m.p.y, .i .i64 m.v.x, .i .i64 m.v.y]
def Pt.add (a b : Pt) : Pt := ⟨a.x + b.x, a.y + b.y⟩
def clN (x : Int) : Int := if x < -1048576 then -1048576 else if 1048576 < x then 1048576 else x
def clP (p : Pt) : Pt := ⟨clN p.x, clN p.y⟩
theorem clN_b (x : Int) : -1048576 ≤ clN x ∧ clN x ≤ 1048576 := by unfold clN; split <;> (try split) <;> omega
theorem clP_sm (p : Pt) : (clP p).sm := by
  have := clN_b p.x
  have := clN_b p.y
  unfold Pt.sm clP
  simp only
  omega
def vldM (m : Mo) (l : Lm) : Prop := okL l ∧ ((-l.sp ≤ m.v.x ∧ m.v.x ≤ l.sp) ∧ (-l.sp ≤ m.v.y ∧ m.v.y ≤ l.sp)) ∧ ((m.v.x * m.v.x + m.v.y * m.v.y ≤ l.sp * l.sp) ∧ clP m.p = m.p)
instance (m : Mo) (l : Lm) : Decidable (vldM m l) := by unfold vldM; infer_instance
set_option maxRecDepth 10000 in
theorem cwithinM (x a b : Int) : Ctr Tryz.prog 45 [.c (.i .i64 x), .c (.i .i64 a), .c (.i .i64 b)] [] fun v h => v = .c (.b (decide (a ≤ x ∧ x ≤ b))) ∧ h = [] := by
  refine Ctr.mk' tbv mixed Tryz.func45 rfl rfl rfl (fun _ _ => by kernel_rfl) (by kernel_rfl) (by rfl) (by rfl) (by (repeat' first | refine And.intro ?_ ?_ | exact xeC | fail)) ?_
  repeat' (first | (fail_if_success (with_reducible refine xstp ?_)); first | ((with_reducible refine And.intro (fun (hb : _ = true) => ?_) (fun (hb : _ = false) => ?_)) <;> replace hb := xnC hb <;> (try first | exact xfC | exact bff hb (by assumption) | exact bff (by assumption) hb)) | (with_reducible refine Both.mk ?_ ?_) | ((with_reducible refine And.intro ?_ ?_); focus exact xoC) | ((with_reducible refine Or.inl ⟨?_, ?_, ?_⟩); (focus rfl); focus exact xaC) | ((with_reducible refine xwB ?_ ?_); focus exact xaC) | ((with_reducible refine xwC ?_ ?_); focus exact xaC) | ((with_reducible refine xwD ?_ ?_); focus exact xaC) | ((with_reducible refine xwE ?_ ?_); focus exact xaC) | (with_reducible intro hc; (try simp only [capsP, and_true] at hc); (try exact xfC)) | ((fail_if_success (with_reducible first | refine xgon ?_ | intro _)); (conv => whnf); (fail_if_success (fail_if_success (with_reducible first | refine xstp ?_ | refine Both.mk ?_ ?_ | refine xgon ?_ | intro _)))))
  all_goals (
    refine FinK.mk ⟨[], _, _, ⟨rfl, rfl⟩, ?_⟩; (repeat' first | refine And.intro ?_ ?_ | exact xeC | fail)
    all_goals (first | exact decide_eq_true (by omega) | exact decide_eq_false (by omega) | exact (decide_eq_true (by omega)).symm | exact (decide_eq_false (by omega)).symm | exact decide_eq_decide.2 (by omega)))
def chkL (l : Lm) : Int := if okL l then 0 else 4
theorem chkL_n {l : Lm} (h : ¬ okL l) : chkL l = 4 := if_neg h
theorem chkL_y {l : Lm} (h : okL l) : chkL l = 0 := if_pos h
theorem chkL_e {l : Lm} : chkL l = 0 ↔ okL l := by
  by_cases h : okL l
  · exact ⟨fun _ => h, fun _ => chkL_y h⟩
  · rw [chkL_n h]; exact ⟨fun e => absurd e (by decide), fun e => absurd e h⟩
theorem rH51zmA0 {σ : List Sg} {H h' : List Fam} {v : T} {K : T → List Fam → Prop} {H' : List Fam} {v' : T} {N : Nat} (hk : K v' H') (hN : H.length = N := by (try simp only [↓List.length_cons, ↓List.length_nil, Nat.reduceAdd]) <;> rfl) (h : givesF σ N H σ h' = some H' := by (try simp (maxSteps := 1000000) only [givesF, setF, updF, Fam.zeroth, Fam.rk, Ck.rk, C.rk, E.rk, T.rk, key, List.map_cons, List.map_nil, List.cons_append, List.nil_append, List.length_cons, List.length_nil, Option.map_some, Option.bind_some, Nat.reduceAdd, Nat.zero_add, Nat.add_zero, Nat.add_sub_cancel_left, Int.toNat_natCast, reps, List.all_cons, List.all_nil, C.flat, List.append_eq, Bool.not_true, Bool.and_true, Bool.or_false, Bool.or_self, Bool.not_false, List.append_nil, Bool.and_self, encL]) <;> rfl) (hv : v.rk σ N = v' := by (try simp only [givesF, setF, updF, Fam.zeroth, Fam.rk, Ck.rk, C.rk, E.rk, T.rk, key, List.map_cons, List.map_nil, List.cons_append, List.nil_append, List.length_cons, List.length_nil, Option.map_some, Option.bind_some, Nat.reduceAdd, Nat.zero_add, Nat.add_zero, Nat.add_sub_cancel_left, Int.toNat_natCast, reps, List.all_cons, List.all_nil, C.flat, List.append_eq, Bool.not_true, Bool.and_true, Bool.or_false, Bool.or_self, Bool.not_false, List.append_nil, Bool.and_self, encL]) <;> rfl) : RetG σ H h' v K := ret_mk3 hN h hv hk
set_option maxRecDepth 10000 in
set_option maxHeartbeats 4000000 in
theorem cCheckM (l : Lm) : Ctr Tryz.prog 23 [.a (encL l)] [] fun v h => v = .c (.i .i64 (chkL l)) ∧ h = [] := by
  have hno : ¬ okL l → chkL l = 4 := chkL_n
  have hys : okL l → chkL l = 0 := chkL_y
  refine Ctr.mk' tbv mixed Tryz.func23 rfl rfl rfl (fun _ _ => by kernel_rfl) (by kernel_rfl) (by rfl) (by rfl) (by (repeat' first | refine And.intro ?_ ?_ | exact xeC | fail)) ?_
  repeat' (first | (fail_if_success (with_reducible refine xstp ?_)); first | ((with_reducible refine And.intro (fun (hb : _ = true) => ?_) (fun (hb : _ = false) => ?_)) <;> replace hb := xnC hb <;> (try first | exact xfC | exact bff hb (by assumption) | exact bff (by assumption) hb)) | (with_reducible refine Both.mk ?_ ?_) | ((with_reducible refine And.intro ?_ ?_); focus exact xoC) | ((with_reducible refine Or.inl ⟨?_, ?_, ?_⟩); (focus rfl); focus exact xaC) | ((with_reducible refine xwB ?_ ?_); focus exact xaC) | ((with_reducible refine xwC ?_ ?_); focus exact xaC) | ((with_reducible refine xwD ?_ ?_); focus exact xaC) | ((with_reducible refine xwE ?_ ?_); focus exact xaC) | (with_reducible intro hc; (try simp only [capsP, and_true] at hc); (try exact xfC)) | ((fail_if_success (with_reducible first | refine xgon ?_ | intro _)); (conv => whnf); (fail_if_success (fail_if_success (with_reducible first | refine xstp ?_ | refine Both.mk ?_ ?_ | refine xgon ?_ | intro _)))))
  refine xcal (σ := []) (nl := []) (cwithinM (l.sp) (1) (4096)) ?_
  rintro v h' ⟨rfl, rfl⟩ hcaps
  refine rH51zmA0 ?_
  repeat' (first | (fail_if_success (with_reducible refine xstp ?_)); first | ((with_reducible refine And.intro (fun (hb : _ = true) => ?_) (fun (hb : _ = false) => ?_)) <;> replace hb := xnC hb <;> (try first | exact xfC | exact bff hb (by assumption) | exact bff (by assumption) hb)) | (with_reducible refine Both.mk ?_ ?_) | ((with_reducible refine And.intro ?_ ?_); focus exact xoC) | ((with_reducible refine Or.inl ⟨?_, ?_, ?_⟩); (focus rfl); focus exact xaC) | ((with_reducible refine xwB ?_ ?_); focus exact xaC) | ((with_reducible refine xwC ?_ ?_); focus exact xaC) | ((with_reducible refine xwD ?_ ?_); focus exact xaC) | ((with_reducible refine xwE ?_ ?_); focus exact xaC) | (with_reducible intro hc; (try simp only [capsP, and_true] at hc); (try exact xfC)) | ((fail_if_success (with_reducible first | refine xgon ?_ | intro _)); (conv => whnf); (fail_if_success (fail_if_success (with_reducible first | refine xstp ?_ | refine Both.mk ?_ ?_ | refine xgon ?_ | intro _)))))
  all_goals try (
    rw [hno (fun h => by unfold okL at h; omega)]
    refine FinK.mk ⟨[], _, _, ⟨rfl, rfl⟩, ?_⟩; (repeat' first | refine And.intro ?_ ?_ | exact xeC | fail)
    done)
  refine xcal (σ := []) (nl := []) (cwithinM (l.ac) (1) (l.sp)) ?_
  rintro v h' ⟨rfl, rfl⟩ hcaps
  refine rH51zmA0 ?_
  repeat' (first | (fail_if_success (with_reducible refine xstp ?_)); first | ((with_reducible refine And.intro (fun (hb : _ = true) => ?_) (fun (hb : _ = false) => ?_)) <;> replace hb := xnC hb <;> (try first | exact xfC | exact bff hb (by assumption) | exact bff (by assumption) hb)) | (with_reducible refine Both.mk ?_ ?_) | ((with_reducible refine And.intro ?_ ?_); focus exact xoC) | ((with_reducible refine Or.inl ⟨?_, ?_, ?_⟩); (focus rfl); focus exact xaC) | ((with_reducible refine xwB ?_ ?_); focus exact xaC) | ((with_reducible refine xwC ?_ ?_); focus exact xaC) | ((with_reducible refine xwD ?_ ?_); focus exact xaC) | ((with_reducible refine xwE ?_ ?_); focus exact xaC) | (with_reducible intro hc; (try simp only [capsP, and_true] at hc); (try exact xfC)) | ((fail_if_success (with_reducible first | refine xgon ?_ | intro _)); (conv => whnf); (fail_if_success (fail_if_success (with_reducible first | refine xstp ?_ | refine Both.mk ?_ ?_ | refine xgon ?_ | intro _)))))
  all_goals try (
    rw [hno (fun h => by unfold okL at h; omega)]
    refine FinK.mk ⟨[], _, _, ⟨rfl, rfl⟩, ?_⟩; (repeat' first | refine And.intro ?_ ?_ | exact xeC | fail)
    done)
  refine xcal (σ := []) (nl := []) (cwithinM (l.br) (1) (l.sp)) ?_
  rintro v h' ⟨rfl, rfl⟩ hcaps
  refine rH51zmA0 ?_
  repeat' (first | (fail_if_success (with_reducible refine xstp ?_)); first | ((with_reducible refine And.intro (fun (hb : _ = true) => ?_) (fun (hb : _ = false) => ?_)) <;> replace hb := xnC hb <;> (try first | exact xfC | exact bff hb (by assumption) | exact bff (by assumption) hb)) | (with_reducible refine Both.mk ?_ ?_) | ((with_reducible refine And.intro ?_ ?_); focus exact xoC) | ((with_reducible refine Or.inl ⟨?_, ?_, ?_⟩); (focus rfl); focus exact xaC) | ((with_reducible refine xwB ?_ ?_); focus exact xaC) | ((with_reducible refine xwC ?_ ?_); focus exact xaC) | ((with_reducible refine xwD ?_ ?_); focus exact xaC) | ((with_reducible refine xwE ?_ ?_); focus exact xaC) | (with_reducible intro hc; (try simp only [capsP, and_true] at hc); (try exact xfC)) | ((fail_if_success (with_reducible first | refine xgon ?_ | intro _)); (conv => whnf); (fail_if_success (fail_if_success (with_reducible first | refine xstp ?_ | refine Both.mk ?_ ?_ | refine xgon ?_ | intro _)))))
  all_goals try (
    rw [hno (fun h => by unfold okL at h; omega)]
    refine FinK.mk ⟨[], _, _, ⟨rfl, rfl⟩, ?_⟩; (repeat' first | refine And.intro ?_ ?_ | exact xeC | fail)
    done)
  refine xcal (σ := []) (nl := []) (cwithinM (l.hu) (0) (4096)) ?_
  rintro v h' ⟨rfl, rfl⟩ hcaps
  refine rH51zmA0 ?_
  repeat' (first | (fail_if_success (with_reducible refine xstp ?_)); first | ((with_reducible refine And.intro (fun (hb : _ = true) => ?_) (fun (hb : _ = false) => ?_)) <;> replace hb := xnC hb <;> (try first | exact xfC | exact bff hb (by assumption) | exact bff (by assumption) hb)) | (with_reducible refine Both.mk ?_ ?_) | ((with_reducible refine And.intro ?_ ?_); focus exact xoC) | ((with_reducible refine Or.inl ⟨?_, ?_, ?_⟩); (focus rfl); focus exact xaC) | ((with_reducible refine xwB ?_ ?_); focus exact xaC) | ((with_reducible refine xwC ?_ ?_); focus exact xaC) | ((with_reducible refine xwD ?_ ?_); focus exact xaC) | ((with_reducible refine xwE ?_ ?_); focus exact xaC) | (with_reducible intro hc; (try simp only [capsP, and_true] at hc); (try exact xfC)) | ((fail_if_success (with_reducible first | refine xgon ?_ | intro _)); (conv => whnf); (fail_if_success (fail_if_success (with_reducible first | refine xstp ?_ | refine Both.mk ?_ ?_ | refine xgon ?_ | intro _)))))
  all_goals try (
    rw [hno (fun h => by unfold okL at h; omega)]
    refine FinK.mk ⟨[], _, _, ⟨rfl, rfl⟩, ?_⟩; (repeat' first | refine And.intro ?_ ?_ | exact xeC | fail)
    done)
  refine xcal (σ := []) (nl := []) (cwithinM (l.mg) (0) (1048576)) ?_
  rintro v h' ⟨rfl, rfl⟩ hcaps
  refine rH51zmA0 ?_
  repeat' (first | (fail_if_success (with_reducible refine xstp ?_)); first | ((with_reducible refine And.intro (fun (hb : _ = true) => ?_) (fun (hb : _ = false) => ?_)) <;> replace hb := xnC hb <;> (try first | exact xfC | exact bff hb (by assumption) | exact bff (by assumption) hb)) | (with_reducible refine Both.mk ?_ ?_) | ((with_reducible refine And.intro ?_ ?_); focus exact xoC) | ((with_reducible refine Or.inl ⟨?_, ?_, ?_⟩); (focus rfl); focus exact xaC) | ((with_reducible refine xwB ?_ ?_); focus exact xaC) | ((with_reducible refine xwC ?_ ?_); focus exact xaC) | ((with_reducible refine xwD ?_ ?_); focus exact xaC) | ((with_reducible refine xwE ?_ ?_); focus exact xaC) | (with_reducible intro hc; (try simp only [capsP, and_true] at hc); (try exact xfC)) | ((fail_if_success (with_reducible first | refine xgon ?_ | intro _)); (conv => whnf); (fail_if_success (fail_if_success (with_reducible first | refine xstp ?_ | refine Both.mk ?_ ?_ | refine xgon ?_ | intro _)))))
  all_goals try (
    rw [hno (fun h => by unfold okL at h; omega)]
    refine FinK.mk ⟨[], _, _, ⟨rfl, rfl⟩, ?_⟩; (repeat' first | refine And.intro ?_ ?_ | exact xeC | fail)
    done)
  · rw [hys (by unfold okL; omega)]
    refine FinK.mk ⟨[], _, _, ⟨rfl, rfl⟩, ?_⟩; (repeat' first | refine And.intro ?_ ?_ | exact xeC | fail)
set_option maxRecDepth 10000 in
theorem cSquareM (p : Pt) (hp : p.sm) : Ctr Tryz.prog 80 [.a (encPt p)] [] fun v h => v = .c (.i .i64 (p.x * p.x + p.y * p.y)) ∧ h = [] := by
  have h1 := sq_le hp.1
  have h2 := sq_le hp.2
  refine Ctr.mk' tbv mixed Tryz.func80 rfl rfl rfl (fun _ _ => by kernel_rfl) (by kernel_rfl) (by rfl) (by rfl) (by (repeat' first | refine And.intro ?_ ?_ | exact xeC | fail)) ?_
  repeat' (first | (fail_if_success (with_reducible refine xstp ?_)); first | ((with_reducible refine And.intro (fun (hb : _ = true) => ?_) (fun (hb : _ = false) => ?_)) <;> replace hb := xnC hb <;> (try first | exact xfC | exact bff hb (by assumption) | exact bff (by assumption) hb)) | (with_reducible refine Both.mk ?_ ?_) | ((with_reducible refine And.intro ?_ ?_); focus exact xoC) | ((with_reducible refine Or.inl ⟨?_, ?_, ?_⟩); (focus rfl); focus exact xaC) | ((with_reducible refine xwB ?_ ?_); focus exact xaC) | ((with_reducible refine xwC ?_ ?_); focus exact xaC) | ((with_reducible refine xwD ?_ ?_); focus exact xaC) | ((with_reducible refine xwE ?_ ?_); focus exact xaC) | (with_reducible intro hc; (try simp only [capsP, and_true] at hc); (try exact xfC)) | ((fail_if_success (with_reducible first | refine xgon ?_ | intro _)); (conv => whnf); (fail_if_success (fail_if_success (with_reducible first | refine xstp ?_ | refine Both.mk ?_ ?_ | refine xgon ?_ | intro _)))))
  refine FinK.mk ⟨[], _, _, ⟨rfl, rfl⟩, ?_⟩; (repeat' first | refine And.intro ?_ ?_ | exact xeC | fail)
set_option maxRecDepth 10000 in
theorem cClampF (x a b : Int) (h : a ≤ b) : Ctr Tryz.prog 97 [.c (.i .i64 x), .c (.i .i64 a), .c (.i .i64 b)] [] fun v h => v = .c (.i .i64 (if x < a then a else if b < x then b else x)) ∧ h = [] := by
  have e1 : x < a → (if x < a then a else if b < x then b else x) = a := fun h => if_pos h
  have e2 : ¬ x < a → b < x → (if x < a then a else if b < x then b else x) = b := fun h h2 => by rw [if_neg h, if_pos h2]
  have e3 : ¬ x < a → ¬ b < x → (if x < a then a else if b < x then b else x) = x := fun h h2 => by rw [if_neg h, if_neg h2]
  refine Ctr.mk' tbv mixed Tryz.func97 rfl rfl rfl (fun _ _ => by kernel_rfl) (by kernel_rfl) (by rfl) (by rfl) (by (repeat' first | refine And.intro ?_ ?_ | exact xeC | fail)) ?_
  repeat' (first | (fail_if_success (with_reducible refine xstp ?_)); first | ((with_reducible refine And.intro (fun (hb : _ = true) => ?_) (fun (hb : _ = false) => ?_)) <;> replace hb := xnC hb <;> (try first | exact xfC | exact bff hb (by assumption) | exact bff (by assumption) hb)) | (with_reducible refine Both.mk ?_ ?_) | ((with_reducible refine And.intro ?_ ?_); focus exact xoC) | ((with_reducible refine Or.inl ⟨?_, ?_, ?_⟩); (focus rfl); focus exact xaC) | ((with_reducible refine xwB ?_ ?_); focus exact xaC) | ((with_reducible refine xwC ?_ ?_); focus exact xaC) | ((with_reducible refine xwD ?_ ?_); focus exact xaC) | ((with_reducible refine xwE ?_ ?_); focus exact xaC) | (with_reducible intro hc; (try simp only [capsP, and_true] at hc); (try exact xfC)) | ((fail_if_success (with_reducible first | refine xgon ?_ | intro _)); (conv => whnf); (fail_if_success (fail_if_success (with_reducible first | refine xstp ?_ | refine Both.mk ?_ ?_ | refine xgon ?_ | intro _)))))
  · rw [e1 (by assumption)]
    refine FinK.mk ⟨[], _, _, ⟨rfl, rfl⟩, ?_⟩; (repeat' first | refine And.intro ?_ ?_ | exact xeC | fail)
  · rw [e2 (by omega) (by assumption)]
    refine FinK.mk ⟨[], _, _, ⟨rfl, rfl⟩, ?_⟩; (repeat' first | refine And.intro ?_ ?_ | exact xeC | fail)
  · rw [e3 (by omega) (by omega)]
    refine FinK.mk ⟨[], _, _, ⟨rfl, rfl⟩, ?_⟩; (repeat' first | refine And.intro ?_ ?_ | exact xeC | fail)
set_option maxRecDepth 10000 in
theorem cClamp1 (x : Int) : Ctr Tryz.prog 96 [.c (.i .i64 x)] [] fun v h => v = .c (.i .i64 (clN x)) ∧ h = [] := by
  refine Ctr.mk' tbv mixed Tryz.func96 rfl rfl rfl (fun _ _ => by kernel_rfl) (by kernel_rfl) (by rfl) (by rfl) (by (repeat' first | refine And.intro ?_ ?_ | exact xeC | fail)) ?_
  repeat' (first | (fail_if_success (with_reducible refine xstp ?_)); first | ((with_reducible refine And.intro (fun (hb : _ = true) => ?_) (fun (hb : _ = false) => ?_)) <;> replace hb := xnC hb <;> (try first | exact xfC | exact bff hb (by assumption) | exact bff (by assumption) hb)) | (with_reducible refine Both.mk ?_ ?_) | ((with_reducible refine And.intro ?_ ?_); focus exact xoC) | ((with_reducible refine Or.inl ⟨?_, ?_, ?_⟩); (focus rfl); focus exact xaC) | ((with_reducible refine xwB ?_ ?_); focus exact xaC) | ((with_reducible refine xwC ?_ ?_); focus exact xaC) | ((with_reducible refine xwD ?_ ?_); focus exact xaC) | ((with_reducible refine xwE ?_ ?_); focus exact xaC) | (with_reducible intro hc; (try simp only [capsP, and_true] at hc); (try exact xfC)) | ((fail_if_success (with_reducible first | refine xgon ?_ | intro _)); (conv => whnf); (fail_if_success (fail_if_success (with_reducible first | refine xstp ?_ | refine Both.mk ?_ ?_ | refine xgon ?_ | intro _)))))
  refine xcal (σ := []) (nl := []) (cClampF x (-1048576) 1048576 (by decide)) ?_
  rintro v h' ⟨rfl, rfl⟩ hcaps
  refine xret ?_
  repeat' (first | (fail_if_success (with_reducible refine xstp ?_)); first | ((with_reducible refine And.intro (fun (hb : _ = true) => ?_) (fun (hb : _ = false) => ?_)) <;> replace hb := xnC hb <;> (try first | exact xfC | exact bff hb (by assumption) | exact bff (by assumption) hb)) | (with_reducible refine Both.mk ?_ ?_) | ((with_reducible refine And.intro ?_ ?_); focus exact xoC) | ((with_reducible refine Or.inl ⟨?_, ?_, ?_⟩); (focus rfl); focus exact xaC) | ((with_reducible refine xwB ?_ ?_); focus exact xaC) | ((with_reducible refine xwC ?_ ?_); focus exact xaC) | ((with_reducible refine xwD ?_ ?_); focus exact xaC) | ((with_reducible refine xwE ?_ ?_); focus exact xaC) | (with_reducible intro hc; (try simp only [capsP, and_true] at hc); (try exact xfC)) | ((fail_if_success (with_reducible first | refine xgon ?_ | intro _)); (conv => whnf); (fail_if_success (fail_if_success (with_reducible first | refine xstp ?_ | refine Both.mk ?_ ?_ | refine xgon ?_ | intro _)))))
  refine FinK.mk ⟨[], _, _, ⟨rfl, rfl⟩, ?_⟩; (repeat' first | refine And.intro ?_ ?_ | exact xeC | fail)
theorem rH51zmA1 {σ : List Sg} {H h' : List Fam} {v : T} {K : T → List Fam → Prop} {H' : List Fam} {v' : T} {N : Nat} (hk : K v' H') (hN : H.length = N := by (try simp only [↓List.length_cons, ↓List.length_nil, Nat.reduceAdd]) <;> rfl) (h : givesF σ N H σ h' = some H' := by (try simp (maxSteps := 1000000) only [givesF, setF, updF, Fam.zeroth, Fam.rk, Ck.rk, C.rk, E.rk, T.rk, key, List.map_cons, List.map_nil, List.cons_append, List.nil_append, List.length_cons, List.length_nil, Option.map_some, Option.bind_some, Nat.reduceAdd, Nat.zero_add, Nat.add_zero, Nat.add_sub_cancel_left, Int.toNat_natCast, reps, List.all_cons, List.all_nil, C.flat, List.append_eq, Bool.not_true, Bool.and_true, Bool.or_false, Bool.or_self, Bool.not_false, List.append_nil, Bool.and_self, encPt]) <;> rfl) (hv : v.rk σ N = v' := by (try simp only [givesF, setF, updF, Fam.zeroth, Fam.rk, Ck.rk, C.rk, E.rk, T.rk, key, List.map_cons, List.map_nil, List.cons_append, List.nil_append, List.length_cons, List.length_nil, Option.map_some, Option.bind_some, Nat.reduceAdd, Nat.zero_add, Nat.add_zero, Nat.add_sub_cancel_left, Int.toNat_natCast, reps, List.all_cons, List.all_nil, C.flat, List.append_eq, Bool.not_true, Bool.and_true, Bool.or_false, Bool.or_self, Bool.not_false, List.append_nil, Bool.and_self, encPt]) <;> rfl) : RetG σ H h' v K := ret_mk3 hN h hv hk
set_option maxRecDepth 10000 in
theorem cClamped (p : Pt) : Ctr Tryz.prog 81 [.a (encPt p)] [] fun v h => v = .a (encPt (clP p)) ∧ h = [] := by
  refine Ctr.mk' tbv mixed Tryz.func81 rfl rfl rfl (fun _ _ => by kernel_rfl) (by kernel_rfl) (by rfl) (by rfl) (by (repeat' first | refine And.intro ?_ ?_ | exact xeC | fail)) ?_
  repeat' (first | (fail_if_success (with_reducible refine xstp ?_)); first | ((with_reducible refine And.intro (fun (hb : _ = true) => ?_) (fun (hb : _ = false) => ?_)) <;> replace hb := xnC hb <;> (try first | exact xfC | exact bff hb (by assumption) | exact bff (by assumption) hb)) | (with_reducible refine Both.mk ?_ ?_) | ((with_reducible refine And.intro ?_ ?_); focus exact xoC) | ((with_reducible refine Or.inl ⟨?_, ?_, ?_⟩); (focus rfl); focus exact xaC) | ((with_reducible refine xwB ?_ ?_); focus exact xaC) | ((with_reducible refine xwC ?_ ?_); focus exact xaC) | ((with_reducible refine xwD ?_ ?_); focus exact xaC) | ((with_reducible refine xwE ?_ ?_); focus exact xaC) | (with_reducible intro hc; (try simp only [capsP, and_true] at hc); (try exact xfC)) | ((fail_if_success (with_reducible first | refine xgon ?_ | intro _)); (conv => whnf); (fail_if_success (fail_if_success (with_reducible first | refine xstp ?_ | refine Both.mk ?_ ?_ | refine xgon ?_ | intro _)))))
  all_goals (
    refine xcal (σ := []) (nl := []) (cClamp1 p.x) ?_
    rintro v h' ⟨rfl, rfl⟩ hcaps
    refine rH51zmA1 ?_
    repeat' (first | (fail_if_success (with_reducible refine xstp ?_)); first | ((with_reducible refine And.intro (fun (hb : _ = true) => ?_) (fun (hb : _ = false) => ?_)) <;> replace hb := xnC hb <;> (try first | exact xfC | exact bff hb (by assumption) | exact bff (by assumption) hb)) | (with_reducible refine Both.mk ?_ ?_) | ((with_reducible refine And.intro ?_ ?_); focus exact xoC) | ((with_reducible refine Or.inl ⟨?_, ?_, ?_⟩); (focus rfl); focus exact xaC) | ((with_reducible refine xwB ?_ ?_); focus exact xaC) | ((with_reducible refine xwC ?_ ?_); focus exact xaC) | ((with_reducible refine xwD ?_ ?_); focus exact xaC) | ((with_reducible refine xwE ?_ ?_); focus exact xaC) | (with_reducible intro hc; (try simp only [capsP, and_true] at hc); (try exact xfC)) | ((fail_if_success (with_reducible first | refine xgon ?_ | intro _)); (conv => whnf); (fail_if_success (fail_if_success (with_reducible first | refine xstp ?_ | refine Both.mk ?_ ?_ | refine xgon ?_ | intro _)))))
    refine xcal (σ := []) (nl := []) (cClamp1 p.y) ?_
    rintro v h' ⟨rfl, rfl⟩ hcaps
    refine rH51zmA1 ?_
    repeat' (first | (fail_if_success (with_reducible refine xstp ?_)); first | ((with_reducible refine And.intro (fun (hb : _ = true) => ?_) (fun (hb : _ = false) => ?_)) <;> replace hb := xnC hb <;> (try first | exact xfC | exact bff hb (by assumption) | exact bff (by assumption) hb)) | (with_reducible refine Both.mk ?_ ?_) | ((with_reducible refine And.intro ?_ ?_); focus exact xoC) | ((with_reducible refine Or.inl ⟨?_, ?_, ?_⟩); (focus rfl); focus exact xaC) | ((with_reducible refine xwB ?_ ?_); focus exact xaC) | ((with_reducible refine xwC ?_ ?_); focus exact xaC) | ((with_reducible refine xwD ?_ ?_); focus exact xaC) | ((with_reducible refine xwE ?_ ?_); focus exact xaC) | (with_reducible intro hc; (try simp only [capsP, and_true] at hc); (try exact xfC)) | ((fail_if_success (with_reducible first | refine xgon ?_ | intro _)); (conv => whnf); (fail_if_success (fail_if_success (with_reducible first | refine xstp ?_ | refine Both.mk ?_ ?_ | refine xgon ?_ | intro _)))))
    refine FinK.mk ⟨[], _, _, ⟨rfl, rfl⟩, ?_⟩; (repeat' first | refine And.intro ?_ ?_ | exact xeC | fail))
set_option maxRecDepth 10000 in
theorem cAddF (p q : Pt) (hp : p.sm) (hq : q.sm) :
    Ctr Tryz.prog 84 [.a (encPt p), .a (encPt q)] [] fun v h => v = .a (encPt (p.add q)) ∧ h = [] := by
  unfold Pt.sm at hp hq
  refine Ctr.mk' tbv mixed Tryz.func84 rfl rfl rfl (fun _ _ => by kernel_rfl) (by kernel_rfl) (by rfl) (by rfl) (by (repeat' first | refine And.intro ?_ ?_ | exact xeC | fail)) ?_
  repeat' (first | (fail_if_success (with_reducible refine xstp ?_)); first | ((with_reducible refine And.intro (fun (hb : _ = true) => ?_) (fun (hb : _ = false) => ?_)) <;> replace hb := xnC hb <;> (try first | exact xfC | exact bff hb (by assumption) | exact bff (by assumption) hb)) | (with_reducible refine Both.mk ?_ ?_) | ((with_reducible refine And.intro ?_ ?_); focus exact xoC) | ((with_reducible refine Or.inl ⟨?_, ?_, ?_⟩); (focus rfl); focus exact xaC) | ((with_reducible refine xwB ?_ ?_); focus exact xaC) | ((with_reducible refine xwC ?_ ?_); focus exact xaC) | ((with_reducible refine xwD ?_ ?_); focus exact xaC) | ((with_reducible refine xwE ?_ ?_); focus exact xaC) | (with_reducible intro hc; (try simp only [capsP, and_true] at hc); (try exact xfC)) | ((fail_if_success (with_reducible first | refine xgon ?_ | intro _)); (conv => whnf); (fail_if_success (fail_if_success (with_reducible first | refine xstp ?_ | refine Both.mk ?_ ?_ | refine xgon ?_ | intro _)))))
  refine FinK.mk ⟨[], _, _, ⟨rfl, rfl⟩, ?_⟩; (repeat' first | refine And.intro ?_ ?_ | exact xeC | fail)
set_option maxRecDepth 10000 in
theorem cDotF (p q : Pt) (hp : p.sm) (hpq : p = q) :
    Ctr Tryz.prog 41 [.a (encPt p), .a (encPt q)] [] fun v h => v = .c (.i .i64 (p.x * p.x + p.y * p.y)) ∧ h = [] := by
  subst hpq
  have h1 := sq_le hp.1
  have h2 := sq_le hp.2
  refine Ctr.mk' tbv mixed Tryz.func41 rfl rfl rfl (fun _ _ => by kernel_rfl) (by kernel_rfl) (by rfl) (by rfl) (by (repeat' first | refine And.intro ?_ ?_ | exact xeC | fail)) ?_
  repeat' (first | (fail_if_success (with_reducible refine xstp ?_)); first | ((with_reducible refine And.intro (fun (hb : _ = true) => ?_) (fun (hb : _ = false) => ?_)) <;> replace hb := xnC hb <;> (try first | exact xfC | exact bff hb (by assumption) | exact bff (by assumption) hb)) | (with_reducible refine Both.mk ?_ ?_) | ((with_reducible refine And.intro ?_ ?_); focus exact xoC) | ((with_reducible refine Or.inl ⟨?_, ?_, ?_⟩); (focus rfl); focus exact xaC) | ((with_reducible refine xwB ?_ ?_); focus exact xaC) | ((with_reducible refine xwC ?_ ?_); focus exact xaC) | ((with_reducible refine xwD ?_ ?_); focus exact xaC) | ((with_reducible refine xwE ?_ ?_); focus exact xaC) | (with_reducible intro hc; (try simp only [capsP, and_true] at hc); (try exact xfC)) | ((fail_if_success (with_reducible first | refine xgon ?_ | intro _)); (conv => whnf); (fail_if_success (fail_if_success (with_reducible first | refine xstp ?_ | refine Both.mk ?_ ?_ | refine xgon ?_ | intro _)))))
  refine FinK.mk ⟨[], _, _, ⟨rfl, rfl⟩, ?_⟩; (repeat' first | refine And.intro ?_ ?_ | exact xeC | fail)
end Go.Proofs.YteifgkldagnodaaGreat

namespace Go.Proofs.YteifgkldagnodaaGreat
open Go.X
set_option linter.unusedSimpArgs false
set_option linter.unusedVariables false
theorem rH51zmB0 {σ : List Sg} {H h' : List Fam} {v : T} {K : T → List Fam → Prop} {H' : List Fam} {v' : T} {N : Nat} (hk : K v' H') (hN : H.length = N := by (try simp only [↓List.length_cons, ↓List.length_nil, Nat.reduceAdd]) <;> rfl) (h : givesF σ N H σ h' = some H' := by (try simp (maxSteps := 1000000) only [givesF, setF, updF, Fam.zeroth, Fam.rk, Ck.rk, C.rk, E.rk, T.rk, key, List.map_cons, List.map_nil, List.cons_append, List.nil_append, List.length_cons, List.length_nil, Option.map_some, Option.bind_some, Nat.reduceAdd, Nat.zero_add, Nat.add_zero, Nat.add_sub_cancel_left, Int.toNat_natCast, reps, List.all_cons, List.all_nil, C.flat, List.append_eq, Bool.not_true, Bool.and_true, Bool.or_false, Bool.or_self, Bool.not_false, List.append_nil, Bool.and_self, encL]) <;> rfl) (hv : v.rk σ N = v' := by (try simp only [givesF, setF, updF, Fam.zeroth, Fam.rk, Ck.rk, C.rk, E.rk, T.rk, key, List.map_cons, List.map_nil, List.cons_append, List.nil_append, List.length_cons, List.length_nil, Option.map_some, Option.bind_some, Nat.reduceAdd, Nat.zero_add, Nat.add_zero, Nat.add_sub_cancel_left, Int.toNat_natCast, reps, List.all_cons, List.all_nil, C.flat, List.append_eq, Bool.not_true, Bool.and_true, Bool.or_false, Bool.or_self, Bool.not_false, List.append_nil, Bool.and_self, encL]) <;> rfl) : RetG σ H h' v K := ret_mk3 hN h hv hk
theorem rH51zmB1 {σ : List Sg} {H h' : List Fam} {v : T} {K : T → List Fam → Prop} {H' : List Fam} {v' : T} {N : Nat} (hk : K v' H') (hN : H.length = N := by (try simp only [↓List.length_cons, ↓List.length_nil, Nat.reduceAdd]) <;> rfl) (h : givesF σ N H σ h' = some H' := by (try simp (maxSteps := 1000000) only [givesF, setF, updF, Fam.zeroth, Fam.rk, Ck.rk, C.rk, E.rk, T.rk, key, List.map_cons, List.map_nil, List.cons_append, List.nil_append, List.length_cons, List.length_nil, Option.map_some, Option.bind_some, Nat.reduceAdd, Nat.zero_add, Nat.add_zero, Nat.add_sub_cancel_left, Int.toNat_natCast, reps, List.all_cons, List.all_nil, C.flat, List.append_eq, Bool.not_true, Bool.and_true, Bool.or_false, Bool.or_self, Bool.not_false, List.append_nil, Bool.and_self, encL, encM]) <;> rfl) (hv : v.rk σ N = v' := by (try simp only [givesF, setF, updF, Fam.zeroth, Fam.rk, Ck.rk, C.rk, E.rk, T.rk, key, List.map_cons, List.map_nil, List.cons_append, List.nil_append, List.length_cons, List.length_nil, Option.map_some, Option.bind_some, Nat.reduceAdd, Nat.zero_add, Nat.add_zero, Nat.add_sub_cancel_left, Int.toNat_natCast, reps, List.all_cons, List.all_nil, C.flat, List.append_eq, Bool.not_true, Bool.and_true, Bool.or_false, Bool.or_self, Bool.not_false, List.append_nil, Bool.and_self, encL, encM]) <;> rfl) : RetG σ H h' v K := ret_mk3 hN h hv hk
theorem rH51zmB2 {σ : List Sg} {H h' : List Fam} {v : T} {K : T → List Fam → Prop} {H' : List Fam} {v' : T} {N : Nat} (hk : K v' H') (hN : H.length = N := by (try simp only [↓List.length_cons, ↓List.length_nil, Nat.reduceAdd]) <;> rfl) (h : givesF σ N H σ h' = some H' := by (try simp (maxSteps := 1000000) only [givesF, setF, updF, Fam.zeroth, Fam.rk, Ck.rk, C.rk, E.rk, T.rk, key, List.map_cons, List.map_nil, List.cons_append, List.nil_append, List.length_cons, List.length_nil, Option.map_some, Option.bind_some, Nat.reduceAdd, Nat.zero_add, Nat.add_zero, Nat.add_sub_cancel_left, Int.toNat_natCast, reps, List.all_cons, List.all_nil, C.flat, List.append_eq, Bool.not_true, Bool.and_true, Bool.or_false, Bool.or_self, Bool.not_false, List.append_nil, Bool.and_self, encL, encM, encPt]) <;> rfl) (hv : v.rk σ N = v' := by (try simp only [givesF, setF, updF, Fam.zeroth, Fam.rk, Ck.rk, C.rk, E.rk, T.rk, key, List.map_cons, List.map_nil, List.cons_append, List.nil_append, List.length_cons, List.length_nil, Option.map_some, Option.bind_some, Nat.reduceAdd, Nat.zero_add, Nat.add_zero, Nat.add_sub_cancel_left, Int.toNat_natCast, reps, List.all_cons, List.all_nil, C.flat, List.append_eq, Bool.not_true, Bool.and_true, Bool.or_false, Bool.or_self, Bool.not_false, List.append_nil, Bool.and_self, encL, encM, encPt]) <;> rfl) : RetG σ H h' v K := ret_mk3 hN h hv hk
set_option maxRecDepth 10000 in
set_option maxHeartbeats 4000000 in
theorem cValidM (m : Mo) (l : Lm) : Ctr Tryz.prog 59 [.a (encM m), .a (encL l)] [] fun v h => v = .c (.b (decide (vldM m l))) ∧ h = [] := by
  have hN : ¬ vldM m l → decide (vldM m l) = false := fun h => decide_eq_false h
  have hmul : okL l → 0 ≤ l.sp * l.sp ∧ l.sp * l.sp ≤ 16777216 := fun h => by
    have h1 := sq_le (x := l.sp) (by unfold okL at h; omega)
    have h2 : l.sp * l.sp ≤ 4096 * 4096 := Int.mul_le_mul (by unfold okL at h; omega) (by unfold okL at h; omega) (by unfold okL at h; omega) (by decide)
    omega
  refine Ctr.mk' tbv mixed Tryz.func59 rfl rfl rfl (fun _ _ => by kernel_rfl) (by kernel_rfl) (by rfl) (by rfl) (by (repeat' first | refine And.intro ?_ ?_ | exact xeC | fail)) ?_
  repeat' (first | (fail_if_success (with_reducible refine xstp ?_)); first | ((with_reducible refine And.intro (fun (hb : _ = true) => ?_) (fun (hb : _ = false) => ?_)) <;> replace hb := xnC hb <;> (try first | exact xfC | exact bff hb (by assumption) | exact bff (by assumption) hb)) | (with_reducible refine Both.mk ?_ ?_) | ((with_reducible refine And.intro ?_ ?_); focus exact xoC) | ((with_reducible refine Or.inl ⟨?_, ?_, ?_⟩); (focus rfl); focus exact xaC) | ((with_reducible refine xwB ?_ ?_); focus exact xaC) | ((with_reducible refine xwC ?_ ?_); focus exact xaC) | ((with_reducible refine xwD ?_ ?_); focus exact xaC) | ((with_reducible refine xwE ?_ ?_); focus exact xaC) | (with_reducible intro hc; (try simp only [capsP, and_true] at hc); (try exact xfC)) | ((fail_if_success (with_reducible first | refine xgon ?_ | intro _)); (conv => whnf); (fail_if_success (fail_if_success (with_reducible first | refine xstp ?_ | refine Both.mk ?_ ?_ | refine xgon ?_ | intro _)))))
  refine xcal (σ := []) (nl := []) (cCheckM l) ?_
  rintro v h' ⟨rfl, rfl⟩ hcaps
  refine rH51zmB0 ?_
  repeat' (first | (fail_if_success (with_reducible refine xstp ?_)); first | ((with_reducible refine And.intro (fun (hb : _ = true) => ?_) (fun (hb : _ = false) => ?_)) <;> replace hb := xnC hb <;> (try first | exact xfC | exact bff hb (by assumption) | exact bff (by assumption) hb)) | (with_reducible refine Both.mk ?_ ?_) | ((with_reducible refine And.intro ?_ ?_); focus exact xoC) | ((with_reducible refine Or.inl ⟨?_, ?_, ?_⟩); (focus rfl); focus exact xaC) | ((with_reducible refine xwB ?_ ?_); focus exact xaC) | ((with_reducible refine xwC ?_ ?_); focus exact xaC) | ((with_reducible refine xwD ?_ ?_); focus exact xaC) | ((with_reducible refine xwE ?_ ?_); focus exact xaC) | (with_reducible intro hc; (try simp only [capsP, and_true] at hc); (try exact xfC)) | ((fail_if_success (with_reducible first | refine xgon ?_ | intro _)); (conv => whnf); (fail_if_success (fail_if_success (with_reducible first | refine xstp ?_ | refine Both.mk ?_ ?_ | refine xgon ?_ | intro _)))))
  · rw [hN (fun h => hb (chkL_y h.1))]
    refine FinK.mk ⟨[], _, _, ⟨rfl, rfl⟩, ?_⟩; (repeat' first | refine And.intro ?_ ?_ | exact xeC | fail)
  have hok := chkL_e.1 hb
  have hmul := hmul hok
  have hok2 := hok
  unfold okL at hok2
  repeat' (first | (fail_if_success (with_reducible refine xstp ?_)); first | ((with_reducible refine And.intro (fun (hb : _ = true) => ?_) (fun (hb : _ = false) => ?_)) <;> replace hb := xnC hb <;> (try first | exact xfC | exact bff hb (by assumption) | exact bff (by assumption) hb)) | (with_reducible refine Both.mk ?_ ?_) | ((with_reducible refine And.intro ?_ ?_); focus exact xoC) | ((with_reducible refine Or.inl ⟨?_, ?_, ?_⟩); (focus rfl); focus exact xaC) | ((with_reducible refine xwB ?_ ?_); focus exact xaC) | ((with_reducible refine xwC ?_ ?_); focus exact xaC) | ((with_reducible refine xwD ?_ ?_); focus exact xaC) | ((with_reducible refine xwE ?_ ?_); focus exact xaC) | (with_reducible intro hc; (try simp only [capsP, and_true] at hc); (try exact xfC)) | ((fail_if_success (with_reducible first | refine xgon ?_ | intro _)); (conv => whnf); (fail_if_success (fail_if_success (with_reducible first | refine xstp ?_ | refine Both.mk ?_ ?_ | refine xgon ?_ | intro _)))))
  refine xcal (σ := []) (nl := []) (cwithinM m.v.x (0 - l.sp) l.sp) ?_
  rintro v h' ⟨rfl, rfl⟩ hcaps
  refine rH51zmB1 ?_
  repeat' (first | (fail_if_success (with_reducible refine xstp ?_)); first | ((with_reducible refine And.intro (fun (hb : _ = true) => ?_) (fun (hb : _ = false) => ?_)) <;> replace hb := xnC hb <;> (try first | exact xfC | exact bff hb (by assumption) | exact bff (by assumption) hb)) | (with_reducible refine Both.mk ?_ ?_) | ((with_reducible refine And.intro ?_ ?_); focus exact xoC) | ((with_reducible refine Or.inl ⟨?_, ?_, ?_⟩); (focus rfl); focus exact xaC) | ((with_reducible refine xwB ?_ ?_); focus exact xaC) | ((with_reducible refine xwC ?_ ?_); focus exact xaC) | ((with_reducible refine xwD ?_ ?_); focus exact xaC) | ((with_reducible refine xwE ?_ ?_); focus exact xaC) | (with_reducible intro hc; (try simp only [capsP, and_true] at hc); (try exact xfC)) | ((fail_if_success (with_reducible first | refine xgon ?_ | intro _)); (conv => whnf); (fail_if_success (fail_if_success (with_reducible first | refine xstp ?_ | refine Both.mk ?_ ?_ | refine xgon ?_ | intro _)))))
  · rw [hN (fun h => by have := h.2.1; omega)]
    refine FinK.mk ⟨[], _, _, ⟨rfl, rfl⟩, ?_⟩; (repeat' first | refine And.intro ?_ ?_ | exact xeC | fail)
  refine xcal (σ := []) (nl := []) (cwithinM m.v.y (0 - l.sp) l.sp) ?_
  rintro v h' ⟨rfl, rfl⟩ hcaps
  refine rH51zmB1 ?_
  repeat' (first | (fail_if_success (with_reducible refine xstp ?_)); first | ((with_reducible refine And.intro (fun (hb : _ = true) => ?_) (fun (hb : _ = false) => ?_)) <;> replace hb := xnC hb <;> (try first | exact xfC | exact bff hb (by assumption) | exact bff (by assumption) hb)) | (with_reducible refine Both.mk ?_ ?_) | ((with_reducible refine And.intro ?_ ?_); focus exact xoC) | ((with_reducible refine Or.inl ⟨?_, ?_, ?_⟩); (focus rfl); focus exact xaC) | ((with_reducible refine xwB ?_ ?_); focus exact xaC) | ((with_reducible refine xwC ?_ ?_); focus exact xaC) | ((with_reducible refine xwD ?_ ?_); focus exact xaC) | ((with_reducible refine xwE ?_ ?_); focus exact xaC) | (with_reducible intro hc; (try simp only [capsP, and_true] at hc); (try exact xfC)) | ((fail_if_success (with_reducible first | refine xgon ?_ | intro _)); (conv => whnf); (fail_if_success (fail_if_success (with_reducible first | refine xstp ?_ | refine Both.mk ?_ ?_ | refine xgon ?_ | intro _)))))
  · rw [hN (fun h => by have := h.2.1; omega)]
    refine FinK.mk ⟨[], _, _, ⟨rfl, rfl⟩, ?_⟩; (repeat' first | refine And.intro ?_ ?_ | exact xeC | fail)
  have hvs : m.v.sm := by unfold Pt.sm; omega
  have h1 := sq_le hvs.1
  have h2 := sq_le hvs.2
  refine xcal (σ := []) (nl := []) (cSquareM m.v hvs) ?_
  rintro v h' ⟨rfl, rfl⟩ hcaps
  refine rH51zmB2 ?_
  repeat' (first | (fail_if_success (with_reducible refine xstp ?_)); first | ((with_reducible refine And.intro (fun (hb : _ = true) => ?_) (fun (hb : _ = false) => ?_)) <;> replace hb := xnC hb <;> (try first | exact xfC | exact bff hb (by assumption) | exact bff (by assumption) hb)) | (with_reducible refine Both.mk ?_ ?_) | ((with_reducible refine And.intro ?_ ?_); focus exact xoC) | ((with_reducible refine Or.inl ⟨?_, ?_, ?_⟩); (focus rfl); focus exact xaC) | ((with_reducible refine xwB ?_ ?_); focus exact xaC) | ((with_reducible refine xwC ?_ ?_); focus exact xaC) | ((with_reducible refine xwD ?_ ?_); focus exact xaC) | ((with_reducible refine xwE ?_ ?_); focus exact xaC) | (with_reducible intro hc; (try simp only [capsP, and_true] at hc); (try exact xfC)) | ((fail_if_success (with_reducible first | refine xgon ?_ | intro _)); (conv => whnf); (fail_if_success (fail_if_success (with_reducible first | refine xstp ?_ | refine Both.mk ?_ ?_ | refine xgon ?_ | intro _)))))
  · refine xcal (σ := []) (nl := []) (cClamped m.p) ?_
    rintro v h' ⟨rfl, rfl⟩ hcaps
    refine rH51zmB2 ?_
    repeat' (first | (fail_if_success (with_reducible refine xstp ?_)); first | ((with_reducible refine And.intro (fun (hb : _ = true) => ?_) (fun (hb : _ = false) => ?_)) <;> replace hb := xnC hb <;> (try first | exact xfC | exact bff hb (by assumption) | exact bff (by assumption) hb)) | (with_reducible refine Both.mk ?_ ?_) | ((with_reducible refine And.intro ?_ ?_); focus exact xoC) | ((with_reducible refine Or.inl ⟨?_, ?_, ?_⟩); (focus rfl); focus exact xaC) | ((with_reducible refine xwB ?_ ?_); focus exact xaC) | ((with_reducible refine xwC ?_ ?_); focus exact xaC) | ((with_reducible refine xwD ?_ ?_); focus exact xaC) | ((with_reducible refine xwE ?_ ?_); focus exact xaC) | (with_reducible intro hc; (try simp only [capsP, and_true] at hc); (try exact xfC)) | ((fail_if_success (with_reducible first | refine xgon ?_ | intro _)); (conv => whnf); (fail_if_success (fail_if_success (with_reducible first | refine xstp ?_ | refine Both.mk ?_ ?_ | refine xgon ?_ | intro _)))))
    refine FinK.mk ⟨[], _, _, ⟨rfl, rfl⟩, ?_⟩; (repeat' first | refine And.intro ?_ ?_ | exact xeC | fail)
    apply Bool.eq_iff_iff.2
    rw [decide_eq_true_iff]
    unfold vldM
    simp only [Bool.and_eq_true, decide_eq_true_eq, and_true]
    constructor
    · rintro ⟨e1, e2⟩
      refine ⟨hok, by omega, by assumption, ?_⟩
      rw [show clP m.p = ⟨(clP m.p).x, (clP m.p).y⟩ from rfl, ← e1, ← e2]
    · rintro ⟨_, _, _, e⟩
      rw [e]
      exact ⟨rfl, rfl⟩
  · rw [hN (fun h => by have := h.2.2.1; omega)]
    refine FinK.mk ⟨[], _, _, ⟨rfl, rfl⟩, ?_⟩; (repeat' first | refine And.intro ?_ ?_ | exact xeC | fail)
theorem tdiv_abs (x u : Int) : (x.tdiv u).natAbs ≤ x.natAbs := by rw [Int.natAbs_tdiv]; exact Nat.div_le_self _ _
/-- The root, rounded up. -/
def upN (x : Nat) : Nat := if isq x * isq x < x then isq x + 1 else isq x
def scl (p : Pt) (m : Int) : Pt := if (sqP p : Nat) ≤ m * m then p else ⟨(p.x * m).tdiv (upN (sqP p) : Nat), (p.y * m).tdiv (upN (sqP p) : Nat)⟩
theorem sqP_eq' {p : Pt} (h : p.sm) : ((sqP p : Nat) : Int) = p.x * p.x + p.y * p.y := (sqP_eq h).1.symm
theorem rH51zmB3 {σ : List Sg} {H h' : List Fam} {v : T} {K : T → List Fam → Prop} {H' : List Fam} {v' : T} {N : Nat} (hk : K v' H') (hN : H.length = N := by (try simp only [↓List.length_cons, ↓List.length_nil, Nat.reduceAdd]) <;> rfl) (h : givesF σ N H σ h' = some H' := by (try simp (maxSteps := 1000000) only [givesF, setF, updF, Fam.zeroth, Fam.rk, Ck.rk, C.rk, E.rk, T.rk, key, List.map_cons, List.map_nil, List.cons_append, List.nil_append, List.length_cons, List.length_nil, Option.map_some, Option.bind_some, Nat.reduceAdd, Nat.zero_add, Nat.add_zero, Nat.add_sub_cancel_left, Int.toNat_natCast, reps, List.all_cons, List.all_nil, C.flat, List.append_eq, Bool.not_true, Bool.and_true, Bool.or_false, Bool.or_self, Bool.not_false, List.append_nil, Bool.and_self, encPt]) <;> rfl) (hv : v.rk σ N = v' := by (try simp only [givesF, setF, updF, Fam.zeroth, Fam.rk, Ck.rk, C.rk, E.rk, T.rk, key, List.map_cons, List.map_nil, List.cons_append, List.nil_append, List.length_cons, List.length_nil, Option.map_some, Option.bind_some, Nat.reduceAdd, Nat.zero_add, Nat.add_zero, Nat.add_sub_cancel_left, Int.toNat_natCast, reps, List.all_cons, List.all_nil, C.flat, List.append_eq, Bool.not_true, Bool.and_true, Bool.or_false, Bool.or_self, Bool.not_false, List.append_nil, Bool.and_self, encPt]) <;> rfl) : RetG σ H h' v K := ret_mk3 hN h hv hk
set_option maxRecDepth 10000 in
set_option maxHeartbeats 4000000 in
theorem cScaleF (p : Pt) (m : Int) (hp : p.sm) (hm : 0 ≤ m ∧ m ≤ 4194304) : Ctr Tryz.prog 83 [.a (encPt p), .c (.i .i64 m)] [] fun v h => v = .a (encPt (scl p m)) ∧ h = [] := by
  have h3 := sqP_eq hp
  have h4 := isq_lt (sqP p)
  have h5 := isq_spec (n := sqP p) (by omega)
  have hm2 := sq_le (x := m) (by omega)
  have hmx : max m 0 = m := by omega
  have hpx : -17592186044416 ≤ p.x * m ∧ p.x * m ≤ 17592186044416 := by
    have h1 : (p.x * m).natAbs ≤ 4194304 * 4194304 := by rw [Int.natAbs_mul]; exact Nat.mul_le_mul (by have := hp.1; omega) (by omega)
    omega
  have hpy : -17592186044416 ≤ p.y * m ∧ p.y * m ≤ 17592186044416 := by
    have h1 : (p.y * m).natAbs ≤ 4194304 * 4194304 := by rw [Int.natAbs_mul]; exact Nat.mul_le_mul (by have := hp.2; omega) (by omega)
    omega
  refine Ctr.mk' tbv mixed Tryz.func83 rfl rfl rfl (fun _ _ => by kernel_rfl) (by kernel_rfl) (by rfl) (by rfl) (by (repeat' first | refine And.intro ?_ ?_ | exact xeC | fail)) ?_
  repeat' (first | (fail_if_success (with_reducible refine xstp ?_)); first | ((with_reducible refine And.intro (fun (hb : _ = true) => ?_) (fun (hb : _ = false) => ?_)) <;> replace hb := xnC hb <;> (try first | exact xfC | exact bff hb (by assumption) | exact bff (by assumption) hb)) | (with_reducible refine Both.mk ?_ ?_) | ((with_reducible refine And.intro ?_ ?_); focus exact xoC) | ((with_reducible refine Or.inl ⟨?_, ?_, ?_⟩); (focus rfl); focus exact xaC) | ((with_reducible refine xwB ?_ ?_); focus exact xaC) | ((with_reducible refine xwC ?_ ?_); focus exact xaC) | ((with_reducible refine xwD ?_ ?_); focus exact xaC) | ((with_reducible refine xwE ?_ ?_); focus exact xaC) | (with_reducible intro hc; (try simp only [capsP, and_true] at hc); (try exact xfC)) | ((fail_if_success (with_reducible first | refine xgon ?_ | intro _)); (conv => whnf); (fail_if_success (fail_if_success (with_reducible first | refine xstp ?_ | refine Both.mk ?_ ?_ | refine xgon ?_ | intro _)))))
  refine xcal (σ := []) (nl := []) (cSquare p hp) ?_
  rintro v h' ⟨rfl, rfl⟩ hcaps
  refine rH51zmB3 ?_
  repeat' (first | (fail_if_success (with_reducible refine xstp ?_)); first | ((with_reducible refine And.intro (fun (hb : _ = true) => ?_) (fun (hb : _ = false) => ?_)) <;> replace hb := xnC hb <;> (try first | exact xfC | exact bff hb (by assumption) | exact bff (by assumption) hb)) | (with_reducible refine Both.mk ?_ ?_) | ((with_reducible refine And.intro ?_ ?_); focus exact xoC) | ((with_reducible refine Or.inl ⟨?_, ?_, ?_⟩); (focus rfl); focus exact xaC) | ((with_reducible refine xwB ?_ ?_); focus exact xaC) | ((with_reducible refine xwC ?_ ?_); focus exact xaC) | ((with_reducible refine xwD ?_ ?_); focus exact xaC) | ((with_reducible refine xwE ?_ ?_); focus exact xaC) | (with_reducible intro hc; (try simp only [capsP, and_true] at hc); (try exact xfC)) | ((fail_if_success (with_reducible first | refine xgon ?_ | intro _)); (conv => whnf); (fail_if_success (fail_if_success (with_reducible first | refine xstp ?_ | refine Both.mk ?_ ?_ | refine xgon ?_ | intro _)))))
  rw [hmx]
  repeat' (first | (fail_if_success (with_reducible refine xstp ?_)); first | ((with_reducible refine And.intro (fun (hb : _ = true) => ?_) (fun (hb : _ = false) => ?_)) <;> replace hb := xnC hb <;> (try first | exact xfC | exact bff hb (by assumption) | exact bff (by assumption) hb)) | (with_reducible refine Both.mk ?_ ?_) | ((with_reducible refine And.intro ?_ ?_); focus exact xoC) | ((with_reducible refine Or.inl ⟨?_, ?_, ?_⟩); (focus rfl); focus exact xaC) | ((with_reducible refine xwB ?_ ?_); focus exact xaC) | ((with_reducible refine xwC ?_ ?_); focus exact xaC) | ((with_reducible refine xwD ?_ ?_); focus exact xaC) | ((with_reducible refine xwE ?_ ?_); focus exact xaC) | (with_reducible intro hc; (try simp only [capsP, and_true] at hc); (try exact xfC)) | ((fail_if_success (with_reducible first | refine xgon ?_ | intro _)); (conv => whnf); (fail_if_success (fail_if_success (with_reducible first | refine xstp ?_ | refine Both.mk ?_ ?_ | refine xgon ?_ | intro _)))))
  · have hs : scl p m = p := if_pos (by omega)
    rw [hs]
    refine FinK.mk ⟨[], _, _, ⟨rfl, rfl⟩, ?_⟩; (repeat' first | refine And.intro ?_ ?_ | exact xeC | fail)
  have hs : scl p m = _ := if_neg (by omega)
  rw [hs]
  unfold upN
  refine xcal (σ := []) (nl := []) (cRoot (sqP p) (by omega)) ?_
  rintro v h' ⟨rfl, rfl⟩ hcaps
  refine rH51zmB3 ?_
  have t1 := tdiv_abs (p.x * m) ((isq (sqP p) : Nat) : Int)
  have t2 := tdiv_abs (p.y * m) ((isq (sqP p) : Nat) : Int)
  have t3 := tdiv_abs (p.x * m) (((isq (sqP p) : Nat) : Int) + 1)
  have t4 := tdiv_abs (p.y * m) (((isq (sqP p) : Nat) : Int) + 1)
  have hcast : ((isq (sqP p) : Nat) : Int) * ((isq (sqP p) : Nat) : Int) = ((isq (sqP p) * isq (sqP p) : Nat) : Int) := by push_cast; rfl
  have hnz : ((sqP p : Nat) : Int) ≤ ((isq (sqP p) : Nat) : Int) * ((isq (sqP p) : Nat) : Int) → ((isq (sqP p) : Nat) : Int) ≠ 0 := fun h e => by
    rw [e] at h
    omega
  repeat' (first | (fail_if_success (with_reducible refine xstp ?_)); first | ((with_reducible refine And.intro (fun (hb : _ = true) => ?_) (fun (hb : _ = false) => ?_)) <;> replace hb := xnC hb <;> (try first | exact xfC | exact bff hb (by assumption) | exact bff (by assumption) hb)) | (with_reducible refine Both.mk ?_ ?_) | ((with_reducible refine And.intro ?_ ?_); focus exact xoC) | ((with_reducible refine Or.inl ⟨?_, ?_, ?_⟩); (focus rfl); focus exact xaC) | ((with_reducible refine xwB ?_ ?_); focus exact xaC) | ((with_reducible refine xwC ?_ ?_); focus exact xaC) | ((with_reducible refine xwD ?_ ?_); focus exact xaC) | ((with_reducible refine xwE ?_ ?_); focus exact xaC) | (with_reducible intro hc; (try simp only [capsP, and_true] at hc); (try exact xfC)) | ((fail_if_success (with_reducible first | refine xgon ?_ | intro _)); (conv => whnf); (fail_if_success (fail_if_success (with_reducible first | refine xstp ?_ | refine Both.mk ?_ ?_ | refine xgon ?_ | intro _)))))
  · rw [if_pos (by omega)]
    repeat' (first | (fail_if_success (with_reducible refine xstp ?_)); first | ((with_reducible refine And.intro (fun (hb : _ = true) => ?_) (fun (hb : _ = false) => ?_)) <;> replace hb := xnC hb <;> (try first | exact xfC | exact bff hb (by assumption) | exact bff (by assumption) hb)) | (with_reducible refine Both.mk ?_ ?_) | ((with_reducible refine And.intro ?_ ?_); focus exact xoC) | ((with_reducible refine Or.inl ⟨?_, ?_, ?_⟩); (focus rfl); focus exact xaC) | ((with_reducible refine xwB ?_ ?_); focus exact xaC) | ((with_reducible refine xwC ?_ ?_); focus exact xaC) | ((with_reducible refine xwD ?_ ?_); focus exact xaC) | ((with_reducible refine xwE ?_ ?_); focus exact xaC) | (with_reducible intro hc; (try simp only [capsP, and_true] at hc); (try exact xfC)) | ((fail_if_success (with_reducible first | refine xgon ?_ | intro _)); (conv => whnf); (fail_if_success (fail_if_success (with_reducible first | refine xstp ?_ | refine Both.mk ?_ ?_ | refine xgon ?_ | intro _)))))
    refine FinK.mk ⟨[], _, _, ⟨rfl, rfl⟩, ?_⟩; (repeat' first | refine And.intro ?_ ?_ | exact xeC | fail)
    all_goals skip
    done
  · have hnz := hnz hb
    rw [if_neg (by omega)]
    repeat' (first | (fail_if_success (with_reducible refine xstp ?_)); first | ((with_reducible refine And.intro (fun (hb : _ = true) => ?_) (fun (hb : _ = false) => ?_)) <;> replace hb := xnC hb <;> (try first | exact xfC | exact bff hb (by assumption) | exact bff (by assumption) hb)) | (with_reducible refine Both.mk ?_ ?_) | ((with_reducible refine And.intro ?_ ?_); focus exact xoC) | ((with_reducible refine Or.inl ⟨?_, ?_, ?_⟩); (focus rfl); focus exact xaC) | ((with_reducible refine xwB ?_ ?_); focus exact xaC) | ((with_reducible refine xwC ?_ ?_); focus exact xaC) | ((with_reducible refine xwD ?_ ?_); focus exact xaC) | ((with_reducible refine xwE ?_ ?_); focus exact xaC) | (with_reducible intro hc; (try simp only [capsP, and_true] at hc); (try exact xfC)) | ((fail_if_success (with_reducible first | refine xgon ?_ | intro _)); (conv => whnf); (fail_if_success (fail_if_success (with_reducible first | refine xstp ?_ | refine Both.mk ?_ ?_ | refine xgon ?_ | intro _)))))
    refine FinK.mk ⟨[], _, _, ⟨rfl, rfl⟩, ?_⟩; (repeat' first | refine And.intro ?_ ?_ | exact xeC | fail)
    all_goals skip
    done
theorem scl_le {p : Pt} {m : Int} (hp : p.sm) (hm : 0 ≤ m ∧ m ≤ 4194304) : (scl p m).x.natAbs ≤ p.x.natAbs ∧ (scl p m).y.natAbs ≤ p.y.natAbs := by
  unfold scl
  split
  · exact ⟨Nat.le_refl _, Nat.le_refl _⟩
  · rename_i hn
    have h3 := sqP_eq hp
    have h5 := isq_spec (n := sqP p) (by omega)
    obtain ⟨k, hk⟩ : ∃ k : Nat, (k : Int) = m := ⟨m.toNat, by omega⟩
    have hu : k < upN (sqP p) := by
      have h6 : sqP p ≤ upN (sqP p) * upN (sqP p) := by
        unfold upN
        split
        · omega
        · omega
      by_cases h : k < upN (sqP p)
      · exact h
      · have h7 : upN (sqP p) * upN (sqP p) ≤ k * k := Nat.mul_le_mul (by omega) (by omega)
        have h8 : m * m = ((k * k : Nat) : Int) := by rw [← hk]; push_cast; rfl
        omega
    have key : ∀ x : Int, ((x * m).tdiv (upN (sqP p) : Nat)).natAbs ≤ x.natAbs := fun x => by
      rw [Int.natAbs_tdiv, Int.natAbs_mul, Int.natAbs_natCast, ← hk, Int.natAbs_natCast]
      apply Nat.div_le_of_le_mul
      rw [Nat.mul_comm]
      exact Nat.mul_le_mul_right _ (by omega)
    exact ⟨key p.x, key p.y⟩
def half2 (d : Pt) : Pt := ⟨d.x.tdiv 2, d.y.tdiv 2⟩
def ovr (vel d : Pt) (sp : Int) : Prop := sp * sp < (vel.add d).x * (vel.add d).x + (vel.add d).y * (vel.add d).y
instance (vel d : Pt) (sp : Int) : Decidable (ovr vel d sp) := by unfold ovr; infer_instance
/-- Halved as long as the sum is too long. -/
def hvd (vel : Pt) (sp : Int) : Nat → Pt → Pt
  | 0, d => d
  | k + 1, d => if (d.x ≠ 0 ∨ d.y ≠ 0) ∧ ovr vel d sp then hvd vel sp k (half2 d) else d
def mag (d : Pt) : Nat := d.x.natAbs + d.y.natAbs
theorem half2_mag {d : Pt} (h : d.x ≠ 0 ∨ d.y ≠ 0) : mag (half2 d) < mag d ∧ (half2 d).x.natAbs ≤ d.x.natAbs ∧ (half2 d).y.natAbs ≤ d.y.natAbs := by
  have h1 : (d.x.tdiv 2).natAbs = d.x.natAbs / 2 := by rw [Int.natAbs_tdiv]; rfl
  have h2 : (d.y.tdiv 2).natAbs = d.y.natAbs / 2 := by rw [Int.natAbs_tdiv]; rfl
  unfold mag half2
  simp only [h1, h2]
  omega
def wnt (l : Lm) (vel want : Pt) : Pt :=
  let d := scl ((scl (clP want) l.sp).sub vel) l.ac
  vel.add (hvd vel l.sp (mag d) d)
theorem rH51zmB4 {σ : List Sg} {H h' : List Fam} {v : T} {K : T → List Fam → Prop} {H' : List Fam} {v' : T} {N : Nat} (hk : K v' H') (hN : H.length = N := by (try simp only [↓List.length_cons, ↓List.length_nil, Nat.reduceAdd]) <;> rfl) (h : givesF σ N H σ h' = some H' := by (try simp (maxSteps := 1000000) only [givesF, setF, updF, Fam.zeroth, Fam.rk, Ck.rk, C.rk, E.rk, T.rk, key, List.map_cons, List.map_nil, List.cons_append, List.nil_append, List.length_cons, List.length_nil, Option.map_some, Option.bind_some, Nat.reduceAdd, Nat.zero_add, Nat.add_zero, Nat.add_sub_cancel_left, Int.toNat_natCast, reps, List.all_cons, List.all_nil, C.flat, List.append_eq, Bool.not_true, Bool.and_true, Bool.or_false, Bool.or_self, Bool.not_false, List.append_nil, Bool.and_self, encL, encPt]) <;> rfl) (hv : v.rk σ N = v' := by (try simp only [givesF, setF, updF, Fam.zeroth, Fam.rk, Ck.rk, C.rk, E.rk, T.rk, key, List.map_cons, List.map_nil, List.cons_append, List.nil_append, List.length_cons, List.length_nil, Option.map_some, Option.bind_some, Nat.reduceAdd, Nat.zero_add, Nat.add_zero, Nat.add_sub_cancel_left, Int.toNat_natCast, reps, List.all_cons, List.all_nil, C.flat, List.append_eq, Bool.not_true, Bool.and_true, Bool.or_false, Bool.or_self, Bool.not_false, List.append_nil, Bool.and_self, encL, encPt]) <;> rfl) : RetG σ H h' v K := ret_mk3 hN h hv hk
set_option maxRecDepth 10000 in
set_option maxHeartbeats 4000000 in
theorem cWanted (l : Lm) (vel want : Pt) (hl : okL l) (hv : (-4096 ≤ vel.x ∧ vel.x ≤ 4096) ∧ (-4096 ≤ vel.y ∧ vel.y ≤ 4096)) :
    Ctr Tryz.prog 61 [.a (encL l), .a (encPt vel), .a (encPt want)] [] fun v h => v = .a (encPt (wnt l vel want)) ∧ h = [] := by
  have hl2 := hl
  unfold okL at hl2
  refine Ctr.mk' tbv mixed Tryz.func61 rfl rfl rfl (fun _ _ => by kernel_rfl) (by kernel_rfl) (by rfl) (by rfl) (by (repeat' first | refine And.intro ?_ ?_ | exact xeC | fail)) ?_
  have hcw := clP_sm want
  have hcl := clN_b want.x
  have hcl2 := clN_b want.y
  have hsw := scl_le hcw (m := l.sp) (by omega)
  have hwx : (scl (clP want) l.sp).x.natAbs ≤ 1048576 := Nat.le_trans hsw.1 (by show (clN want.x).natAbs ≤ _; omega)
  have hwy : (scl (clP want) l.sp).y.natAbs ≤ 1048576 := Nat.le_trans hsw.2 (by show (clN want.y).natAbs ≤ _; omega)
  have hws : (scl (clP want) l.sp).sm := by unfold Pt.sm; omega
  have hvs : vel.sm := by unfold Pt.sm; omega
  have hds : ((scl (clP want) l.sp).sub vel).sm := by unfold Pt.sm Pt.sub; simp only; omega
  have hsd := scl_le hds (m := l.ac) (by omega)
  have hdx : (scl ((scl (clP want) l.sp).sub vel) l.ac).x.natAbs ≤ 1052672 := Nat.le_trans hsd.1 (by unfold Pt.sub; simp only; omega)
  have hdy : (scl ((scl (clP want) l.sp).sub vel) l.ac).y.natAbs ≤ 1052672 := Nat.le_trans hsd.2 (by unfold Pt.sub; simp only; omega)
  have hm1 : 0 ≤ l.sp * l.sp ∧ l.sp * l.sp ≤ 17592186044416 := sq_le (by omega)
  repeat' (first | (fail_if_success (with_reducible refine xstp ?_)); first | ((with_reducible refine And.intro (fun (hb : _ = true) => ?_) (fun (hb : _ = false) => ?_)) <;> replace hb := xnC hb <;> (try first | exact xfC | exact bff hb (by assumption) | exact bff (by assumption) hb)) | (with_reducible refine Both.mk ?_ ?_) | ((with_reducible refine And.intro ?_ ?_); focus exact xoC) | ((with_reducible refine Or.inl ⟨?_, ?_, ?_⟩); (focus rfl); focus exact xaC) | ((with_reducible refine xwB ?_ ?_); focus exact xaC) | ((with_reducible refine xwC ?_ ?_); focus exact xaC) | ((with_reducible refine xwD ?_ ?_); focus exact xaC) | ((with_reducible refine xwE ?_ ?_); focus exact xaC) | (with_reducible intro hc; (try simp only [capsP, and_true] at hc); (try exact xfC)) | ((fail_if_success (with_reducible first | refine xgon ?_ | intro _)); (conv => whnf); (fail_if_success (fail_if_success (with_reducible first | refine xstp ?_ | refine Both.mk ?_ ?_ | refine xgon ?_ | intro _)))))
  all_goals (
    refine xcal (σ := []) (nl := []) (cClamped want) ?_
    rintro v h' ⟨rfl, rfl⟩ hcaps
    refine rH51zmB4 ?_
    repeat' (first | (fail_if_success (with_reducible refine xstp ?_)); first | ((with_reducible refine And.intro (fun (hb : _ = true) => ?_) (fun (hb : _ = false) => ?_)) <;> replace hb := xnC hb <;> (try first | exact xfC | exact bff hb (by assumption) | exact bff (by assumption) hb)) | (with_reducible refine Both.mk ?_ ?_) | ((with_reducible refine And.intro ?_ ?_); focus exact xoC) | ((with_reducible refine Or.inl ⟨?_, ?_, ?_⟩); (focus rfl); focus exact xaC) | ((with_reducible refine xwB ?_ ?_); focus exact xaC) | ((with_reducible refine xwC ?_ ?_); focus exact xaC) | ((with_reducible refine xwD ?_ ?_); focus exact xaC) | ((with_reducible refine xwE ?_ ?_); focus exact xaC) | (with_reducible intro hc; (try simp only [capsP, and_true] at hc); (try exact xfC)) | ((fail_if_success (with_reducible first | refine xgon ?_ | intro _)); (conv => whnf); (fail_if_success (fail_if_success (with_reducible first | refine xstp ?_ | refine Both.mk ?_ ?_ | refine xgon ?_ | intro _)))))
    skip)
  all_goals (
    refine xcal (σ := []) (nl := []) (cScaleF (clP want) l.sp hcw (by omega)) ?_
    rintro v h' ⟨rfl, rfl⟩ hcaps
    refine rH51zmB4 ?_
    repeat' (first | (fail_if_success (with_reducible refine xstp ?_)); first | ((with_reducible refine And.intro (fun (hb : _ = true) => ?_) (fun (hb : _ = false) => ?_)) <;> replace hb := xnC hb <;> (try first | exact xfC | exact bff hb (by assumption) | exact bff (by assumption) hb)) | (with_reducible refine Both.mk ?_ ?_) | ((with_reducible refine And.intro ?_ ?_); focus exact xoC) | ((with_reducible refine Or.inl ⟨?_, ?_, ?_⟩); (focus rfl); focus exact xaC) | ((with_reducible refine xwB ?_ ?_); focus exact xaC) | ((with_reducible refine xwC ?_ ?_); focus exact xaC) | ((with_reducible refine xwD ?_ ?_); focus exact xaC) | ((with_reducible refine xwE ?_ ?_); focus exact xaC) | (with_reducible intro hc; (try simp only [capsP, and_true] at hc); (try exact xfC)) | ((fail_if_success (with_reducible first | refine xgon ?_ | intro _)); (conv => whnf); (fail_if_success (fail_if_success (with_reducible first | refine xstp ?_ | refine Both.mk ?_ ?_ | refine xgon ?_ | intro _)))))
    skip)
  all_goals (
    refine xcal (σ := []) (nl := []) (cSub (scl (clP want) l.sp) vel hws hvs) ?_
    rintro v h' ⟨rfl, rfl⟩ hcaps
    refine rH51zmB4 ?_
    repeat' (first | (fail_if_success (with_reducible refine xstp ?_)); first | ((with_reducible refine And.intro (fun (hb : _ = true) => ?_) (fun (hb : _ = false) => ?_)) <;> replace hb := xnC hb <;> (try first | exact xfC | exact bff hb (by assumption) | exact bff (by assumption) hb)) | (with_reducible refine Both.mk ?_ ?_) | ((with_reducible refine And.intro ?_ ?_); focus exact xoC) | ((with_reducible refine Or.inl ⟨?_, ?_, ?_⟩); (focus rfl); focus exact xaC) | ((with_reducible refine xwB ?_ ?_); focus exact xaC) | ((with_reducible refine xwC ?_ ?_); focus exact xaC) | ((with_reducible refine xwD ?_ ?_); focus exact xaC) | ((with_reducible refine xwE ?_ ?_); focus exact xaC) | (with_reducible intro hc; (try simp only [capsP, and_true] at hc); (try exact xfC)) | ((fail_if_success (with_reducible first | refine xgon ?_ | intro _)); (conv => whnf); (fail_if_success (fail_if_success (with_reducible first | refine xstp ?_ | refine Both.mk ?_ ?_ | refine xgon ?_ | intro _)))))
    skip)
  all_goals (
    refine xcal (σ := []) (nl := []) (cScaleF ((scl (clP want) l.sp).sub vel) l.ac hds (by omega)) ?_
    rintro v h' ⟨rfl, rfl⟩ hcaps
    refine rH51zmB4 ?_
    repeat' (first | (fail_if_success (with_reducible refine xstp ?_)); first | ((with_reducible refine And.intro (fun (hb : _ = true) => ?_) (fun (hb : _ = false) => ?_)) <;> replace hb := xnC hb <;> (try first | exact xfC | exact bff hb (by assumption) | exact bff (by assumption) hb)) | (with_reducible refine Both.mk ?_ ?_) | ((with_reducible refine And.intro ?_ ?_); focus exact xoC) | ((with_reducible refine Or.inl ⟨?_, ?_, ?_⟩); (focus rfl); focus exact xaC) | ((with_reducible refine xwB ?_ ?_); focus exact xaC) | ((with_reducible refine xwC ?_ ?_); focus exact xaC) | ((with_reducible refine xwD ?_ ?_); focus exact xaC) | ((with_reducible refine xwE ?_ ?_); focus exact xaC) | (with_reducible intro hc; (try simp only [capsP, and_true] at hc); (try exact xfC)) | ((fail_if_success (with_reducible first | refine xgon ?_ | intro _)); (conv => whnf); (fail_if_success (fail_if_success (with_reducible first | refine xstp ?_ | refine Both.mk ?_ ?_ | refine xgon ?_ | intro _)))))
    skip)
  all_goals (
    obtain ⟨d0, hd0⟩ : ∃ d0, d0 = scl ((scl (clP want) l.sp).sub vel) l.ac := ⟨_, rfl⟩
    have hw0 : wnt l vel want = vel.add (hvd vel l.sp (mag d0) d0) := by rw [hd0]; rfl
    rw [← hd0] at hdx hdy
    rw [← hd0, hw0]
    refine LoopK.mk' {p : Nat × Pt // hvd vel l.sp p.1 p.2 = hvd vel l.sp (mag d0) d0 ∧ mag p.2 ≤ p.1 ∧ p.2.x.natAbs ≤ 1052672 ∧ p.2.y.natAbs ≤ 1052672}
      (fun ⟨(k, d), _⟩ => ⟨[(3, .c (.p 0 0 0)), (4, .c (.p 1 0 0)), (6, .c (.p 3 0 0)), (8, .c (.p 5 0 0))],
        [.one (.cells true (encL l)), .one (.cells true (encPt vel)), .one (.cells true (encPt want)), .one (.cells true [.i .i64 0, .i .i64 0]), .one (.cells true (encPt (scl (clP want) l.sp))), .one (.cells true (encPt d))]⟩) (fun q => q.1.1)
      ⟨⟨(mag d0, d0), rfl, Nat.le_refl _, hdx, hdy⟩, [0, 1, 2, 3, 4, 5], ?_⟩ ?_
    · (repeat' first | refine And.intro ?_ ?_ | exact xeC | fail)
    rintro ⟨⟨k, d⟩, hk, hmg, hx1, hy1⟩
    simp only at hk hmg hx1 hy1
    have ht1 := tdiv_abs d.x 2
    have ht2 := tdiv_abs d.y 2
    have hdsm : d.sm := by unfold Pt.sm; omega
    have hsum : (vel.add d).sm := by unfold Pt.sm Pt.add; simp only; omega
    have hq1 := sq_le hsum.1
    have hq2 := sq_le hsum.2
    have hstop : ¬ ((d.x ≠ 0 ∨ d.y ≠ 0) ∧ ovr vel d l.sp) → hvd vel l.sp k d = d := fun h => by
      cases k with
      | zero => rfl
      | succ k => rw [hvd, if_neg h]
    repeat' (first | (fail_if_success (with_reducible refine xstp ?_)); first | ((with_reducible refine And.intro (fun (hb : _ = true) => ?_) (fun (hb : _ = false) => ?_)) <;> replace hb := xnC hb <;> (try first | exact xfC | exact bff hb (by assumption) | exact bff (by assumption) hb)) | (with_reducible refine Both.mk ?_ ?_) | ((with_reducible refine And.intro ?_ ?_); focus exact xoC) | ((with_reducible refine Or.inl ⟨?_, ?_, ?_⟩); (focus rfl); focus exact xaC) | ((with_reducible refine xwB ?_ ?_); focus exact xaC) | ((with_reducible refine xwC ?_ ?_); focus exact xaC) | ((with_reducible refine xwD ?_ ?_); focus exact xaC) | ((with_reducible refine xwE ?_ ?_); focus exact xaC) | (with_reducible intro hc; (try simp only [capsP, and_true] at hc); (try exact xfC)) | ((fail_if_success (with_reducible first | refine xgon ?_ | intro _)); (conv => whnf); (fail_if_success (fail_if_success (with_reducible first | refine xstp ?_ | refine Both.mk ?_ ?_ | refine xgon ?_ | intro _)))))
    · refine xcal (σ := []) (nl := []) (cAddF vel d hvs hdsm) ?_
      rintro v h' ⟨rfl, rfl⟩ hcaps
      refine rH51zmB4 ?_
      repeat' (first | (fail_if_success (with_reducible refine xstp ?_)); first | ((with_reducible refine And.intro (fun (hb : _ = true) => ?_) (fun (hb : _ = false) => ?_)) <;> replace hb := xnC hb <;> (try first | exact xfC | exact bff hb (by assumption) | exact bff (by assumption) hb)) | (with_reducible refine Both.mk ?_ ?_) | ((with_reducible refine And.intro ?_ ?_); focus exact xoC) | ((with_reducible refine Or.inl ⟨?_, ?_, ?_⟩); (focus rfl); focus exact xaC) | ((with_reducible refine xwB ?_ ?_); focus exact xaC) | ((with_reducible refine xwC ?_ ?_); focus exact xaC) | ((with_reducible refine xwD ?_ ?_); focus exact xaC) | ((with_reducible refine xwE ?_ ?_); focus exact xaC) | (with_reducible intro hc; (try simp only [capsP, and_true] at hc); (try exact xfC)) | ((fail_if_success (with_reducible first | refine xgon ?_ | intro _)); (conv => whnf); (fail_if_success (fail_if_success (with_reducible first | refine xstp ?_ | refine Both.mk ?_ ?_ | refine xgon ?_ | intro _)))))
      refine xcal (σ := []) (nl := []) (cSquareM (vel.add d) hsum) ?_
      rintro v h' ⟨rfl, rfl⟩ hcaps
      refine rH51zmB4 ?_
      repeat' (first | (fail_if_success (with_reducible refine xstp ?_)); first | ((with_reducible refine And.intro (fun (hb : _ = true) => ?_) (fun (hb : _ = false) => ?_)) <;> replace hb := xnC hb <;> (try first | exact xfC | exact bff hb (by assumption) | exact bff (by assumption) hb)) | (with_reducible refine Both.mk ?_ ?_) | ((with_reducible refine And.intro ?_ ?_); focus exact xoC) | ((with_reducible refine Or.inl ⟨?_, ?_, ?_⟩); (focus rfl); focus exact xaC) | ((with_reducible refine xwB ?_ ?_); focus exact xaC) | ((with_reducible refine xwC ?_ ?_); focus exact xaC) | ((with_reducible refine xwD ?_ ?_); focus exact xaC) | ((with_reducible refine xwE ?_ ?_); focus exact xaC) | (with_reducible intro hc; (try simp only [capsP, and_true] at hc); (try exact xfC)) | ((fail_if_success (with_reducible first | refine xgon ?_ | intro _)); (conv => whnf); (fail_if_success (fail_if_success (with_reducible first | refine xstp ?_ | refine Both.mk ?_ ?_ | refine xgon ?_ | intro _)))))
      · have hne : d.x ≠ 0 ∨ d.y ≠ 0 := by omega
        obtain ⟨m1, m2, m3⟩ := half2_mag hne
        cases k with
        | zero =>
          exfalso
          unfold mag at hmg
          omega
        | succ k =>
          rw [hvd, if_pos ⟨hne, by assumption⟩] at hk
          refine ⟨⟨(k, half2 d), hk, by simp only; omega, by simp only; omega, by simp only; omega⟩, [0, 1, 2, 3, 4, 5], by simp only; omega, ?_⟩
          (repeat' first | refine And.intro ?_ ?_ | exact xeC | fail)
      · have hs := hstop (fun h => by have := h.2; unfold ovr at this; omega)
        rw [hs] at hk
        refine xcal (σ := []) (nl := []) (cAddF vel d hvs hdsm) ?_
        rintro v h' ⟨rfl, rfl⟩ hcaps
        refine rH51zmB4 ?_
        repeat' (first | (fail_if_success (with_reducible refine xstp ?_)); first | ((with_reducible refine And.intro (fun (hb : _ = true) => ?_) (fun (hb : _ = false) => ?_)) <;> replace hb := xnC hb <;> (try first | exact xfC | exact bff hb (by assumption) | exact bff (by assumption) hb)) | (with_reducible refine Both.mk ?_ ?_) | ((with_reducible refine And.intro ?_ ?_); focus exact xoC) | ((with_reducible refine Or.inl ⟨?_, ?_, ?_⟩); (focus rfl); focus exact xaC) | ((with_reducible refine xwB ?_ ?_); focus exact xaC) | ((with_reducible refine xwC ?_ ?_); focus exact xaC) | ((with_reducible refine xwD ?_ ?_); focus exact xaC) | ((with_reducible refine xwE ?_ ?_); focus exact xaC) | (with_reducible intro hc; (try simp only [capsP, and_true] at hc); (try exact xfC)) | ((fail_if_success (with_reducible first | refine xgon ?_ | intro _)); (conv => whnf); (fail_if_success (fail_if_success (with_reducible first | refine xstp ?_ | refine Both.mk ?_ ?_ | refine xgon ?_ | intro _)))))
        rw [← hk]
        refine FinK.mk ⟨[], _, _, ⟨rfl, rfl⟩, ?_⟩; (repeat' first | refine And.intro ?_ ?_ | exact xeC | fail)
    · have hs := hstop (fun h => by omega)
      rw [hs] at hk
      refine xcal (σ := []) (nl := []) (cAddF vel d hvs hdsm) ?_
      rintro v h' ⟨rfl, rfl⟩ hcaps
      refine rH51zmB4 ?_
      repeat' (first | (fail_if_success (with_reducible refine xstp ?_)); first | ((with_reducible refine And.intro (fun (hb : _ = true) => ?_) (fun (hb : _ = false) => ?_)) <;> replace hb := xnC hb <;> (try first | exact xfC | exact bff hb (by assumption) | exact bff (by assumption) hb)) | (with_reducible refine Both.mk ?_ ?_) | ((with_reducible refine And.intro ?_ ?_); focus exact xoC) | ((with_reducible refine Or.inl ⟨?_, ?_, ?_⟩); (focus rfl); focus exact xaC) | ((with_reducible refine xwB ?_ ?_); focus exact xaC) | ((with_reducible refine xwC ?_ ?_); focus exact xaC) | ((with_reducible refine xwD ?_ ?_); focus exact xaC) | ((with_reducible refine xwE ?_ ?_); focus exact xaC) | (with_reducible intro hc; (try simp only [capsP, and_true] at hc); (try exact xfC)) | ((fail_if_success (with_reducible first | refine xgon ?_ | intro _)); (conv => whnf); (fail_if_success (fail_if_success (with_reducible first | refine xstp ?_ | refine Both.mk ?_ ?_ | refine xgon ?_ | intro _)))))
      rw [← hk]
      refine FinK.mk ⟨[], _, _, ⟨rfl, rfl⟩, ?_⟩; (repeat' first | refine And.intro ?_ ?_ | exact xeC | fail))
end Go.Proofs.YteifgkldagnodaaGreat

namespace Go.Proofs.YteifgkldagnodaaGreat
open Go.X
set_option linter.unusedSimpArgs false
set_option linter.unusedVariables false
def ln (p : Pt) : Nat := isq (sqP p)
def brv (l : Lm) (vel : Pt) : Pt := scl vel (max 0 ((ln vel : Nat) - l.br))
theorem ln_le {p : Pt} (h : (-4096 ≤ p.x ∧ p.x ≤ 4096) ∧ (-4096 ≤ p.y ∧ p.y ≤ 4096)) : ln p ≤ 5793 := by
  have hp : p.sm := by unfold Pt.sm; omega
  have h1 := sqP_eq hp
  have hx : p.x * p.x ≤ 16777216 := by
    have h2 : p.x * p.x = ((p.x.natAbs * p.x.natAbs : Nat) : Int) := by rw [Int.natAbs_mul_self]
    have h3 : p.x.natAbs * p.x.natAbs ≤ 4096 * 4096 := Nat.mul_le_mul (by omega) (by omega)
    omega
  have hy : p.y * p.y ≤ 16777216 := by
    have h2 : p.y * p.y = ((p.y.natAbs * p.y.natAbs : Nat) : Int) := by rw [Int.natAbs_mul_self]
    have h3 : p.y.natAbs * p.y.natAbs ≤ 4096 * 4096 := Nat.mul_le_mul (by omega) (by omega)
    omega
  have h5 := (isq_spec (n := sqP p) (by omega)).1
  by_cases h : ln p ≤ 5793
  · exact h
  · have : 5794 * 5794 ≤ ln p * ln p := Nat.mul_le_mul (by omega) (by omega)
    unfold ln at this
    omega
theorem rH51zmC0 {σ : List Sg} {H h' : List Fam} {v : T} {K : T → List Fam → Prop} {H' : List Fam} {v' : T} {N : Nat} (hk : K v' H') (hN : H.length = N := by (try simp only [↓List.length_cons, ↓List.length_nil, Nat.reduceAdd]) <;> rfl) (h : givesF σ N H σ h' = some H' := by (try simp (maxSteps := 1000000) only [givesF, setF, updF, Fam.zeroth, Fam.rk, Ck.rk, C.rk, E.rk, T.rk, key, List.map_cons, List.map_nil, List.cons_append, List.nil_append, List.length_cons, List.length_nil, Option.map_some, Option.bind_some, Nat.reduceAdd, Nat.zero_add, Nat.add_zero, Nat.add_sub_cancel_left, Int.toNat_natCast, reps, List.all_cons, List.all_nil, C.flat, List.append_eq, Bool.not_true, Bool.and_true, Bool.or_false, Bool.or_self, Bool.not_false, List.append_nil, Bool.and_self, encL, encPt]) <;> rfl) (hv : v.rk σ N = v' := by (try simp only [givesF, setF, updF, Fam.zeroth, Fam.rk, Ck.rk, C.rk, E.rk, T.rk, key, List.map_cons, List.map_nil, List.cons_append, List.nil_append, List.length_cons, List.length_nil, Option.map_some, Option.bind_some, Nat.reduceAdd, Nat.zero_add, Nat.add_zero, Nat.add_sub_cancel_left, Int.toNat_natCast, reps, List.all_cons, List.all_nil, C.flat, List.append_eq, Bool.not_true, Bool.and_true, Bool.or_false, Bool.or_self, Bool.not_false, List.append_nil, Bool.and_self, encL, encPt]) <;> rfl) : RetG σ H h' v K := ret_mk3 hN h hv hk
set_option maxRecDepth 10000 in
set_option maxHeartbeats 4000000 in
theorem cBraked (l : Lm) (vel q : Pt) (hl : okL l) (hv : (-4096 ≤ vel.x ∧ vel.x ≤ 4096) ∧ (-4096 ≤ vel.y ∧ vel.y ≤ 4096)) :
    Ctr Tryz.prog 62 [.a (encL l), .a (encPt vel), .a (encPt q)] [] fun v h => v = .a (encPt (brv l vel)) ∧ h = [] := by
  have hvs : vel.sm := by unfold Pt.sm; omega
  have hlv := ln_le hv
  unfold okL at hl
  refine Ctr.mk' tbv mixed Tryz.func62 rfl rfl rfl (fun _ _ => by kernel_rfl) (by kernel_rfl) (by rfl) (by rfl) (by (repeat' first | refine And.intro ?_ ?_ | exact xeC | fail)) ?_
  repeat' (first | (fail_if_success (with_reducible refine xstp ?_)); first | ((with_reducible refine And.intro (fun (hb : _ = true) => ?_) (fun (hb : _ = false) => ?_)) <;> replace hb := xnC hb <;> (try first | exact xfC | exact bff hb (by assumption) | exact bff (by assumption) hb)) | (with_reducible refine Both.mk ?_ ?_) | ((with_reducible refine And.intro ?_ ?_); focus exact xoC) | ((with_reducible refine Or.inl ⟨?_, ?_, ?_⟩); (focus rfl); focus exact xaC) | ((with_reducible refine xwB ?_ ?_); focus exact xaC) | ((with_reducible refine xwC ?_ ?_); focus exact xaC) | ((with_reducible refine xwD ?_ ?_); focus exact xaC) | ((with_reducible refine xwE ?_ ?_); focus exact xaC) | (with_reducible intro hc; (try simp only [capsP, and_true] at hc); (try exact xfC)) | ((fail_if_success (with_reducible first | refine xgon ?_ | intro _)); (conv => whnf); (fail_if_success (fail_if_success (with_reducible first | refine xstp ?_ | refine Both.mk ?_ ?_ | refine xgon ?_ | intro _)))))
  refine xcal (σ := []) (nl := []) (cLength vel hvs) ?_
  rintro v h' ⟨rfl, rfl⟩ hcaps
  rw [show isq (sqP vel) = ln vel from rfl]
  refine rH51zmC0 ?_
  repeat' (first | (fail_if_success (with_reducible refine xstp ?_)); first | ((with_reducible refine And.intro (fun (hb : _ = true) => ?_) (fun (hb : _ = false) => ?_)) <;> replace hb := xnC hb <;> (try first | exact xfC | exact bff hb (by assumption) | exact bff (by assumption) hb)) | (with_reducible refine Both.mk ?_ ?_) | ((with_reducible refine And.intro ?_ ?_); focus exact xoC) | ((with_reducible refine Or.inl ⟨?_, ?_, ?_⟩); (focus rfl); focus exact xaC) | ((with_reducible refine xwB ?_ ?_); focus exact xaC) | ((with_reducible refine xwC ?_ ?_); focus exact xaC) | ((with_reducible refine xwD ?_ ?_); focus exact xaC) | ((with_reducible refine xwE ?_ ?_); focus exact xaC) | (with_reducible intro hc; (try simp only [capsP, and_true] at hc); (try exact xfC)) | ((fail_if_success (with_reducible first | refine xgon ?_ | intro _)); (conv => whnf); (fail_if_success (fail_if_success (with_reducible first | refine xstp ?_ | refine Both.mk ?_ ?_ | refine xgon ?_ | intro _)))))
  refine xcal (σ := []) (nl := []) (cScaleF vel (max 0 ((ln vel : Nat) - l.br)) hvs (by omega)) ?_
  rintro v h' ⟨rfl, rfl⟩ hcaps
  refine rH51zmC0 ?_
  repeat' (first | (fail_if_success (with_reducible refine xstp ?_)); first | ((with_reducible refine And.intro (fun (hb : _ = true) => ?_) (fun (hb : _ = false) => ?_)) <;> replace hb := xnC hb <;> (try first | exact xfC | exact bff hb (by assumption) | exact bff (by assumption) hb)) | (with_reducible refine Both.mk ?_ ?_) | ((with_reducible refine And.intro ?_ ?_); focus exact xoC) | ((with_reducible refine Or.inl ⟨?_, ?_, ?_⟩); (focus rfl); focus exact xaC) | ((with_reducible refine xwB ?_ ?_); focus exact xaC) | ((with_reducible refine xwC ?_ ?_); focus exact xaC) | ((with_reducible refine xwD ?_ ?_); focus exact xaC) | ((with_reducible refine xwE ?_ ?_); focus exact xaC) | (with_reducible intro hc; (try simp only [capsP, and_true] at hc); (try exact xfC)) | ((fail_if_success (with_reducible first | refine xgon ?_ | intro _)); (conv => whnf); (fail_if_success (fail_if_success (with_reducible first | refine xstp ?_ | refine Both.mk ?_ ?_ | refine xgon ?_ | intro _)))))
  refine FinK.mk ⟨[], _, _, ⟨rfl, rfl⟩, ?_⟩; (repeat' first | refine And.intro ?_ ?_ | exact xeC | fail)
def tck (m : Mo) (v : Pt) : Mo := ⟨clP (m.p.add v), v⟩
theorem rH51zmC1 {σ : List Sg} {H h' : List Fam} {v : T} {K : T → List Fam → Prop} {H' : List Fam} {v' : T} {N : Nat} (hk : K v' H') (hN : H.length = N := by (try simp only [↓List.length_cons, ↓List.length_nil, Nat.reduceAdd]) <;> rfl) (h : givesF σ N H σ h' = some H' := by (try simp (maxSteps := 1000000) only [givesF, setF, updF, Fam.zeroth, Fam.rk, Ck.rk, C.rk, E.rk, T.rk, key, List.map_cons, List.map_nil, List.cons_append, List.nil_append, List.length_cons, List.length_nil, Option.map_some, Option.bind_some, Nat.reduceAdd, Nat.zero_add, Nat.add_zero, Nat.add_sub_cancel_left, Int.toNat_natCast, reps, List.all_cons, List.all_nil, C.flat, List.append_eq, Bool.not_true, Bool.and_true, Bool.or_false, Bool.or_self, Bool.not_false, List.append_nil, Bool.and_self, encM, encPt]) <;> rfl) (hv : v.rk σ N = v' := by (try simp only [givesF, setF, updF, Fam.zeroth, Fam.rk, Ck.rk, C.rk, E.rk, T.rk, key, List.map_cons, List.map_nil, List.cons_append, List.nil_append, List.length_cons, List.length_nil, Option.map_some, Option.bind_some, Nat.reduceAdd, Nat.zero_add, Nat.add_zero, Nat.add_sub_cancel_left, Int.toNat_natCast, reps, List.all_cons, List.all_nil, C.flat, List.append_eq, Bool.not_true, Bool.and_true, Bool.or_false, Bool.or_self, Bool.not_false, List.append_nil, Bool.and_self, encM, encPt]) <;> rfl) : RetG σ H h' v K := ret_mk3 hN h hv hk
set_option maxRecDepth 10000 in
set_option maxHeartbeats 4000000 in
theorem cTickM (m : Mo) (v : Pt) (hp : m.p.sm) (hv : v.sm) :
    Ctr Tryz.prog 82 [.a (encM m), .a (encPt v)] [] fun v' h => v' = .a (encM (tck m v)) ∧ h = [] := by
  refine Ctr.mk' tbv mixed Tryz.func82 rfl rfl rfl (fun _ _ => by kernel_rfl) (by kernel_rfl) (by rfl) (by rfl) (by (repeat' first | refine And.intro ?_ ?_ | exact xeC | fail)) ?_
  repeat' (first | (fail_if_success (with_reducible refine xstp ?_)); first | ((with_reducible refine And.intro (fun (hb : _ = true) => ?_) (fun (hb : _ = false) => ?_)) <;> replace hb := xnC hb <;> (try first | exact xfC | exact bff hb (by assumption) | exact bff (by assumption) hb)) | (with_reducible refine Both.mk ?_ ?_) | ((with_reducible refine And.intro ?_ ?_); focus exact xoC) | ((with_reducible refine Or.inl ⟨?_, ?_, ?_⟩); (focus rfl); focus exact xaC) | ((with_reducible refine xwB ?_ ?_); focus exact xaC) | ((with_reducible refine xwC ?_ ?_); focus exact xaC) | ((with_reducible refine xwD ?_ ?_); focus exact xaC) | ((with_reducible refine xwE ?_ ?_); focus exact xaC) | (with_reducible intro hc; (try simp only [capsP, and_true] at hc); (try exact xfC)) | ((fail_if_success (with_reducible first | refine xgon ?_ | intro _)); (conv => whnf); (fail_if_success (fail_if_success (with_reducible first | refine xstp ?_ | refine Both.mk ?_ ?_ | refine xgon ?_ | intro _)))))
  all_goals (
    refine xcal (σ := []) (nl := []) (cAddF m.p v hp hv) ?_
    rintro v h' ⟨rfl, rfl⟩ hcaps
    refine rH51zmC1 ?_
    repeat' (first | (fail_if_success (with_reducible refine xstp ?_)); first | ((with_reducible refine And.intro (fun (hb : _ = true) => ?_) (fun (hb : _ = false) => ?_)) <;> replace hb := xnC hb <;> (try first | exact xfC | exact bff hb (by assumption) | exact bff (by assumption) hb)) | (with_reducible refine Both.mk ?_ ?_) | ((with_reducible refine And.intro ?_ ?_); focus exact xoC) | ((with_reducible refine Or.inl ⟨?_, ?_, ?_⟩); (focus rfl); focus exact xaC) | ((with_reducible refine xwB ?_ ?_); focus exact xaC) | ((with_reducible refine xwC ?_ ?_); focus exact xaC) | ((with_reducible refine xwD ?_ ?_); focus exact xaC) | ((with_reducible refine xwE ?_ ?_); focus exact xaC) | (with_reducible intro hc; (try simp only [capsP, and_true] at hc); (try exact xfC)) | ((fail_if_success (with_reducible first | refine xgon ?_ | intro _)); (conv => whnf); (fail_if_success (fail_if_success (with_reducible first | refine xstp ?_ | refine Both.mk ?_ ?_ | refine xgon ?_ | intro _)))))
    skip)
  all_goals (
    refine xcal (σ := []) (nl := []) (cClamped (m.p.add v)) ?_
    rintro v h' ⟨rfl, rfl⟩ hcaps
    refine rH51zmC1 ?_
    repeat' (first | (fail_if_success (with_reducible refine xstp ?_)); first | ((with_reducible refine And.intro (fun (hb : _ = true) => ?_) (fun (hb : _ = false) => ?_)) <;> replace hb := xnC hb <;> (try first | exact xfC | exact bff hb (by assumption) | exact bff (by assumption) hb)) | (with_reducible refine Both.mk ?_ ?_) | ((with_reducible refine And.intro ?_ ?_); focus exact xoC) | ((with_reducible refine Or.inl ⟨?_, ?_, ?_⟩); (focus rfl); focus exact xaC) | ((with_reducible refine xwB ?_ ?_); focus exact xaC) | ((with_reducible refine xwC ?_ ?_); focus exact xaC) | ((with_reducible refine xwD ?_ ?_); focus exact xaC) | ((with_reducible refine xwE ?_ ?_); focus exact xaC) | (with_reducible intro hc; (try simp only [capsP, and_true] at hc); (try exact xfC)) | ((fail_if_success (with_reducible first | refine xgon ?_ | intro _)); (conv => whnf); (fail_if_success (fail_if_success (with_reducible first | refine xstp ?_ | refine Both.mk ?_ ?_ | refine xgon ?_ | intro _)))))
    refine FinK.mk ⟨[], _, _, ⟨rfl, rfl⟩, ?_⟩; (repeat' first | refine And.intro ?_ ?_ | exact xeC | fail))
abbrev bfL (F : Nat) (l : Lm) : C := .bf F [[(.i64, l.sp), (.i64, l.ac), (.i64, l.br), (.i64, l.hu), (.i64, l.mg)]]
def mvd (m : Mo) (u : Pt) : Mo := tck m u
theorem wnt_sm {l : Lm} {vel want : Pt} (hl : okL l) (hv : (-4096 ≤ vel.x ∧ vel.x ≤ 4096) ∧ (-4096 ≤ vel.y ∧ vel.y ≤ 4096)) : (wnt l vel want).sm := by
  unfold okL at hl
  have hcw := clP_sm want
  have hcl := clN_b want.x
  have hcl2 := clN_b want.y
  have hsw := scl_le hcw (m := l.sp) (by omega)
  have hwx : (scl (clP want) l.sp).x.natAbs ≤ 1048576 := Nat.le_trans hsw.1 (by show (clN want.x).natAbs ≤ _; omega)
  have hwy : (scl (clP want) l.sp).y.natAbs ≤ 1048576 := Nat.le_trans hsw.2 (by show (clN want.y).natAbs ≤ _; omega)
  have hds : ((scl (clP want) l.sp).sub vel).sm := by unfold Pt.sm Pt.sub; simp only; omega
  have hsd := scl_le hds (m := l.ac) (by omega)
  have hdx : (scl ((scl (clP want) l.sp).sub vel) l.ac).x.natAbs ≤ 1052672 := Nat.le_trans hsd.1 (by unfold Pt.sub; simp only; omega)
  have hdy : (scl ((scl (clP want) l.sp).sub vel) l.ac).y.natAbs ≤ 1052672 := Nat.le_trans hsd.2 (by unfold Pt.sub; simp only; omega)
  have hk : ∀ (k : Nat) (d : Pt), d.x.natAbs ≤ 1052672 → d.y.natAbs ≤ 1052672 → (hvd vel l.sp k d).x.natAbs ≤ 1052672 ∧ (hvd vel l.sp k d).y.natAbs ≤ 1052672 := by
    intro k
    induction k with
    | zero => intro d h1 h2; exact ⟨h1, h2⟩
    | succ k ih =>
      intro d h1 h2
      rw [hvd]
      split
      · rename_i h
        obtain ⟨_, m2, m3⟩ := half2_mag h.1
        exact ih _ (by omega) (by omega)
      · exact ⟨h1, h2⟩
  have := hk (mag (scl ((scl (clP want) l.sp).sub vel) l.ac)) _ hdx hdy
  unfold wnt Pt.sm Pt.add
  simp only
  omega
theorem brv_sm {l : Lm} {vel : Pt} (hl : okL l) (hv : (-4096 ≤ vel.x ∧ vel.x ≤ 4096) ∧ (-4096 ≤ vel.y ∧ vel.y ≤ 4096)) : (brv l vel).sm := by
  unfold okL at hl
  have hvs : vel.sm := by unfold Pt.sm; omega
  have hlv := ln_le hv
  have := scl_le hvs (m := max 0 ((ln vel : Nat) - l.br)) (by omega)
  unfold brv Pt.sm
  omega
set_option maxRecDepth 10000 in
set_option maxHeartbeats 4000000 in
theorem cNextW (m : Mo) (want : Pt) (l : Lm) (hl : okL l) (hp : m.p.sm) (hv : (-4096 ≤ m.v.x ∧ m.v.x ≤ 4096) ∧ (-4096 ≤ m.v.y ∧ m.v.y ≤ 4096)) :
    Ctr Tryz.prog 60 [.a (encM m), .a (encPt want), .c (bfL 61 l)] [] fun v' h => v' = .a (encM (tck m (wnt l m.v want))) ∧ h = [] := by
  have hws := wnt_sm (want := want) hl hv
  refine Ctr.mk' tbv mixed Tryz.func60 rfl rfl rfl (fun _ _ => by kernel_rfl) (by kernel_rfl) (by rfl) (by rfl) (by (repeat' first | refine And.intro ?_ ?_ | exact xeC | fail)) ?_
  repeat' (first | (fail_if_success (with_reducible refine xstp ?_)); first | ((with_reducible refine And.intro (fun (hb : _ = true) => ?_) (fun (hb : _ = false) => ?_)) <;> replace hb := xnC hb <;> (try first | exact xfC | exact bff hb (by assumption) | exact bff (by assumption) hb)) | (with_reducible refine Both.mk ?_ ?_) | ((with_reducible refine And.intro ?_ ?_); focus exact xoC) | ((with_reducible refine Or.inl ⟨?_, ?_, ?_⟩); (focus rfl); focus exact xaC) | ((with_reducible refine xwB ?_ ?_); focus exact xaC) | ((with_reducible refine xwC ?_ ?_); focus exact xaC) | ((with_reducible refine xwD ?_ ?_); focus exact xaC) | ((with_reducible refine xwE ?_ ?_); focus exact xaC) | (with_reducible intro hc; (try simp only [capsP, and_true] at hc); (try exact xfC)) | ((fail_if_success (with_reducible first | refine xgon ?_ | intro _)); (conv => whnf); (fail_if_success (fail_if_success (with_reducible first | refine xstp ?_ | refine Both.mk ?_ ?_ | refine xgon ?_ | intro _)))))
  all_goals (
    refine xcal (σ := []) (nl := []) (cWanted l m.v want hl hv) ?_
    rintro v h' ⟨rfl, rfl⟩ hcaps
    refine rH51zmC1 ?_
    repeat' (first | (fail_if_success (with_reducible refine xstp ?_)); first | ((with_reducible refine And.intro (fun (hb : _ = true) => ?_) (fun (hb : _ = false) => ?_)) <;> replace hb := xnC hb <;> (try first | exact xfC | exact bff hb (by assumption) | exact bff (by assumption) hb)) | (with_reducible refine Both.mk ?_ ?_) | ((with_reducible refine And.intro ?_ ?_); focus exact xoC) | ((with_reducible refine Or.inl ⟨?_, ?_, ?_⟩); (focus rfl); focus exact xaC) | ((with_reducible refine xwB ?_ ?_); focus exact xaC) | ((with_reducible refine xwC ?_ ?_); focus exact xaC) | ((with_reducible refine xwD ?_ ?_); focus exact xaC) | ((with_reducible refine xwE ?_ ?_); focus exact xaC) | (with_reducible intro hc; (try simp only [capsP, and_true] at hc); (try exact xfC)) | ((fail_if_success (with_reducible first | refine xgon ?_ | intro _)); (conv => whnf); (fail_if_success (fail_if_success (with_reducible first | refine xstp ?_ | refine Both.mk ?_ ?_ | refine xgon ?_ | intro _)))))
    skip)
  all_goals (
    refine xcal (σ := []) (nl := []) (cTickM m (wnt l m.v want) hp hws) ?_
    rintro v h' ⟨rfl, rfl⟩ hcaps
    refine rH51zmC1 ?_
    repeat' (first | (fail_if_success (with_reducible refine xstp ?_)); first | ((with_reducible refine And.intro (fun (hb : _ = true) => ?_) (fun (hb : _ = false) => ?_)) <;> replace hb := xnC hb <;> (try first | exact xfC | exact bff hb (by assumption) | exact bff (by assumption) hb)) | (with_reducible refine Both.mk ?_ ?_) | ((with_reducible refine And.intro ?_ ?_); focus exact xoC) | ((with_reducible refine Or.inl ⟨?_, ?_, ?_⟩); (focus rfl); focus exact xaC) | ((with_reducible refine xwB ?_ ?_); focus exact xaC) | ((with_reducible refine xwC ?_ ?_); focus exact xaC) | ((with_reducible refine xwD ?_ ?_); focus exact xaC) | ((with_reducible refine xwE ?_ ?_); focus exact xaC) | (with_reducible intro hc; (try simp only [capsP, and_true] at hc); (try exact xfC)) | ((fail_if_success (with_reducible first | refine xgon ?_ | intro _)); (conv => whnf); (fail_if_success (fail_if_success (with_reducible first | refine xstp ?_ | refine Both.mk ?_ ?_ | refine xgon ?_ | intro _)))))
    refine FinK.mk ⟨[], _, _, ⟨rfl, rfl⟩, ?_⟩; (repeat' first | refine And.intro ?_ ?_ | exact xeC | fail))
set_option maxRecDepth 10000 in
set_option maxHeartbeats 4000000 in
theorem cNextB (m : Mo) (want : Pt) (l : Lm) (hl : okL l) (hp : m.p.sm) (hv : (-4096 ≤ m.v.x ∧ m.v.x ≤ 4096) ∧ (-4096 ≤ m.v.y ∧ m.v.y ≤ 4096)) :
    Ctr Tryz.prog 60 [.a (encM m), .a (encPt want), .c (bfL 62 l)] [] fun v' h => v' = .a (encM (tck m (brv l m.v))) ∧ h = [] := by
  have hws := brv_sm hl hv
  refine Ctr.mk' tbv mixed Tryz.func60 rfl rfl rfl (fun _ _ => by kernel_rfl) (by kernel_rfl) (by rfl) (by rfl) (by (repeat' first | refine And.intro ?_ ?_ | exact xeC | fail)) ?_
  repeat' (first | (fail_if_success (with_reducible refine xstp ?_)); first | ((with_reducible refine And.intro (fun (hb : _ = true) => ?_) (fun (hb : _ = false) => ?_)) <;> replace hb := xnC hb <;> (try first | exact xfC | exact bff hb (by assumption) | exact bff (by assumption) hb)) | (with_reducible refine Both.mk ?_ ?_) | ((with_reducible refine And.intro ?_ ?_); focus exact xoC) | ((with_reducible refine Or.inl ⟨?_, ?_, ?_⟩); (focus rfl); focus exact xaC) | ((with_reducible refine xwB ?_ ?_); focus exact xaC) | ((with_reducible refine xwC ?_ ?_); focus exact xaC) | ((with_reducible refine xwD ?_ ?_); focus exact xaC) | ((with_reducible refine xwE ?_ ?_); focus exact xaC) | (with_reducible intro hc; (try simp only [capsP, and_true] at hc); (try exact xfC)) | ((fail_if_success (with_reducible first | refine xgon ?_ | intro _)); (conv => whnf); (fail_if_success (fail_if_success (with_reducible first | refine xstp ?_ | refine Both.mk ?_ ?_ | refine xgon ?_ | intro _)))))
  all_goals (
    refine xcal (σ := []) (nl := []) (cBraked l m.v want hl hv) ?_
    rintro v h' ⟨rfl, rfl⟩ hcaps
    refine rH51zmC1 ?_
    repeat' (first | (fail_if_success (with_reducible refine xstp ?_)); first | ((with_reducible refine And.intro (fun (hb : _ = true) => ?_) (fun (hb : _ = false) => ?_)) <;> replace hb := xnC hb <;> (try first | exact xfC | exact bff hb (by assumption) | exact bff (by assumption) hb)) | (with_reducible refine Both.mk ?_ ?_) | ((with_reducible refine And.intro ?_ ?_); focus exact xoC) | ((with_reducible refine Or.inl ⟨?_, ?_, ?_⟩); (focus rfl); focus exact xaC) | ((with_reducible refine xwB ?_ ?_); focus exact xaC) | ((with_reducible refine xwC ?_ ?_); focus exact xaC) | ((with_reducible refine xwD ?_ ?_); focus exact xaC) | ((with_reducible refine xwE ?_ ?_); focus exact xaC) | (with_reducible intro hc; (try simp only [capsP, and_true] at hc); (try exact xfC)) | ((fail_if_success (with_reducible first | refine xgon ?_ | intro _)); (conv => whnf); (fail_if_success (fail_if_success (with_reducible first | refine xstp ?_ | refine Both.mk ?_ ?_ | refine xgon ?_ | intro _)))))
    skip)
  all_goals (
    refine xcal (σ := []) (nl := []) (cTickM m (brv l m.v) hp hws) ?_
    rintro v h' ⟨rfl, rfl⟩ hcaps
    refine rH51zmC1 ?_
    repeat' (first | (fail_if_success (with_reducible refine xstp ?_)); first | ((with_reducible refine And.intro (fun (hb : _ = true) => ?_) (fun (hb : _ = false) => ?_)) <;> replace hb := xnC hb <;> (try first | exact xfC | exact bff hb (by assumption) | exact bff (by assumption) hb)) | (with_reducible refine Both.mk ?_ ?_) | ((with_reducible refine And.intro ?_ ?_); focus exact xoC) | ((with_reducible refine Or.inl ⟨?_, ?_, ?_⟩); (focus rfl); focus exact xaC) | ((with_reducible refine xwB ?_ ?_); focus exact xaC) | ((with_reducible refine xwC ?_ ?_); focus exact xaC) | ((with_reducible refine xwD ?_ ?_); focus exact xaC) | ((with_reducible refine xwE ?_ ?_); focus exact xaC) | (with_reducible intro hc; (try simp only [capsP, and_true] at hc); (try exact xfC)) | ((fail_if_success (with_reducible first | refine xgon ?_ | intro _)); (conv => whnf); (fail_if_success (fail_if_success (with_reducible first | refine xstp ?_ | refine Both.mk ?_ ?_ | refine xgon ?_ | intro _)))))
    refine FinK.mk ⟨[], _, _, ⟨rfl, rfl⟩, ?_⟩; (repeat' first | refine And.intro ?_ ?_ | exact xeC | fail))
def stpM (m : Mo) (want : Pt) (l : Lm) : Mo := if vldM m l then tck m (wnt l m.v want) else m
def brkM (m : Mo) (l : Lm) : Pt := if vldM m l then brv l m.v else ⟨0, 0⟩
theorem vld_b {m : Mo} {l : Lm} (h : vldM m l) : m.p.sm ∧ (-4096 ≤ m.v.x ∧ m.v.x ≤ 4096) ∧ (-4096 ≤ m.v.y ∧ m.v.y ≤ 4096) := by
  obtain ⟨h1, h2, _, h4⟩ := h
  unfold okL at h1
  refine ⟨by rw [← h4]; exact clP_sm _, by omega⟩
theorem rH51zmC2 {σ : List Sg} {H h' : List Fam} {v : T} {K : T → List Fam → Prop} {H' : List Fam} {v' : T} {N : Nat} (hk : K v' H') (hN : H.length = N := by (try simp only [↓List.length_cons, ↓List.length_nil, Nat.reduceAdd]) <;> rfl) (h : givesF σ N H σ h' = some H' := by (try simp (maxSteps := 1000000) only [givesF, setF, updF, Fam.zeroth, Fam.rk, Ck.rk, C.rk, E.rk, T.rk, key, List.map_cons, List.map_nil, List.cons_append, List.nil_append, List.length_cons, List.length_nil, Option.map_some, Option.bind_some, Nat.reduceAdd, Nat.zero_add, Nat.add_zero, Nat.add_sub_cancel_left, Int.toNat_natCast, reps, List.all_cons, List.all_nil, C.flat, List.append_eq, Bool.not_true, Bool.and_true, Bool.or_false, Bool.or_self, Bool.not_false, List.append_nil, Bool.and_self, encM, encPt, encL]) <;> rfl) (hv : v.rk σ N = v' := by (try simp only [givesF, setF, updF, Fam.zeroth, Fam.rk, Ck.rk, C.rk, E.rk, T.rk, key, List.map_cons, List.map_nil, List.cons_append, List.nil_append, List.length_cons, List.length_nil, Option.map_some, Option.bind_some, Nat.reduceAdd, Nat.zero_add, Nat.add_zero, Nat.add_sub_cancel_left, Int.toNat_natCast, reps, List.all_cons, List.all_nil, C.flat, List.append_eq, Bool.not_true, Bool.and_true, Bool.or_false, Bool.or_self, Bool.not_false, List.append_nil, Bool.and_self, encM, encPt, encL]) <;> rfl) : RetG σ H h' v K := ret_mk3 hN h hv hk
set_option maxRecDepth 10000 in
set_option maxHeartbeats 4000000 in
theorem cStepM (m : Mo) (want : Pt) (l : Lm) : Ctr Tryz.prog 40 [.a (encM m), .a (encPt want), .a (encL l)] [] fun v' h => v' = .a (encM (stpM m want l)) ∧ h = [] := by
  refine Ctr.mk' tbv mixed Tryz.func40 rfl rfl rfl (fun _ _ => by kernel_rfl) (by kernel_rfl) (by rfl) (by rfl) (by (repeat' first | refine And.intro ?_ ?_ | exact xeC | fail)) ?_
  repeat' (first | (fail_if_success (with_reducible refine xstp ?_)); first | ((with_reducible refine And.intro (fun (hb : _ = true) => ?_) (fun (hb : _ = false) => ?_)) <;> replace hb := xnC hb <;> (try first | exact xfC | exact bff hb (by assumption) | exact bff (by assumption) hb)) | (with_reducible refine Both.mk ?_ ?_) | ((with_reducible refine And.intro ?_ ?_); focus exact xoC) | ((with_reducible refine Or.inl ⟨?_, ?_, ?_⟩); (focus rfl); focus exact xaC) | ((with_reducible refine xwB ?_ ?_); focus exact xaC) | ((with_reducible refine xwC ?_ ?_); focus exact xaC) | ((with_reducible refine xwD ?_ ?_); focus exact xaC) | ((with_reducible refine xwE ?_ ?_); focus exact xaC) | (with_reducible intro hc; (try simp only [capsP, and_true] at hc); (try exact xfC)) | ((fail_if_success (with_reducible first | refine xgon ?_ | intro _)); (conv => whnf); (fail_if_success (fail_if_success (with_reducible first | refine xstp ?_ | refine Both.mk ?_ ?_ | refine xgon ?_ | intro _)))))
  refine xcal (σ := []) (nl := []) (cValidM m l) ?_
  rintro v h' ⟨rfl, rfl⟩ hcaps
  refine rH51zmC2 ?_
  repeat' (first | (fail_if_success (with_reducible refine xstp ?_)); first | ((with_reducible refine And.intro (fun (hb : _ = true) => ?_) (fun (hb : _ = false) => ?_)) <;> replace hb := xnC hb <;> (try first | exact xfC | exact bff hb (by assumption) | exact bff (by assumption) hb)) | (with_reducible refine Both.mk ?_ ?_) | ((with_reducible refine And.intro ?_ ?_); focus exact xoC) | ((with_reducible refine Or.inl ⟨?_, ?_, ?_⟩); (focus rfl); focus exact xaC) | ((with_reducible refine xwB ?_ ?_); focus exact xaC) | ((with_reducible refine xwC ?_ ?_); focus exact xaC) | ((with_reducible refine xwD ?_ ?_); focus exact xaC) | ((with_reducible refine xwE ?_ ?_); focus exact xaC) | (with_reducible intro hc; (try simp only [capsP, and_true] at hc); (try exact xfC)) | ((fail_if_success (with_reducible first | refine xgon ?_ | intro _)); (conv => whnf); (fail_if_success (fail_if_success (with_reducible first | refine xstp ?_ | refine Both.mk ?_ ?_ | refine xgon ?_ | intro _)))))
  · have hs : stpM m want l = m := if_neg (by assumption)
    rw [hs]
    refine FinK.mk ⟨[], _, _, ⟨rfl, rfl⟩, ?_⟩; (repeat' first | refine And.intro ?_ ?_ | exact xeC | fail)
  · have hv : vldM m l := by assumption
    have hs : stpM m want l = _ := if_pos hv
    rw [hs]
    obtain ⟨b1, b2⟩ := vld_b hv
    refine xcal (σ := []) (nl := []) (cNextW m want l hv.1 b1 b2) ?_
    rintro v h' ⟨rfl, rfl⟩ hcaps
    refine rH51zmC2 ?_
    repeat' (first | (fail_if_success (with_reducible refine xstp ?_)); first | ((with_reducible refine And.intro (fun (hb : _ = true) => ?_) (fun (hb : _ = false) => ?_)) <;> replace hb := xnC hb <;> (try first | exact xfC | exact bff hb (by assumption) | exact bff (by assumption) hb)) | (with_reducible refine Both.mk ?_ ?_) | ((with_reducible refine And.intro ?_ ?_); focus exact xoC) | ((with_reducible refine Or.inl ⟨?_, ?_, ?_⟩); (focus rfl); focus exact xaC) | ((with_reducible refine xwB ?_ ?_); focus exact xaC) | ((with_reducible refine xwC ?_ ?_); focus exact xaC) | ((with_reducible refine xwD ?_ ?_); focus exact xaC) | ((with_reducible refine xwE ?_ ?_); focus exact xaC) | (with_reducible intro hc; (try simp only [capsP, and_true] at hc); (try exact xfC)) | ((fail_if_success (with_reducible first | refine xgon ?_ | intro _)); (conv => whnf); (fail_if_success (fail_if_success (with_reducible first | refine xstp ?_ | refine Both.mk ?_ ?_ | refine xgon ?_ | intro _)))))
    refine FinK.mk ⟨[], _, _, ⟨rfl, rfl⟩, ?_⟩; (repeat' first | refine And.intro ?_ ?_ | exact xeC | fail)
set_option maxRecDepth 10000 in
set_option maxHeartbeats 4000000 in
theorem cBrakeM (m : Mo) (l : Lm) : Ctr Tryz.prog 42 [.a (encM m), .a (encL l)] [] fun v' h => v' = .a (encPt (brkM m l)) ∧ h = [] := by
  refine Ctr.mk' tbv mixed Tryz.func42 rfl rfl rfl (fun _ _ => by kernel_rfl) (by kernel_rfl) (by rfl) (by rfl) (by (repeat' first | refine And.intro ?_ ?_ | exact xeC | fail)) ?_
  repeat' (first | (fail_if_success (with_reducible refine xstp ?_)); first | ((with_reducible refine And.intro (fun (hb : _ = true) => ?_) (fun (hb : _ = false) => ?_)) <;> replace hb := xnC hb <;> (try first | exact xfC | exact bff hb (by assumption) | exact bff (by assumption) hb)) | (with_reducible refine Both.mk ?_ ?_) | ((with_reducible refine And.intro ?_ ?_); focus exact xoC) | ((with_reducible refine Or.inl ⟨?_, ?_, ?_⟩); (focus rfl); focus exact xaC) | ((with_reducible refine xwB ?_ ?_); focus exact xaC) | ((with_reducible refine xwC ?_ ?_); focus exact xaC) | ((with_reducible refine xwD ?_ ?_); focus exact xaC) | ((with_reducible refine xwE ?_ ?_); focus exact xaC) | (with_reducible intro hc; (try simp only [capsP, and_true] at hc); (try exact xfC)) | ((fail_if_success (with_reducible first | refine xgon ?_ | intro _)); (conv => whnf); (fail_if_success (fail_if_success (with_reducible first | refine xstp ?_ | refine Both.mk ?_ ?_ | refine xgon ?_ | intro _)))))
  refine xcal (σ := []) (nl := []) (cValidM m l) ?_
  rintro v h' ⟨rfl, rfl⟩ hcaps
  refine rH51zmC2 ?_
  repeat' (first | (fail_if_success (with_reducible refine xstp ?_)); first | ((with_reducible refine And.intro (fun (hb : _ = true) => ?_) (fun (hb : _ = false) => ?_)) <;> replace hb := xnC hb <;> (try first | exact xfC | exact bff hb (by assumption) | exact bff (by assumption) hb)) | (with_reducible refine Both.mk ?_ ?_) | ((with_reducible refine And.intro ?_ ?_); focus exact xoC) | ((with_reducible refine Or.inl ⟨?_, ?_, ?_⟩); (focus rfl); focus exact xaC) | ((with_reducible refine xwB ?_ ?_); focus exact xaC) | ((with_reducible refine xwC ?_ ?_); focus exact xaC) | ((with_reducible refine xwD ?_ ?_); focus exact xaC) | ((with_reducible refine xwE ?_ ?_); focus exact xaC) | (with_reducible intro hc; (try simp only [capsP, and_true] at hc); (try exact xfC)) | ((fail_if_success (with_reducible first | refine xgon ?_ | intro _)); (conv => whnf); (fail_if_success (fail_if_success (with_reducible first | refine xstp ?_ | refine Both.mk ?_ ?_ | refine xgon ?_ | intro _)))))
  · have hs : brkM m l = ⟨0, 0⟩ := if_neg (by assumption)
    rw [hs]
    refine FinK.mk ⟨[], _, _, ⟨rfl, rfl⟩, ?_⟩; (repeat' first | refine And.intro ?_ ?_ | exact xeC | fail)
  · have hv : vldM m l := by assumption
    have hs : brkM m l = _ := if_pos hv
    rw [hs]
    obtain ⟨b1, b2⟩ := vld_b hv
    refine xcal (σ := []) (nl := []) (cNextB m ⟨0, 0⟩ l hv.1 b1 b2) ?_
    rintro v h' ⟨rfl, rfl⟩ hcaps
    refine rH51zmC2 ?_
    repeat' (first | (fail_if_success (with_reducible refine xstp ?_)); first | ((with_reducible refine And.intro (fun (hb : _ = true) => ?_) (fun (hb : _ = false) => ?_)) <;> replace hb := xnC hb <;> (try first | exact xfC | exact bff hb (by assumption) | exact bff (by assumption) hb)) | (with_reducible refine Both.mk ?_ ?_) | ((with_reducible refine And.intro ?_ ?_); focus exact xoC) | ((with_reducible refine Or.inl ⟨?_, ?_, ?_⟩); (focus rfl); focus exact xaC) | ((with_reducible refine xwB ?_ ?_); focus exact xaC) | ((with_reducible refine xwC ?_ ?_); focus exact xaC) | ((with_reducible refine xwD ?_ ?_); focus exact xaC) | ((with_reducible refine xwE ?_ ?_); focus exact xaC) | (with_reducible intro hc; (try simp only [capsP, and_true] at hc); (try exact xfC)) | ((fail_if_success (with_reducible first | refine xgon ?_ | intro _)); (conv => whnf); (fail_if_success (fail_if_success (with_reducible first | refine xstp ?_ | refine Both.mk ?_ ?_ | refine xgon ?_ | intro _)))))
    refine FinK.mk ⟨[], _, _, ⟨rfl, rfl⟩, ?_⟩; (repeat' first | refine And.intro ?_ ?_ | exact xeC | fail)
end Go.Proofs.YteifgkldagnodaaGreat

namespace Go.Proofs.YteifgkldagnodaaGreat
open Go.X
set_option linter.unusedSimpArgs false
set_option linter.unusedVariables false
def dB : Nat → Int → Int → Int
  | 0, _, _ => 0
  | k + 1, v, b => if v ≤ 0 then 0 else v + dB k (v - b) b
def okV (v : Int) : Prop := 0 ≤ v ∧ v ≤ 4096
instance (v : Int) : Decidable (okV v) := by unfold okV; infer_instance
def okB (b : Int) : Prop := 1 ≤ b ∧ b ≤ 4096
instance (v : Int) : Decidable (okB v) := by unfold okB; infer_instance
def disB (v b : Int) : Int := if okV v ∧ okB b then dB 4097 v b else 0
def ticB (v b : Int) : Int := if okV v ∧ okB b then (v + b - 1) / b else 0
def nedB (v : Int) (l : Lm) : Int := if okV v ∧ okL l then disB v l.br + l.hu * (ticB v l.br + 1) + l.mg else 0
def sfe (v gap : Int) (l : Lm) : Prop := okV v ∧ okL l ∧ nedB v l ≤ gap
instance (v gap : Int) (l : Lm) : Decidable (sfe v gap l) := by unfold sfe; infer_instance
def alN (gap : Int) (l : Lm) : Nat → Int → Int → Int
  | 0, lo, _ => lo
  | k + 1, lo, hi => if lo < hi then (if sfe ((lo + hi + 1) / 2) gap l then alN gap l k ((lo + hi + 1) / 2) hi else alN gap l k lo ((lo + hi + 1) / 2 - 1)) else lo
def alwB (gap : Int) (l : Lm) : Int := if sfe 0 gap l then alN gap l 4097 0 l.sp else -1
theorem dB_le : ∀ (k : Nat) (v b : Int), 0 ≤ v → v ≤ 4096 → 1 ≤ b → 0 ≤ dB k v b ∧ dB k v b ≤ 4096 * k
  | 0, v, b, _, _, _ => ⟨Int.le_refl _, Int.le_refl _⟩
  | k + 1, v, b, h1, h2, h3 => by
    rw [dB]
    split
    · omega
    · by_cases h : 0 ≤ v - b
      · have := dB_le k (v - b) b h (by omega) h3
        omega
      · have : dB k (v - b) b = 0 := by
          cases k with
          | zero => rfl
          | succ k => rw [dB, if_pos (by omega)]
        omega
theorem dB_neg (k : Nat) {v b : Int} (h : v ≤ 0) : dB k v b = 0 := by
  cases k with
  | zero => rfl
  | succ k => rw [dB, if_pos h]
theorem ticB_eq {v b : Int} (hv : okV v) (hb : okB b) : ticB v b = (v + b - 1) / b ∧ 0 ≤ ticB v b ∧ ticB v b ≤ 4096 ∧ v ≤ ticB v b * b ∧ (ticB v b - 1) * b < v + (if v = 0 then 1 else 0) := by
  have e : ticB v b = (v + b - 1) / b := if_pos ⟨hv, hb⟩
  unfold okV at hv
  unfold okB at hb
  have h1 := Int.mul_ediv_add_emod (v + b - 1) b
  have h2 := Int.emod_nonneg (v + b - 1) (show b ≠ 0 by omega)
  have h3 := Int.emod_lt_of_pos (v + b - 1) (show 0 < b by omega)
  have h4 : 0 ≤ (v + b - 1) / b := Int.ediv_nonneg (by omega) (by omega)
  have h5 : (v + b - 1) / b * b = b * ((v + b - 1) / b) := Int.mul_comm _ _
  have h6 : ((v + b - 1) / b - 1) * b = (v + b - 1) / b * b - b := by rw [Int.sub_mul, Int.one_mul]
  rw [e]
  refine ⟨rfl, h4, ?_, by omega, by split <;> omega⟩
  by_cases h : (v + b - 1) / b ≤ 4096
  · exact h
  · have : 4097 * b ≤ (v + b - 1) / b * b := Int.mul_le_mul_of_nonneg_right (by omega) (by omega)
    omega
set_option maxRecDepth 10000 in
theorem cIn (x a b : Int) : Ctr Tryz.prog 73 [.c (.i .i64 x), .c (.i .i64 a), .c (.i .i64 b)] [] fun v h => v = .c (.b (decide (a ≤ x ∧ x ≤ b))) ∧ h = [] := by
  refine Ctr.mk' tbv mixed Tryz.func73 rfl rfl rfl (fun _ _ => by kernel_rfl) (by kernel_rfl) (by rfl) (by rfl) (by (repeat' first | refine And.intro ?_ ?_ | exact xeC | fail)) ?_
  repeat' (first | (fail_if_success (with_reducible refine xstp ?_)); first | ((with_reducible refine And.intro (fun (hb : _ = true) => ?_) (fun (hb : _ = false) => ?_)) <;> replace hb := xnC hb <;> (try first | exact xfC | exact bff hb (by assumption) | exact bff (by assumption) hb)) | (with_reducible refine Both.mk ?_ ?_) | ((with_reducible refine And.intro ?_ ?_); focus exact xoC) | ((with_reducible refine Or.inl ⟨?_, ?_, ?_⟩); (focus rfl); focus exact xaC) | ((with_reducible refine xwB ?_ ?_); focus exact xaC) | ((with_reducible refine xwC ?_ ?_); focus exact xaC) | ((with_reducible refine xwD ?_ ?_); focus exact xaC) | ((with_reducible refine xwE ?_ ?_); focus exact xaC) | (with_reducible intro hc; (try simp only [capsP, and_true] at hc); (try exact xfC)) | ((fail_if_success (with_reducible first | refine xgon ?_ | intro _)); (conv => whnf); (fail_if_success (fail_if_success (with_reducible first | refine xstp ?_ | refine Both.mk ?_ ?_ | refine xgon ?_ | intro _)))))
  all_goals (
    refine FinK.mk ⟨[], _, _, ⟨rfl, rfl⟩, ?_⟩; (repeat' first | refine And.intro ?_ ?_ | exact xeC | fail)
    all_goals (first | exact decide_eq_true (by omega) | exact decide_eq_false (by omega) | exact (decide_eq_true (by omega)).symm | exact (decide_eq_false (by omega)).symm | exact decide_eq_decide.2 (by omega)))
theorem rH51zmD0 {σ : List Sg} {H h' : List Fam} {v : T} {K : T → List Fam → Prop} {H' : List Fam} {v' : T} {N : Nat} (hk : K v' H') (hN : H.length = N := by (try simp only [↓List.length_cons, ↓List.length_nil, Nat.reduceAdd]) <;> rfl) (h : givesF σ N H σ h' = some H' := by (try simp (maxSteps := 1000000) only [givesF, setF, updF, Fam.zeroth, Fam.rk, Ck.rk, C.rk, E.rk, T.rk, key, List.map_cons, List.map_nil, List.cons_append, List.nil_append, List.length_cons, List.length_nil, Option.map_some, Option.bind_some, Nat.reduceAdd, Nat.zero_add, Nat.add_zero, Nat.add_sub_cancel_left, Int.toNat_natCast, reps, List.all_cons, List.all_nil, C.flat, List.append_eq, Bool.not_true, Bool.and_true, Bool.or_false, Bool.or_self, Bool.not_false, List.append_nil, Bool.and_self, encL]) <;> rfl) (hv : v.rk σ N = v' := by (try simp only [givesF, setF, updF, Fam.zeroth, Fam.rk, Ck.rk, C.rk, E.rk, T.rk, key, List.map_cons, List.map_nil, List.cons_append, List.nil_append, List.length_cons, List.length_nil, Option.map_some, Option.bind_some, Nat.reduceAdd, Nat.zero_add, Nat.add_zero, Nat.add_sub_cancel_left, Int.toNat_natCast, reps, List.all_cons, List.all_nil, C.flat, List.append_eq, Bool.not_true, Bool.and_true, Bool.or_false, Bool.or_self, Bool.not_false, List.append_nil, Bool.and_self, encL]) <;> rfl) : RetG σ H h' v K := ret_mk3 hN h hv hk
set_option maxRecDepth 10000 in
set_option maxHeartbeats 4000000 in
theorem cValidB (l : Lm) : Ctr Tryz.prog 74 [.a (encL l)] [] fun v h => v = .c (.b (decide (okL l))) ∧ h = [] := by
  have hN : ¬ okL l → decide (okL l) = false := fun h => decide_eq_false h
  refine Ctr.mk' tbv mixed Tryz.func74 rfl rfl rfl (fun _ _ => by kernel_rfl) (by kernel_rfl) (by rfl) (by rfl) (by (repeat' first | refine And.intro ?_ ?_ | exact xeC | fail)) ?_
  repeat' (first | (fail_if_success (with_reducible refine xstp ?_)); first | ((with_reducible refine And.intro (fun (hb : _ = true) => ?_) (fun (hb : _ = false) => ?_)) <;> replace hb := xnC hb <;> (try first | exact xfC | exact bff hb (by assumption) | exact bff (by assumption) hb)) | (with_reducible refine Both.mk ?_ ?_) | ((with_reducible refine And.intro ?_ ?_); focus exact xoC) | ((with_reducible refine Or.inl ⟨?_, ?_, ?_⟩); (focus rfl); focus exact xaC) | ((with_reducible refine xwB ?_ ?_); focus exact xaC) | ((with_reducible refine xwC ?_ ?_); focus exact xaC) | ((with_reducible refine xwD ?_ ?_); focus exact xaC) | ((with_reducible refine xwE ?_ ?_); focus exact xaC) | (with_reducible intro hc; (try simp only [capsP, and_true] at hc); (try exact xfC)) | ((fail_if_success (with_reducible first | refine xgon ?_ | intro _)); (conv => whnf); (fail_if_success (fail_if_success (with_reducible first | refine xstp ?_ | refine Both.mk ?_ ?_ | refine xgon ?_ | intro _)))))
  refine xcal (σ := []) (nl := []) (cIn (l.sp) (1) (4096)) ?_
  rintro v h' ⟨rfl, rfl⟩ hcaps
  refine rH51zmD0 ?_
  repeat' (first | (fail_if_success (with_reducible refine xstp ?_)); first | ((with_reducible refine And.intro (fun (hb : _ = true) => ?_) (fun (hb : _ = false) => ?_)) <;> replace hb := xnC hb <;> (try first | exact xfC | exact bff hb (by assumption) | exact bff (by assumption) hb)) | (with_reducible refine Both.mk ?_ ?_) | ((with_reducible refine And.intro ?_ ?_); focus exact xoC) | ((with_reducible refine Or.inl ⟨?_, ?_, ?_⟩); (focus rfl); focus exact xaC) | ((with_reducible refine xwB ?_ ?_); focus exact xaC) | ((with_reducible refine xwC ?_ ?_); focus exact xaC) | ((with_reducible refine xwD ?_ ?_); focus exact xaC) | ((with_reducible refine xwE ?_ ?_); focus exact xaC) | (with_reducible intro hc; (try simp only [capsP, and_true] at hc); (try exact xfC)) | ((fail_if_success (with_reducible first | refine xgon ?_ | intro _)); (conv => whnf); (fail_if_success (fail_if_success (with_reducible first | refine xstp ?_ | refine Both.mk ?_ ?_ | refine xgon ?_ | intro _)))))
  all_goals try (
    rw [hN (fun h => by unfold okL at h; omega)]
    refine FinK.mk ⟨[], _, _, ⟨rfl, rfl⟩, ?_⟩; (repeat' first | refine And.intro ?_ ?_ | exact xeC | fail)
    done)
  refine xcal (σ := []) (nl := []) (cIn (l.ac) (1) (l.sp)) ?_
  rintro v h' ⟨rfl, rfl⟩ hcaps
  refine rH51zmD0 ?_
  repeat' (first | (fail_if_success (with_reducible refine xstp ?_)); first | ((with_reducible refine And.intro (fun (hb : _ = true) => ?_) (fun (hb : _ = false) => ?_)) <;> replace hb := xnC hb <;> (try first | exact xfC | exact bff hb (by assumption) | exact bff (by assumption) hb)) | (with_reducible refine Both.mk ?_ ?_) | ((with_reducible refine And.intro ?_ ?_); focus exact xoC) | ((with_reducible refine Or.inl ⟨?_, ?_, ?_⟩); (focus rfl); focus exact xaC) | ((with_reducible refine xwB ?_ ?_); focus exact xaC) | ((with_reducible refine xwC ?_ ?_); focus exact xaC) | ((with_reducible refine xwD ?_ ?_); focus exact xaC) | ((with_reducible refine xwE ?_ ?_); focus exact xaC) | (with_reducible intro hc; (try simp only [capsP, and_true] at hc); (try exact xfC)) | ((fail_if_success (with_reducible first | refine xgon ?_ | intro _)); (conv => whnf); (fail_if_success (fail_if_success (with_reducible first | refine xstp ?_ | refine Both.mk ?_ ?_ | refine xgon ?_ | intro _)))))
  all_goals try (
    rw [hN (fun h => by unfold okL at h; omega)]
    refine FinK.mk ⟨[], _, _, ⟨rfl, rfl⟩, ?_⟩; (repeat' first | refine And.intro ?_ ?_ | exact xeC | fail)
    done)
  refine xcal (σ := []) (nl := []) (cIn (l.br) (1) (l.sp)) ?_
  rintro v h' ⟨rfl, rfl⟩ hcaps
  refine rH51zmD0 ?_
  repeat' (first | (fail_if_success (with_reducible refine xstp ?_)); first | ((with_reducible refine And.intro (fun (hb : _ = true) => ?_) (fun (hb : _ = false) => ?_)) <;> replace hb := xnC hb <;> (try first | exact xfC | exact bff hb (by assumption) | exact bff (by assumption) hb)) | (with_reducible refine Both.mk ?_ ?_) | ((with_reducible refine And.intro ?_ ?_); focus exact xoC) | ((with_reducible refine Or.inl ⟨?_, ?_, ?_⟩); (focus rfl); focus exact xaC) | ((with_reducible refine xwB ?_ ?_); focus exact xaC) | ((with_reducible refine xwC ?_ ?_); focus exact xaC) | ((with_reducible refine xwD ?_ ?_); focus exact xaC) | ((with_reducible refine xwE ?_ ?_); focus exact xaC) | (with_reducible intro hc; (try simp only [capsP, and_true] at hc); (try exact xfC)) | ((fail_if_success (with_reducible first | refine xgon ?_ | intro _)); (conv => whnf); (fail_if_success (fail_if_success (with_reducible first | refine xstp ?_ | refine Both.mk ?_ ?_ | refine xgon ?_ | intro _)))))
  all_goals try (
    rw [hN (fun h => by unfold okL at h; omega)]
    refine FinK.mk ⟨[], _, _, ⟨rfl, rfl⟩, ?_⟩; (repeat' first | refine And.intro ?_ ?_ | exact xeC | fail)
    done)
  refine xcal (σ := []) (nl := []) (cIn (l.hu) (0) (4096)) ?_
  rintro v h' ⟨rfl, rfl⟩ hcaps
  refine rH51zmD0 ?_
  repeat' (first | (fail_if_success (with_reducible refine xstp ?_)); first | ((with_reducible refine And.intro (fun (hb : _ = true) => ?_) (fun (hb : _ = false) => ?_)) <;> replace hb := xnC hb <;> (try first | exact xfC | exact bff hb (by assumption) | exact bff (by assumption) hb)) | (with_reducible refine Both.mk ?_ ?_) | ((with_reducible refine And.intro ?_ ?_); focus exact xoC) | ((with_reducible refine Or.inl ⟨?_, ?_, ?_⟩); (focus rfl); focus exact xaC) | ((with_reducible refine xwB ?_ ?_); focus exact xaC) | ((with_reducible refine xwC ?_ ?_); focus exact xaC) | ((with_reducible refine xwD ?_ ?_); focus exact xaC) | ((with_reducible refine xwE ?_ ?_); focus exact xaC) | (with_reducible intro hc; (try simp only [capsP, and_true] at hc); (try exact xfC)) | ((fail_if_success (with_reducible first | refine xgon ?_ | intro _)); (conv => whnf); (fail_if_success (fail_if_success (with_reducible first | refine xstp ?_ | refine Both.mk ?_ ?_ | refine xgon ?_ | intro _)))))
  all_goals try (
    rw [hN (fun h => by unfold okL at h; omega)]
    refine FinK.mk ⟨[], _, _, ⟨rfl, rfl⟩, ?_⟩; (repeat' first | refine And.intro ?_ ?_ | exact xeC | fail)
    done)
  refine xcal (σ := []) (nl := []) (cIn (l.mg) (0) (1048576)) ?_
  rintro v h' ⟨rfl, rfl⟩ hcaps
  refine rH51zmD0 ?_
  repeat' (first | (fail_if_success (with_reducible refine xstp ?_)); first | ((with_reducible refine And.intro (fun (hb : _ = true) => ?_) (fun (hb : _ = false) => ?_)) <;> replace hb := xnC hb <;> (try first | exact xfC | exact bff hb (by assumption) | exact bff (by assumption) hb)) | (with_reducible refine Both.mk ?_ ?_) | ((with_reducible refine And.intro ?_ ?_); focus exact xoC) | ((with_reducible refine Or.inl ⟨?_, ?_, ?_⟩); (focus rfl); focus exact xaC) | ((with_reducible refine xwB ?_ ?_); focus exact xaC) | ((with_reducible refine xwC ?_ ?_); focus exact xaC) | ((with_reducible refine xwD ?_ ?_); focus exact xaC) | ((with_reducible refine xwE ?_ ?_); focus exact xaC) | (with_reducible intro hc; (try simp only [capsP, and_true] at hc); (try exact xfC)) | ((fail_if_success (with_reducible first | refine xgon ?_ | intro _)); (conv => whnf); (fail_if_success (fail_if_success (with_reducible first | refine xstp ?_ | refine Both.mk ?_ ?_ | refine xgon ?_ | intro _)))))
  all_goals (
    refine FinK.mk ⟨[], _, _, ⟨rfl, rfl⟩, ?_⟩; (repeat' first | refine And.intro ?_ ?_ | exact xeC | fail)
    all_goals first
      | exact decide_eq_decide.2 (by unfold okL; omega)
      | (symm; exact decide_eq_true (by unfold okL; omega))
      | (symm; exact decide_eq_false (by unfold okL; omega)))
set_option maxRecDepth 10000 in
set_option maxHeartbeats 4000000 in
theorem cTicks (v b : Int) : Ctr Tryz.prog 93 [.c (.i .i64 v), .c (.i .i64 b)] [] fun w h => w = .c (.i .i64 (ticB v b)) ∧ h = [] := by
  have hN : ¬ (okV v ∧ okB b) → ticB v b = 0 := fun h => if_neg h
  refine Ctr.mk' tbv mixed Tryz.func93 rfl rfl rfl (fun _ _ => by kernel_rfl) (by kernel_rfl) (by rfl) (by rfl) (by (repeat' first | refine And.intro ?_ ?_ | exact xeC | fail)) ?_
  repeat' (first | (fail_if_success (with_reducible refine xstp ?_)); first | ((with_reducible refine And.intro (fun (hb : _ = true) => ?_) (fun (hb : _ = false) => ?_)) <;> replace hb := xnC hb <;> (try first | exact xfC | exact bff hb (by assumption) | exact bff (by assumption) hb)) | (with_reducible refine Both.mk ?_ ?_) | ((with_reducible refine And.intro ?_ ?_); focus exact xoC) | ((with_reducible refine Or.inl ⟨?_, ?_, ?_⟩); (focus rfl); focus exact xaC) | ((with_reducible refine xwB ?_ ?_); focus exact xaC) | ((with_reducible refine xwC ?_ ?_); focus exact xaC) | ((with_reducible refine xwD ?_ ?_); focus exact xaC) | ((with_reducible refine xwE ?_ ?_); focus exact xaC) | (with_reducible intro hc; (try simp only [capsP, and_true] at hc); (try exact xfC)) | ((fail_if_success (with_reducible first | refine xgon ?_ | intro _)); (conv => whnf); (fail_if_success (fail_if_success (with_reducible first | refine xstp ?_ | refine Both.mk ?_ ?_ | refine xgon ?_ | intro _)))))
  refine xcal (σ := []) (nl := []) (cIn (v) (0) (4096)) ?_
  rintro v h' ⟨rfl, rfl⟩ hcaps
  refine rH51zmD0 ?_
  repeat' (first | (fail_if_success (with_reducible refine xstp ?_)); first | ((with_reducible refine And.intro (fun (hb : _ = true) => ?_) (fun (hb : _ = false) => ?_)) <;> replace hb := xnC hb <;> (try first | exact xfC | exact bff hb (by assumption) | exact bff (by assumption) hb)) | (with_reducible refine Both.mk ?_ ?_) | ((with_reducible refine And.intro ?_ ?_); focus exact xoC) | ((with_reducible refine Or.inl ⟨?_, ?_, ?_⟩); (focus rfl); focus exact xaC) | ((with_reducible refine xwB ?_ ?_); focus exact xaC) | ((with_reducible refine xwC ?_ ?_); focus exact xaC) | ((with_reducible refine xwD ?_ ?_); focus exact xaC) | ((with_reducible refine xwE ?_ ?_); focus exact xaC) | (with_reducible intro hc; (try simp only [capsP, and_true] at hc); (try exact xfC)) | ((fail_if_success (with_reducible first | refine xgon ?_ | intro _)); (conv => whnf); (fail_if_success (fail_if_success (with_reducible first | refine xstp ?_ | refine Both.mk ?_ ?_ | refine xgon ?_ | intro _)))))
  · rw [hN (fun h => by unfold okV at h; omega)]
    refine FinK.mk ⟨[], _, _, ⟨rfl, rfl⟩, ?_⟩; (repeat' first | refine And.intro ?_ ?_ | exact xeC | fail)
  refine xcal (σ := []) (nl := []) (cIn (b) (1) (4096)) ?_
  rintro v h' ⟨rfl, rfl⟩ hcaps
  refine rH51zmD0 ?_
  repeat' (first | (fail_if_success (with_reducible refine xstp ?_)); first | ((with_reducible refine And.intro (fun (hb : _ = true) => ?_) (fun (hb : _ = false) => ?_)) <;> replace hb := xnC hb <;> (try first | exact xfC | exact bff hb (by assumption) | exact bff (by assumption) hb)) | (with_reducible refine Both.mk ?_ ?_) | ((with_reducible refine And.intro ?_ ?_); focus exact xoC) | ((with_reducible refine Or.inl ⟨?_, ?_, ?_⟩); (focus rfl); focus exact xaC) | ((with_reducible refine xwB ?_ ?_); focus exact xaC) | ((with_reducible refine xwC ?_ ?_); focus exact xaC) | ((with_reducible refine xwD ?_ ?_); focus exact xaC) | ((with_reducible refine xwE ?_ ?_); focus exact xaC) | (with_reducible intro hc; (try simp only [capsP, and_true] at hc); (try exact xfC)) | ((fail_if_success (with_reducible first | refine xgon ?_ | intro _)); (conv => whnf); (fail_if_success (fail_if_success (with_reducible first | refine xstp ?_ | refine Both.mk ?_ ?_ | refine xgon ?_ | intro _)))))
  · rw [hN (fun h => by unfold okB at h; omega)]
    refine FinK.mk ⟨[], _, _, ⟨rfl, rfl⟩, ?_⟩; (repeat' first | refine And.intro ?_ ?_ | exact xeC | fail)
  have hv : okV v := by assumption
  have hbb : okB b := by assumption
  obtain ⟨t1, t2, t3, _, _⟩ := ticB_eq hv hbb
  have ht : (v + b - 1).tdiv b = ticB v b := by rw [t1]; exact Int.tdiv_eq_ediv_of_nonneg (by omega)
  rw [ht]
  repeat' (first | (fail_if_success (with_reducible refine xstp ?_)); first | ((with_reducible refine And.intro (fun (hb : _ = true) => ?_) (fun (hb : _ = false) => ?_)) <;> replace hb := xnC hb <;> (try first | exact xfC | exact bff hb (by assumption) | exact bff (by assumption) hb)) | (with_reducible refine Both.mk ?_ ?_) | ((with_reducible refine And.intro ?_ ?_); focus exact xoC) | ((with_reducible refine Or.inl ⟨?_, ?_, ?_⟩); (focus rfl); focus exact xaC) | ((with_reducible refine xwB ?_ ?_); focus exact xaC) | ((with_reducible refine xwC ?_ ?_); focus exact xaC) | ((with_reducible refine xwD ?_ ?_); focus exact xaC) | ((with_reducible refine xwE ?_ ?_); focus exact xaC) | (with_reducible intro hc; (try simp only [capsP, and_true] at hc); (try exact xfC)) | ((fail_if_success (with_reducible first | refine xgon ?_ | intro _)); (conv => whnf); (fail_if_success (fail_if_success (with_reducible first | refine xstp ?_ | refine Both.mk ?_ ?_ | refine xgon ?_ | intro _)))))
  refine FinK.mk ⟨[], _, _, ⟨rfl, rfl⟩, ?_⟩; (repeat' first | refine And.intro ?_ ?_ | exact xeC | fail)
set_option maxRecDepth 10000 in
set_option maxHeartbeats 4000000 in
theorem cDistB (v b : Int) : Ctr Tryz.prog 92 [.c (.i .i64 v), .c (.i .i64 b)] [] fun w h => w = .c (.i .i64 (disB v b)) ∧ h = [] := by
  have hN : ¬ (okV v ∧ okB b) → disB v b = 0 := fun h => if_neg h
  refine Ctr.mk' tbv mixed Tryz.func92 rfl rfl rfl (fun _ _ => by kernel_rfl) (by kernel_rfl) (by rfl) (by rfl) (by (repeat' first | refine And.intro ?_ ?_ | exact xeC | fail)) ?_
  repeat' (first | (fail_if_success (with_reducible refine xstp ?_)); first | ((with_reducible refine And.intro (fun (hb : _ = true) => ?_) (fun (hb : _ = false) => ?_)) <;> replace hb := xnC hb <;> (try first | exact xfC | exact bff hb (by assumption) | exact bff (by assumption) hb)) | (with_reducible refine Both.mk ?_ ?_) | ((with_reducible refine And.intro ?_ ?_); focus exact xoC) | ((with_reducible refine Or.inl ⟨?_, ?_, ?_⟩); (focus rfl); focus exact xaC) | ((with_reducible refine xwB ?_ ?_); focus exact xaC) | ((with_reducible refine xwC ?_ ?_); focus exact xaC) | ((with_reducible refine xwD ?_ ?_); focus exact xaC) | ((with_reducible refine xwE ?_ ?_); focus exact xaC) | (with_reducible intro hc; (try simp only [capsP, and_true] at hc); (try exact xfC)) | ((fail_if_success (with_reducible first | refine xgon ?_ | intro _)); (conv => whnf); (fail_if_success (fail_if_success (with_reducible first | refine xstp ?_ | refine Both.mk ?_ ?_ | refine xgon ?_ | intro _)))))
  refine xcal (σ := []) (nl := []) (cIn (v) (0) (4096)) ?_
  rintro v h' ⟨rfl, rfl⟩ hcaps
  refine rH51zmD0 ?_
  repeat' (first | (fail_if_success (with_reducible refine xstp ?_)); first | ((with_reducible refine And.intro (fun (hb : _ = true) => ?_) (fun (hb : _ = false) => ?_)) <;> replace hb := xnC hb <;> (try first | exact xfC | exact bff hb (by assumption) | exact bff (by assumption) hb)) | (with_reducible refine Both.mk ?_ ?_) | ((with_reducible refine And.intro ?_ ?_); focus exact xoC) | ((with_reducible refine Or.inl ⟨?_, ?_, ?_⟩); (focus rfl); focus exact xaC) | ((with_reducible refine xwB ?_ ?_); focus exact xaC) | ((with_reducible refine xwC ?_ ?_); focus exact xaC) | ((with_reducible refine xwD ?_ ?_); focus exact xaC) | ((with_reducible refine xwE ?_ ?_); focus exact xaC) | (with_reducible intro hc; (try simp only [capsP, and_true] at hc); (try exact xfC)) | ((fail_if_success (with_reducible first | refine xgon ?_ | intro _)); (conv => whnf); (fail_if_success (fail_if_success (with_reducible first | refine xstp ?_ | refine Both.mk ?_ ?_ | refine xgon ?_ | intro _)))))
  · rw [hN (fun h => by unfold okV at h; omega)]
    refine FinK.mk ⟨[], _, _, ⟨rfl, rfl⟩, ?_⟩; (repeat' first | refine And.intro ?_ ?_ | exact xeC | fail)
  refine xcal (σ := []) (nl := []) (cIn (b) (1) (4096)) ?_
  rintro v h' ⟨rfl, rfl⟩ hcaps
  refine rH51zmD0 ?_
  repeat' (first | (fail_if_success (with_reducible refine xstp ?_)); first | ((with_reducible refine And.intro (fun (hb : _ = true) => ?_) (fun (hb : _ = false) => ?_)) <;> replace hb := xnC hb <;> (try first | exact xfC | exact bff hb (by assumption) | exact bff (by assumption) hb)) | (with_reducible refine Both.mk ?_ ?_) | ((with_reducible refine And.intro ?_ ?_); focus exact xoC) | ((with_reducible refine Or.inl ⟨?_, ?_, ?_⟩); (focus rfl); focus exact xaC) | ((with_reducible refine xwB ?_ ?_); focus exact xaC) | ((with_reducible refine xwC ?_ ?_); focus exact xaC) | ((with_reducible refine xwD ?_ ?_); focus exact xaC) | ((with_reducible refine xwE ?_ ?_); focus exact xaC) | (with_reducible intro hc; (try simp only [capsP, and_true] at hc); (try exact xfC)) | ((fail_if_success (with_reducible first | refine xgon ?_ | intro _)); (conv => whnf); (fail_if_success (fail_if_success (with_reducible first | refine xstp ?_ | refine Both.mk ?_ ?_ | refine xgon ?_ | intro _)))))
  · rw [hN (fun h => by unfold okB at h; omega)]
    refine FinK.mk ⟨[], _, _, ⟨rfl, rfl⟩, ?_⟩; (repeat' first | refine And.intro ?_ ?_ | exact xeC | fail)
  have hv : okV v := by assumption
  have hbb : okB b := by assumption
  have hD : disB v b = dB 4097 v b := if_pos ⟨hv, hbb⟩
  obtain ⟨_, t2, t3, t4, t5⟩ := ticB_eq hv hbb
  unfold okV at hv
  unfold okB at hbb
  refine xcal (σ := []) (nl := []) (cTicks v b) ?_
  rintro v h' ⟨rfl, rfl⟩ hcaps
  refine xret ?_
  repeat' (first | (fail_if_success (with_reducible refine xstp ?_)); first | ((with_reducible refine And.intro (fun (hb : _ = true) => ?_) (fun (hb : _ = false) => ?_)) <;> replace hb := xnC hb <;> (try first | exact xfC | exact bff hb (by assumption) | exact bff (by assumption) hb)) | (with_reducible refine Both.mk ?_ ?_) | ((with_reducible refine And.intro ?_ ?_); focus exact xoC) | ((with_reducible refine Or.inl ⟨?_, ?_, ?_⟩); (focus rfl); focus exact xaC) | ((with_reducible refine xwB ?_ ?_); focus exact xaC) | ((with_reducible refine xwC ?_ ?_); focus exact xaC) | ((with_reducible refine xwD ?_ ?_); focus exact xaC) | ((with_reducible refine xwE ?_ ?_); focus exact xaC) | (with_reducible intro hc; (try simp only [capsP, and_true] at hc); (try exact xfC)) | ((fail_if_success (with_reducible first | refine xgon ?_ | intro _)); (conv => whnf); (fail_if_success (fail_if_success (with_reducible first | refine xstp ?_ | refine Both.mk ?_ ?_ | refine xgon ?_ | intro _)))))
  rw [hD]
  refine LoopK.mk' {p : Nat × Int // p.1 ≤ 4096 ∧ (p.1 : Int) ≤ ticB v b ∧ p.2 + dB (4097 - p.1) (v - p.1 * b) b = dB 4097 v b ∧ 0 ≤ p.2 ∧ p.2 ≤ 4096 * p.1}
    (fun ⟨(k, w), _⟩ => ⟨[(0, .c (.i .i64 v)), (1, .c (.i .i64 b)), (5, .c (.i .i64 w)), (17, .c (.i .i64 (ticB v b))), (18, .c (.i .i64 (k : Nat)))], []⟩) (fun q => 4096 - q.1.1)
    ⟨⟨(0, 0), by decide, by simp only; omega, by simp, Int.le_refl _, by simp⟩, [], ?_⟩ ?_
  · (repeat' first | refine And.intro ?_ ?_ | exact xeC | fail)
  rintro ⟨⟨k, w⟩, hk, hkt, hw, hw0, hw1⟩
  simp only at hk hkt hw hw0 hw1
  have hkb : ((k : Nat) : Int) < ticB v b → 0 ≤ (k : Int) * b ∧ (k : Int) * b ≤ v := fun h => by
    have h1 : (k : Int) * b ≤ (ticB v b - 1) * b := Int.mul_le_mul_of_nonneg_right (by omega) (by omega)
    have h2 : 0 ≤ (k : Int) * b := Int.mul_nonneg (by omega) (by omega)
    split at t5 <;> omega
  repeat' (first | (fail_if_success (with_reducible refine xstp ?_)); first | ((with_reducible refine And.intro (fun (hb : _ = true) => ?_) (fun (hb : _ = false) => ?_)) <;> replace hb := xnC hb <;> (try first | exact xfC | exact bff hb (by assumption) | exact bff (by assumption) hb)) | (with_reducible refine Both.mk ?_ ?_) | ((with_reducible refine And.intro ?_ ?_); focus exact xoC) | ((with_reducible refine Or.inl ⟨?_, ?_, ?_⟩); (focus rfl); focus exact xaC) | ((with_reducible refine xwB ?_ ?_); focus exact xaC) | ((with_reducible refine xwC ?_ ?_); focus exact xaC) | ((with_reducible refine xwD ?_ ?_); focus exact xaC) | ((with_reducible refine xwE ?_ ?_); focus exact xaC) | (with_reducible intro hc; (try simp only [capsP, and_true] at hc); (try exact xfC)) | ((fail_if_success (with_reducible first | refine xgon ?_ | intro _)); (conv => whnf); (fail_if_success (fail_if_success (with_reducible first | refine xstp ?_ | refine Both.mk ?_ ?_ | refine xgon ?_ | intro _)))))
  · have hkb := hkb hb
    obtain ⟨f, hf⟩ : ∃ f, 4097 - k = f + 1 := ⟨4096 - k, by omega⟩
    rw [hf, dB] at hw
    have hx : (v - k * b) - b = v - ((k + 1 : Nat) : Int) * b := by push_cast; rw [Int.add_mul, Int.one_mul]; omega
    have hw2 : w + (v - k * b) + dB f (v - ((k + 1 : Nat) : Int) * b) b = dB 4097 v b := by
      rw [← hx]
      by_cases h0 : v - k * b ≤ 0
      · rw [if_pos h0] at hw
        have : dB f (v - k * b - b) b = 0 := dB_neg f (by omega)
        omega
      · rw [if_neg h0] at hw
        omega
    refine ⟨⟨(k + 1, w + (v - k * b)), by simp only; omega, by simp only; omega, by simp only; rw [show 4097 - (k + 1) = f by omega]; exact hw2, by simp only; omega, by simp only; omega⟩, [], by simp only; omega, ?_⟩
    (repeat' first | refine And.intro ?_ ?_ | exact xeC | fail)
  · have h1 : ticB v b * b ≤ (k : Int) * b := Int.mul_le_mul_of_nonneg_right (by omega) (by omega)
    rw [dB_neg _ (show v - (k : Int) * b ≤ 0 by omega), Int.add_zero] at hw
    rw [← hw]
    refine FinK.mk ⟨[], _, _, ⟨rfl, rfl⟩, ?_⟩; (repeat' first | refine And.intro ?_ ?_ | exact xeC | fail)
theorem disB_b (v b : Int) : 0 ≤ disB v b ∧ disB v b ≤ 20000000 := by
  unfold disB
  split
  · rename_i h
    have h1 := h.1
    have h2 := h.2
    unfold okV at h1
    unfold okB at h2
    have := dB_le 4097 v b h1.1 h1.2 h2.1
    omega
  · omega
theorem ticB_b (v b : Int) : 0 ≤ ticB v b ∧ ticB v b ≤ 4096 := by
  by_cases h : okV v ∧ okB b
  · obtain ⟨_, h1, h2, _⟩ := ticB_eq h.1 h.2
    exact ⟨h1, h2⟩
  · have : ticB v b = 0 := if_neg h
    omega
theorem mulB_b {l : Lm} (hl : okL l) (v b : Int) : 0 ≤ l.hu * (ticB v b + 1) ∧ l.hu * (ticB v b + 1) ≤ 20000000 := by
  have h := ticB_b v b
  unfold okL at hl
  have h1 : l.hu * (ticB v b + 1) ≤ 4096 * 4097 := Int.mul_le_mul (by omega) (by omega) (by omega) (by decide)
  have h2 : 0 ≤ l.hu * (ticB v b + 1) := Int.mul_nonneg (by omega) (by omega)
  omega
set_option maxRecDepth 10000 in
set_option maxHeartbeats 4000000 in
theorem cNeed (v : Int) (l : Lm) : Ctr Tryz.prog 75 [.c (.i .i64 v), .a (encL l)] [] fun w h => w = .c (.i .i64 (nedB v l)) ∧ h = [] := by
  have hN : ¬ (okV v ∧ okL l) → nedB v l = 0 := fun h => if_neg h
  have hd := disB_b v l.br
  have ht := ticB_b v l.br
  refine Ctr.mk' tbv mixed Tryz.func75 rfl rfl rfl (fun _ _ => by kernel_rfl) (by kernel_rfl) (by rfl) (by rfl) (by (repeat' first | refine And.intro ?_ ?_ | exact xeC | fail)) ?_
  repeat' (first | (fail_if_success (with_reducible refine xstp ?_)); first | ((with_reducible refine And.intro (fun (hb : _ = true) => ?_) (fun (hb : _ = false) => ?_)) <;> replace hb := xnC hb <;> (try first | exact xfC | exact bff hb (by assumption) | exact bff (by assumption) hb)) | (with_reducible refine Both.mk ?_ ?_) | ((with_reducible refine And.intro ?_ ?_); focus exact xoC) | ((with_reducible refine Or.inl ⟨?_, ?_, ?_⟩); (focus rfl); focus exact xaC) | ((with_reducible refine xwB ?_ ?_); focus exact xaC) | ((with_reducible refine xwC ?_ ?_); focus exact xaC) | ((with_reducible refine xwD ?_ ?_); focus exact xaC) | ((with_reducible refine xwE ?_ ?_); focus exact xaC) | (with_reducible intro hc; (try simp only [capsP, and_true] at hc); (try exact xfC)) | ((fail_if_success (with_reducible first | refine xgon ?_ | intro _)); (conv => whnf); (fail_if_success (fail_if_success (with_reducible first | refine xstp ?_ | refine Both.mk ?_ ?_ | refine xgon ?_ | intro _)))))
  refine xcal (σ := []) (nl := []) (cIn (v) (0) (4096)) ?_
  rintro v h' ⟨rfl, rfl⟩ hcaps
  refine rH51zmD0 ?_
  repeat' (first | (fail_if_success (with_reducible refine xstp ?_)); first | ((with_reducible refine And.intro (fun (hb : _ = true) => ?_) (fun (hb : _ = false) => ?_)) <;> replace hb := xnC hb <;> (try first | exact xfC | exact bff hb (by assumption) | exact bff (by assumption) hb)) | (with_reducible refine Both.mk ?_ ?_) | ((with_reducible refine And.intro ?_ ?_); focus exact xoC) | ((with_reducible refine Or.inl ⟨?_, ?_, ?_⟩); (focus rfl); focus exact xaC) | ((with_reducible refine xwB ?_ ?_); focus exact xaC) | ((with_reducible refine xwC ?_ ?_); focus exact xaC) | ((with_reducible refine xwD ?_ ?_); focus exact xaC) | ((with_reducible refine xwE ?_ ?_); focus exact xaC) | (with_reducible intro hc; (try simp only [capsP, and_true] at hc); (try exact xfC)) | ((fail_if_success (with_reducible first | refine xgon ?_ | intro _)); (conv => whnf); (fail_if_success (fail_if_success (with_reducible first | refine xstp ?_ | refine Both.mk ?_ ?_ | refine xgon ?_ | intro _)))))
  · rw [hN (fun h => by unfold okV at h; omega)]
    refine FinK.mk ⟨[], _, _, ⟨rfl, rfl⟩, ?_⟩; (repeat' first | refine And.intro ?_ ?_ | exact xeC | fail)
  refine xcal (σ := []) (nl := []) (cValidB l) ?_
  rintro v h' ⟨rfl, rfl⟩ hcaps
  refine rH51zmD0 ?_
  repeat' (first | (fail_if_success (with_reducible refine xstp ?_)); first | ((with_reducible refine And.intro (fun (hb : _ = true) => ?_) (fun (hb : _ = false) => ?_)) <;> replace hb := xnC hb <;> (try first | exact xfC | exact bff hb (by assumption) | exact bff (by assumption) hb)) | (with_reducible refine Both.mk ?_ ?_) | ((with_reducible refine And.intro ?_ ?_); focus exact xoC) | ((with_reducible refine Or.inl ⟨?_, ?_, ?_⟩); (focus rfl); focus exact xaC) | ((with_reducible refine xwB ?_ ?_); focus exact xaC) | ((with_reducible refine xwC ?_ ?_); focus exact xaC) | ((with_reducible refine xwD ?_ ?_); focus exact xaC) | ((with_reducible refine xwE ?_ ?_); focus exact xaC) | (with_reducible intro hc; (try simp only [capsP, and_true] at hc); (try exact xfC)) | ((fail_if_success (with_reducible first | refine xgon ?_ | intro _)); (conv => whnf); (fail_if_success (fail_if_success (with_reducible first | refine xstp ?_ | refine Both.mk ?_ ?_ | refine xgon ?_ | intro _)))))
  · rw [hN (fun h => by have := h.2; contradiction)]
    refine FinK.mk ⟨[], _, _, ⟨rfl, rfl⟩, ?_⟩; (repeat' first | refine And.intro ?_ ?_ | exact xeC | fail)
  have hl : okL l := by assumption
  have hm := mulB_b hl v l.br
  have hmg := hl.2.2.2.2
  have hE : nedB v l = _ := if_pos ⟨by assumption, hl⟩
  rw [hE]
  refine xcal (σ := []) (nl := []) (cDistB v l.br) ?_
  rintro v h' ⟨rfl, rfl⟩ hcaps
  refine rH51zmD0 ?_
  repeat' (first | (fail_if_success (with_reducible refine xstp ?_)); first | ((with_reducible refine And.intro (fun (hb : _ = true) => ?_) (fun (hb : _ = false) => ?_)) <;> replace hb := xnC hb <;> (try first | exact xfC | exact bff hb (by assumption) | exact bff (by assumption) hb)) | (with_reducible refine Both.mk ?_ ?_) | ((with_reducible refine And.intro ?_ ?_); focus exact xoC) | ((with_reducible refine Or.inl ⟨?_, ?_, ?_⟩); (focus rfl); focus exact xaC) | ((with_reducible refine xwB ?_ ?_); focus exact xaC) | ((with_reducible refine xwC ?_ ?_); focus exact xaC) | ((with_reducible refine xwD ?_ ?_); focus exact xaC) | ((with_reducible refine xwE ?_ ?_); focus exact xaC) | (with_reducible intro hc; (try simp only [capsP, and_true] at hc); (try exact xfC)) | ((fail_if_success (with_reducible first | refine xgon ?_ | intro _)); (conv => whnf); (fail_if_success (fail_if_success (with_reducible first | refine xstp ?_ | refine Both.mk ?_ ?_ | refine xgon ?_ | intro _)))))
  refine xcal (σ := []) (nl := []) (cTicks v l.br) ?_
  rintro v h' ⟨rfl, rfl⟩ hcaps
  refine rH51zmD0 ?_
  repeat' (first | (fail_if_success (with_reducible refine xstp ?_)); first | ((with_reducible refine And.intro (fun (hb : _ = true) => ?_) (fun (hb : _ = false) => ?_)) <;> replace hb := xnC hb <;> (try first | exact xfC | exact bff hb (by assumption) | exact bff (by assumption) hb)) | (with_reducible refine Both.mk ?_ ?_) | ((with_reducible refine And.intro ?_ ?_); focus exact xoC) | ((with_reducible refine Or.inl ⟨?_, ?_, ?_⟩); (focus rfl); focus exact xaC) | ((with_reducible refine xwB ?_ ?_); focus exact xaC) | ((with_reducible refine xwC ?_ ?_); focus exact xaC) | ((with_reducible refine xwD ?_ ?_); focus exact xaC) | ((with_reducible refine xwE ?_ ?_); focus exact xaC) | (with_reducible intro hc; (try simp only [capsP, and_true] at hc); (try exact xfC)) | ((fail_if_success (with_reducible first | refine xgon ?_ | intro _)); (conv => whnf); (fail_if_success (fail_if_success (with_reducible first | refine xstp ?_ | refine Both.mk ?_ ?_ | refine xgon ?_ | intro _)))))
  refine FinK.mk ⟨[], _, _, ⟨rfl, rfl⟩, ?_⟩; (repeat' first | refine And.intro ?_ ?_ | exact xeC | fail)
theorem nedB_b {l : Lm} (hl : okL l) (v : Int) : 0 ≤ nedB v l ∧ nedB v l ≤ 50000000 := by
  unfold nedB
  have hd := disB_b v l.br
  have hm := mulB_b hl v l.br
  unfold okL at hl
  split <;> omega
set_option maxRecDepth 10000 in
set_option maxHeartbeats 4000000 in
theorem cSafe (v gap : Int) (l : Lm) : Ctr Tryz.prog 55 [.c (.i .i64 v), .c (.i .i64 gap), .a (encL l)] [] fun w h => w = .c (.b (decide (sfe v gap l))) ∧ h = [] := by
  have hN : ¬ sfe v gap l → decide (sfe v gap l) = false := fun h => decide_eq_false h
  refine Ctr.mk' tbv mixed Tryz.func55 rfl rfl rfl (fun _ _ => by kernel_rfl) (by kernel_rfl) (by rfl) (by rfl) (by (repeat' first | refine And.intro ?_ ?_ | exact xeC | fail)) ?_
  repeat' (first | (fail_if_success (with_reducible refine xstp ?_)); first | ((with_reducible refine And.intro (fun (hb : _ = true) => ?_) (fun (hb : _ = false) => ?_)) <;> replace hb := xnC hb <;> (try first | exact xfC | exact bff hb (by assumption) | exact bff (by assumption) hb)) | (with_reducible refine Both.mk ?_ ?_) | ((with_reducible refine And.intro ?_ ?_); focus exact xoC) | ((with_reducible refine Or.inl ⟨?_, ?_, ?_⟩); (focus rfl); focus exact xaC) | ((with_reducible refine xwB ?_ ?_); focus exact xaC) | ((with_reducible refine xwC ?_ ?_); focus exact xaC) | ((with_reducible refine xwD ?_ ?_); focus exact xaC) | ((with_reducible refine xwE ?_ ?_); focus exact xaC) | (with_reducible intro hc; (try simp only [capsP, and_true] at hc); (try exact xfC)) | ((fail_if_success (with_reducible first | refine xgon ?_ | intro _)); (conv => whnf); (fail_if_success (fail_if_success (with_reducible first | refine xstp ?_ | refine Both.mk ?_ ?_ | refine xgon ?_ | intro _)))))
  refine xcal (σ := []) (nl := []) (cIn (v) (0) (4096)) ?_
  rintro v h' ⟨rfl, rfl⟩ hcaps
  refine rH51zmD0 ?_
  repeat' (first | (fail_if_success (with_reducible refine xstp ?_)); first | ((with_reducible refine And.intro (fun (hb : _ = true) => ?_) (fun (hb : _ = false) => ?_)) <;> replace hb := xnC hb <;> (try first | exact xfC | exact bff hb (by assumption) | exact bff (by assumption) hb)) | (with_reducible refine Both.mk ?_ ?_) | ((with_reducible refine And.intro ?_ ?_); focus exact xoC) | ((with_reducible refine Or.inl ⟨?_, ?_, ?_⟩); (focus rfl); focus exact xaC) | ((with_reducible refine xwB ?_ ?_); focus exact xaC) | ((with_reducible refine xwC ?_ ?_); focus exact xaC) | ((with_reducible refine xwD ?_ ?_); focus exact xaC) | ((with_reducible refine xwE ?_ ?_); focus exact xaC) | (with_reducible intro hc; (try simp only [capsP, and_true] at hc); (try exact xfC)) | ((fail_if_success (with_reducible first | refine xgon ?_ | intro _)); (conv => whnf); (fail_if_success (fail_if_success (with_reducible first | refine xstp ?_ | refine Both.mk ?_ ?_ | refine xgon ?_ | intro _)))))
  all_goals try (
    rw [hN (fun h => by have := h.1; unfold okV at this; omega)]
    refine FinK.mk ⟨[], _, _, ⟨rfl, rfl⟩, ?_⟩; (repeat' first | refine And.intro ?_ ?_ | exact xeC | fail)
    done)
  refine xcal (σ := []) (nl := []) (cValidB l) ?_
  rintro v h' ⟨rfl, rfl⟩ hcaps
  refine rH51zmD0 ?_
  repeat' (first | (fail_if_success (with_reducible refine xstp ?_)); first | ((with_reducible refine And.intro (fun (hb : _ = true) => ?_) (fun (hb : _ = false) => ?_)) <;> replace hb := xnC hb <;> (try first | exact xfC | exact bff hb (by assumption) | exact bff (by assumption) hb)) | (with_reducible refine Both.mk ?_ ?_) | ((with_reducible refine And.intro ?_ ?_); focus exact xoC) | ((with_reducible refine Or.inl ⟨?_, ?_, ?_⟩); (focus rfl); focus exact xaC) | ((with_reducible refine xwB ?_ ?_); focus exact xaC) | ((with_reducible refine xwC ?_ ?_); focus exact xaC) | ((with_reducible refine xwD ?_ ?_); focus exact xaC) | ((with_reducible refine xwE ?_ ?_); focus exact xaC) | (with_reducible intro hc; (try simp only [capsP, and_true] at hc); (try exact xfC)) | ((fail_if_success (with_reducible first | refine xgon ?_ | intro _)); (conv => whnf); (fail_if_success (fail_if_success (with_reducible first | refine xstp ?_ | refine Both.mk ?_ ?_ | refine xgon ?_ | intro _)))))
  all_goals try (
    rw [hN (fun h => by have := h.2.1; contradiction)]
    refine FinK.mk ⟨[], _, _, ⟨rfl, rfl⟩, ?_⟩; (repeat' first | refine And.intro ?_ ?_ | exact xeC | fail)
    done)
  refine xcal (σ := []) (nl := []) (cNeed v l) ?_
  rintro v h' ⟨rfl, rfl⟩ hcaps
  refine rH51zmD0 ?_
  repeat' (first | (fail_if_success (with_reducible refine xstp ?_)); first | ((with_reducible refine And.intro (fun (hb : _ = true) => ?_) (fun (hb : _ = false) => ?_)) <;> replace hb := xnC hb <;> (try first | exact xfC | exact bff hb (by assumption) | exact bff (by assumption) hb)) | (with_reducible refine Both.mk ?_ ?_) | ((with_reducible refine And.intro ?_ ?_); focus exact xoC) | ((with_reducible refine Or.inl ⟨?_, ?_, ?_⟩); (focus rfl); focus exact xaC) | ((with_reducible refine xwB ?_ ?_); focus exact xaC) | ((with_reducible refine xwC ?_ ?_); focus exact xaC) | ((with_reducible refine xwD ?_ ?_); focus exact xaC) | ((with_reducible refine xwE ?_ ?_); focus exact xaC) | (with_reducible intro hc; (try simp only [capsP, and_true] at hc); (try exact xfC)) | ((fail_if_success (with_reducible first | refine xgon ?_ | intro _)); (conv => whnf); (fail_if_success (fail_if_success (with_reducible first | refine xstp ?_ | refine Both.mk ?_ ?_ | refine xgon ?_ | intro _)))))
  all_goals (
    refine FinK.mk ⟨[], _, _, ⟨rfl, rfl⟩, ?_⟩; (repeat' first | refine And.intro ?_ ?_ | exact xeC | fail)
    all_goals first
      | exact decide_eq_decide.2 ⟨fun h => ⟨by assumption, by assumption, h⟩, fun h => h.2.2⟩
      | (symm; exact decide_eq_true ⟨by assumption, by assumption, by assumption⟩))
set_option maxRecDepth 10000 in
set_option maxHeartbeats 4000000 in
theorem cAllowed (gap : Int) (l : Lm) : Ctr Tryz.prog 36 [.c (.i .i64 gap), .a (encL l)] [] fun w h => w = .c (.i .i64 (alwB gap l)) ∧ h = [] := by
  refine Ctr.mk' tbv mixed Tryz.func36 rfl rfl rfl (fun _ _ => by kernel_rfl) (by kernel_rfl) (by rfl) (by rfl) (by (repeat' first | refine And.intro ?_ ?_ | exact xeC | fail)) ?_
  repeat' (first | (fail_if_success (with_reducible refine xstp ?_)); first | ((with_reducible refine And.intro (fun (hb : _ = true) => ?_) (fun (hb : _ = false) => ?_)) <;> replace hb := xnC hb <;> (try first | exact xfC | exact bff hb (by assumption) | exact bff (by assumption) hb)) | (with_reducible refine Both.mk ?_ ?_) | ((with_reducible refine And.intro ?_ ?_); focus exact xoC) | ((with_reducible refine Or.inl ⟨?_, ?_, ?_⟩); (focus rfl); focus exact xaC) | ((with_reducible refine xwB ?_ ?_); focus exact xaC) | ((with_reducible refine xwC ?_ ?_); focus exact xaC) | ((with_reducible refine xwD ?_ ?_); focus exact xaC) | ((with_reducible refine xwE ?_ ?_); focus exact xaC) | (with_reducible intro hc; (try simp only [capsP, and_true] at hc); (try exact xfC)) | ((fail_if_success (with_reducible first | refine xgon ?_ | intro _)); (conv => whnf); (fail_if_success (fail_if_success (with_reducible first | refine xstp ?_ | refine Both.mk ?_ ?_ | refine xgon ?_ | intro _)))))
  refine xcal (σ := []) (nl := []) (cSafe 0 gap l) ?_
  rintro v h' ⟨rfl, rfl⟩ hcaps
  refine rH51zmD0 ?_
  repeat' (first | (fail_if_success (with_reducible refine xstp ?_)); first | ((with_reducible refine And.intro (fun (hb : _ = true) => ?_) (fun (hb : _ = false) => ?_)) <;> replace hb := xnC hb <;> (try first | exact xfC | exact bff hb (by assumption) | exact bff (by assumption) hb)) | (with_reducible refine Both.mk ?_ ?_) | ((with_reducible refine And.intro ?_ ?_); focus exact xoC) | ((with_reducible refine Or.inl ⟨?_, ?_, ?_⟩); (focus rfl); focus exact xaC) | ((with_reducible refine xwB ?_ ?_); focus exact xaC) | ((with_reducible refine xwC ?_ ?_); focus exact xaC) | ((with_reducible refine xwD ?_ ?_); focus exact xaC) | ((with_reducible refine xwE ?_ ?_); focus exact xaC) | (with_reducible intro hc; (try simp only [capsP, and_true] at hc); (try exact xfC)) | ((fail_if_success (with_reducible first | refine xgon ?_ | intro _)); (conv => whnf); (fail_if_success (fail_if_success (with_reducible first | refine xstp ?_ | refine Both.mk ?_ ?_ | refine xgon ?_ | intro _)))))
  · have hE : alwB gap l = -1 := if_neg (by assumption)
    rw [hE]
    refine FinK.mk ⟨[], _, _, ⟨rfl, rfl⟩, ?_⟩; (repeat' first | refine And.intro ?_ ?_ | exact xeC | fail)
  have hs : sfe 0 gap l := by assumption
  have hE : alwB gap l = _ := if_pos hs
  rw [hE]
  have hl := hs.2.1
  unfold okL at hl
  refine LoopK.mk' {p : Nat × Int × Int // alN gap l p.1 p.2.1 p.2.2 = alN gap l 4097 0 l.sp ∧ p.2.2 - p.2.1 ≤ p.1 ∧ 0 ≤ p.2.1 ∧ p.2.2 ≤ 4096 ∧ p.2.1 ≤ 4096 ∧ -1 ≤ p.2.2}
    (fun ⟨(k, lo, hi), _⟩ => ⟨[(0, .c (.i .i64 gap)), (3, .c (.p 0 0 0)), (5, .c (.i .i64 lo)), (6, .c (.i .i64 hi))], [.one (.cells true (encL l))]⟩) (fun q => q.1.1)
    ⟨⟨(4097, 0, l.sp), rfl, by simp only; omega, Int.le_refl _, by simp only; omega, by simp only; omega, by simp only; omega⟩, [0], ?_⟩ ?_
  · (repeat' first | refine And.intro ?_ ?_ | exact xeC | fail)
  rintro ⟨⟨k, lo, hi⟩, hk, hd, h0, h1, h2, h3⟩
  simp only at hk hd h0 h1 h2 h3
  have hdv : 0 ≤ lo + hi + 1 → (lo + hi + 1).tdiv 2 = (lo + hi + 1) / 2 := fun h => Int.tdiv_eq_ediv_of_nonneg h
  by_cases hlt : lo < hi
  · obtain ⟨k', rfl⟩ : ∃ k', k = k' + 1 := ⟨k - 1, by omega⟩
    have hdv := hdv (by omega)
    obtain ⟨u, hu⟩ : ∃ u, u = (lo + hi + 1) / 2 := ⟨_, rfl⟩
    have hub : lo < u ∧ u ≤ hi := by omega
    rw [alN, if_pos hlt, ← hu] at hk
    rw [← hu] at hdv
    repeat' (first | (fail_if_success (with_reducible refine xstp ?_)); first | ((with_reducible refine And.intro (fun (hb : _ = true) => ?_) (fun (hb : _ = false) => ?_)) <;> replace hb := xnC hb <;> (try first | exact xfC | exact bff hb (by assumption) | exact bff (by assumption) hb)) | (with_reducible refine Both.mk ?_ ?_) | ((with_reducible refine And.intro ?_ ?_); focus exact xoC) | ((with_reducible refine Or.inl ⟨?_, ?_, ?_⟩); (focus rfl); focus exact xaC) | ((with_reducible refine xwB ?_ ?_); focus exact xaC) | ((with_reducible refine xwC ?_ ?_); focus exact xaC) | ((with_reducible refine xwD ?_ ?_); focus exact xaC) | ((with_reducible refine xwE ?_ ?_); focus exact xaC) | (with_reducible intro hc; (try simp only [capsP, and_true] at hc); (try exact xfC)) | ((fail_if_success (with_reducible first | refine xgon ?_ | intro _)); (conv => whnf); (fail_if_success (fail_if_success (with_reducible first | refine xstp ?_ | refine Both.mk ?_ ?_ | refine xgon ?_ | intro _)))))
    rw [hdv]
    repeat' (first | (fail_if_success (with_reducible refine xstp ?_)); first | ((with_reducible refine And.intro (fun (hb : _ = true) => ?_) (fun (hb : _ = false) => ?_)) <;> replace hb := xnC hb <;> (try first | exact xfC | exact bff hb (by assumption) | exact bff (by assumption) hb)) | (with_reducible refine Both.mk ?_ ?_) | ((with_reducible refine And.intro ?_ ?_); focus exact xoC) | ((with_reducible refine Or.inl ⟨?_, ?_, ?_⟩); (focus rfl); focus exact xaC) | ((with_reducible refine xwB ?_ ?_); focus exact xaC) | ((with_reducible refine xwC ?_ ?_); focus exact xaC) | ((with_reducible refine xwD ?_ ?_); focus exact xaC) | ((with_reducible refine xwE ?_ ?_); focus exact xaC) | (with_reducible intro hc; (try simp only [capsP, and_true] at hc); (try exact xfC)) | ((fail_if_success (with_reducible first | refine xgon ?_ | intro _)); (conv => whnf); (fail_if_success (fail_if_success (with_reducible first | refine xstp ?_ | refine Both.mk ?_ ?_ | refine xgon ?_ | intro _)))))
    refine xcal (σ := []) (nl := []) (cSafe u gap l) ?_
    rintro v h' ⟨rfl, rfl⟩ hcaps
    refine rH51zmD0 ?_
    repeat' (first | (fail_if_success (with_reducible refine xstp ?_)); first | ((with_reducible refine And.intro (fun (hb : _ = true) => ?_) (fun (hb : _ = false) => ?_)) <;> replace hb := xnC hb <;> (try first | exact xfC | exact bff hb (by assumption) | exact bff (by assumption) hb)) | (with_reducible refine Both.mk ?_ ?_) | ((with_reducible refine And.intro ?_ ?_); focus exact xoC) | ((with_reducible refine Or.inl ⟨?_, ?_, ?_⟩); (focus rfl); focus exact xaC) | ((with_reducible refine xwB ?_ ?_); focus exact xaC) | ((with_reducible refine xwC ?_ ?_); focus exact xaC) | ((with_reducible refine xwD ?_ ?_); focus exact xaC) | ((with_reducible refine xwE ?_ ?_); focus exact xaC) | (with_reducible intro hc; (try simp only [capsP, and_true] at hc); (try exact xfC)) | ((fail_if_success (with_reducible first | refine xgon ?_ | intro _)); (conv => whnf); (fail_if_success (fail_if_success (with_reducible first | refine xstp ?_ | refine Both.mk ?_ ?_ | refine xgon ?_ | intro _)))))
    · rw [if_pos (by assumption)] at hk
      refine ⟨⟨(k', u, hi), hk, by simp only; omega, by simp only; omega, by simp only; omega, by simp only; omega, by simp only; omega⟩, [0], by simp only; omega, ?_⟩
      (repeat' first | refine And.intro ?_ ?_ | exact xeC | fail)
    · rw [if_neg (by assumption)] at hk
      refine ⟨⟨(k', lo, u - 1), hk, by simp only; omega, by simp only; omega, by simp only; omega, by simp only; omega, by simp only; omega⟩, [0], by simp only; omega, ?_⟩
      (repeat' first | refine And.intro ?_ ?_ | exact xeC | fail)
  · have he : alN gap l k lo hi = lo := by
      cases k with
      | zero => rfl
      | succ k => rw [alN, if_neg hlt]
    repeat' (first | (fail_if_success (with_reducible refine xstp ?_)); first | ((with_reducible refine And.intro (fun (hb : _ = true) => ?_) (fun (hb : _ = false) => ?_)) <;> replace hb := xnC hb <;> (try first | exact xfC | exact bff hb (by assumption) | exact bff (by assumption) hb)) | (with_reducible refine Both.mk ?_ ?_) | ((with_reducible refine And.intro ?_ ?_); focus exact xoC) | ((with_reducible refine Or.inl ⟨?_, ?_, ?_⟩); (focus rfl); focus exact xaC) | ((with_reducible refine xwB ?_ ?_); focus exact xaC) | ((with_reducible refine xwC ?_ ?_); focus exact xaC) | ((with_reducible refine xwD ?_ ?_); focus exact xaC) | ((with_reducible refine xwE ?_ ?_); focus exact xaC) | (with_reducible intro hc; (try simp only [capsP, and_true] at hc); (try exact xfC)) | ((fail_if_success (with_reducible first | refine xgon ?_ | intro _)); (conv => whnf); (fail_if_success (fail_if_success (with_reducible first | refine xstp ?_ | refine Both.mk ?_ ?_ | refine xgon ?_ | intro _)))))
    rw [← hk, he]
    refine FinK.mk ⟨[], _, _, ⟨rfl, rfl⟩, ?_⟩; (repeat' first | refine And.intro ?_ ?_ | exact xeC | fail)
theorem alN_b {gap : Int} {l : Lm} : ∀ (k : Nat) (lo hi : Int), 0 ≤ lo → lo ≤ 4096 → hi ≤ 4096 → 0 ≤ alN gap l k lo hi ∧ alN gap l k lo hi ≤ max lo hi
  | 0, lo, hi, h0, _, _ => by rw [alN]; omega
  | k + 1, lo, hi, h0, h1, h2 => by
    rw [alN]
    split
    · split
      · have := alN_b (gap := gap) (l := l) k ((lo + hi + 1) / 2) hi (by omega) (by omega) h2
        omega
      · have := alN_b (gap := gap) (l := l) k lo ((lo + hi + 1) / 2 - 1) h0 h1 (by omega)
        omega
    · omega
end Go.Proofs.YteifgkldagnodaaGreat
