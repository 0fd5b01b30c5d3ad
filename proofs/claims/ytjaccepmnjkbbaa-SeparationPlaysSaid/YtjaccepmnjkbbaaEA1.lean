/- Part 1 of the texts that a walk of this program rests on: an abstract machine, its soundness, contracts of functions. No statement of the seat is proved in this file. -/
import Derived.Test.YtjaccepmnjkbbaaZ4
namespace Go.Proofs.Ytjaccepmnjkbbaa
open Go.X
set_option linter.unusedSimpArgs false
set_option linter.unusedVariables false
def encRp (e : Pn) : List C := [.i .i64 e.id, .i .i64 e.t, .i .i64 e.p.x, .i .i64 e.p.y]
abbrev refF (hu ke : Int) (f n c : Nat) : Ck := .cells true [.i .i64 hu, .i .i64 ke, .sl f 0 4 0 n c]
abbrev refC (hu ke : Int) (n c : Nat) : Ck := refF hu ke 1 n c
abbrev refR (R : List Pn) (c : Nat) : Ck := .row true false 75 4 R.length c (rowOf encRp R)
abbrev refB (hu ke : Int) (R : List Pn) (c : Nat) : List Fam := [.one (refC hu ke R.length c), .one (refR R c)]
def plc (R : List Pn) (id : Int) : Int := match fndP R id with | some i => (i : Nat) | none => -1
theorem plc_some {R : List Pn} {id : Int} {i : Nat} (h : fndP R id = some i) : plc R id = (i : Nat) := by unfold plc; rw [h]
theorem plc_none {R : List Pn} {id : Int} (h : fndP R id = none) : plc R id = -1 := by unfold plc; rw [h]
theorem fndP_first {M : List Pn} {id : Int} {i : Nat} (hi : i < M.length) (hk : (M.getD i default).id = id) (hn : ∀ j, j < i → (M.getD j default).id ≠ id) : fndP M id = some i := by
  unfold fndP
  rw [List.findIdx?_eq_some_iff_getElem]
  refine ⟨hi, by simp only [decide_eq_true_eq]; rw [← getD_at hi]; exact hk, fun j hj => ?_⟩
  have := hn j hj
  rw [getD_at (by omega)] at this
  simpa using this
set_option maxRecDepth 10000 in
theorem cNewR (hu ke : Int) :
    Ctr Try.prog 17 [.c (.i .i64 hu), .c (.i .i64 ke)] [] fun v h => v = (if okN hu ke then .t [.a [.i .i64 hu, .i .i64 ke, .nils], .c (.i .i64 0)] else .t [.a [.i .i64 0, .i .i64 0, .nils], .c (.i .i64 4)]) ∧ h = [] := by
  refine Ctr.mk' tbv mixed Try.func17 rfl rfl rfl (fun _ _ => by kernel_rfl) (by kernel_rfl) (by rfl) (by rfl) (by (repeat' first | refine And.intro ?_ ?_ | exact xeC | fail)) ?_
  repeat' (first | (fail_if_success (with_reducible refine xstp ?_)); first | ((with_reducible refine And.intro (fun (hb : _ = true) => ?_) (fun (hb : _ = false) => ?_)) <;> replace hb := xnC hb <;> (try first | exact xfC | exact bff hb (by assumption) | exact bff (by assumption) hb)) | (with_reducible refine Both.mk ?_ ?_) | ((with_reducible refine And.intro ?_ ?_); focus exact xoC) | ((with_reducible refine Or.inl ⟨?_, ?_, ?_⟩); (focus rfl); focus exact xaC) | ((with_reducible refine xwB ?_ ?_); focus exact xaC) | ((with_reducible refine xwC ?_ ?_); focus exact xaC) | ((with_reducible refine xwD ?_ ?_); focus exact xaC) | ((with_reducible refine xwE ?_ ?_); focus exact xaC) | (with_reducible intro hc; (try simp only [capsP, and_true] at hc); (try exact xfC)) | ((fail_if_success (with_reducible first | refine xgon ?_ | intro _)); (conv => whnf); (fail_if_success (fail_if_success (with_reducible first | refine xstp ?_ | refine Both.mk ?_ ?_ | refine xgon ?_ | intro _)))))
  all_goals first
    | (rw [if_pos (by unfold okN; omega)]
       refine FinK.mk ⟨[], _, _, ⟨rfl, rfl⟩, ?_⟩; (repeat' first | refine And.intro ?_ ?_ | exact xeC | fail)
       done)
    | (rw [if_neg (by unfold okN; omega)]
       refine FinK.mk ⟨[], _, _, ⟨rfl, rfl⟩, ?_⟩; (repeat' first | refine And.intro ?_ ?_ | exact xeC | fail)
       done)
set_option maxRecDepth 10000 in
theorem cplace (hu ke : Int) (R : List Pn) (c : Nat) (id : Int) (hR : R.length ≤ 8) :
    Ctr Try.prog 33 [.c (.p 0 0 0), .c (.i .i64 id)] (refB hu ke R c) fun v h => v = .c (.i .i64 (plc R id)) ∧ h = refB hu ke R c := by
  refine Ctr.mk' tbv mixed Try.func33 rfl rfl rfl (fun _ _ => by kernel_rfl) (by kernel_rfl) (by rfl) (by rfl) (by (repeat' first | refine And.intro ?_ ?_ | exact xeC | fail)) ?_
  repeat' (first | (fail_if_success (with_reducible refine xstp ?_)); first | ((with_reducible refine And.intro (fun (hb : _ = true) => ?_) (fun (hb : _ = false) => ?_)) <;> replace hb := xnC hb <;> (try first | exact xfC | exact bff hb (by assumption) | exact bff (by assumption) hb)) | (with_reducible refine Both.mk ?_ ?_) | ((with_reducible refine And.intro ?_ ?_); focus exact xoC) | ((with_reducible refine Or.inl ⟨?_, ?_, ?_⟩); (focus rfl); focus exact xaC) | ((with_reducible refine xwB ?_ ?_); focus exact xaC) | ((with_reducible refine xwC ?_ ?_); focus exact xaC) | ((with_reducible refine xwD ?_ ?_); focus exact xaC) | ((with_reducible refine xwE ?_ ?_); focus exact xaC) | (with_reducible intro hc; (try simp only [capsP, and_true] at hc); (try exact xfC)) | ((fail_if_success (with_reducible first | refine xgon ?_ | intro _)); (conv => whnf); (fail_if_success (fail_if_success (with_reducible first | refine xstp ?_ | refine Both.mk ?_ ?_ | refine xgon ?_ | intro _)))))
  refine LoopK.mk' {i : Nat // i ≤ R.length ∧ ∀ j, j < i → (R.getD j default).id ≠ id}
    (fun ⟨i, _⟩ => ⟨[(0, .c (.p 0 0 0)), (1, .c (.i .i64 id)), (5, .c (.i .i64 (i : Nat)))], refB hu ke R c⟩) (fun k => R.length - k.1)
    ⟨⟨0, Nat.zero_le _, by intro j h; omega⟩, [0, 1], ?_⟩ ?_
  · (repeat' first | refine And.intro ?_ ?_ | exact xeC | fail)
  rintro ⟨i, hi, hno⟩
  repeat' (first | (fail_if_success (with_reducible refine xstp ?_)); first | ((with_reducible refine And.intro (fun (hb : _ = true) => ?_) (fun (hb : _ = false) => ?_)) <;> replace hb := xnC hb <;> (try first | exact xfC | exact bff hb (by assumption) | exact bff (by assumption) hb)) | (with_reducible refine Both.mk ?_ ?_) | ((with_reducible refine And.intro ?_ ?_); focus exact xoC) | ((with_reducible refine Or.inl ⟨?_, ?_, ?_⟩); (focus rfl); focus exact xaC) | ((with_reducible refine xwB ?_ ?_); focus exact xaC) | ((with_reducible refine xwC ?_ ?_); focus exact xaC) | ((with_reducible refine xwD ?_ ?_); focus exact xaC) | ((with_reducible refine xwE ?_ ?_); focus exact xaC) | (with_reducible intro hc; (try simp only [capsP, and_true] at hc); (try exact xfC)) | ((fail_if_success (with_reducible first | refine xgon ?_ | intro _)); (conv => whnf); (fail_if_success (fail_if_success (with_reducible first | refine xstp ?_ | refine Both.mk ?_ ?_ | refine xgon ?_ | intro _)))))
  · rw [plc_some (fndP_first (by omega) hb hno)]
    refine FinK.mk ⟨[0, 1], _, _, ⟨rfl, rfl⟩, ?_⟩; (repeat' first | refine And.intro ?_ ?_ | exact xeC | fail)
  · refine ⟨⟨i + 1, by omega, fun j hj => ?_⟩, [0, 1], by simp only; omega, ?_⟩
    · rcases (by omega : j < i ∨ j = i) with h | rfl
      · exact hno j h
      · exact hb
    · (repeat' first | refine And.intro ?_ ?_ | exact xeC | fail)
  · rw [plc_none (fndP_none (fun j hj => hno j (by omega)))]
    refine FinK.mk ⟨[0, 1], _, _, ⟨rfl, rfl⟩, ?_⟩; (repeat' first | refine And.intro ?_ ?_ | exact xeC | fail)
set_option maxRecDepth 10000 in
theorem cAgeR (e : Pn) (t : Int) (ha : okT e.t) (ht : okT t) :
    Ctr Try.prog 34 [.a (encRp e), .c (.i .i64 t)] [] fun v h => v = .c (.i .i64 (age e.t t)) ∧ h = [] := by
  unfold okT at ha ht
  refine Ctr.mk' tbv mixed Try.func34 rfl rfl rfl (fun _ _ => by kernel_rfl) (by kernel_rfl) (by rfl) (by rfl) (by (repeat' first | refine And.intro ?_ ?_ | exact xeC | fail)) ?_
  repeat' (first | (fail_if_success (with_reducible refine xstp ?_)); first | ((with_reducible refine And.intro (fun (hb : _ = true) => ?_) (fun (hb : _ = false) => ?_)) <;> replace hb := xnC hb <;> (try first | exact xfC | exact bff hb (by assumption) | exact bff (by assumption) hb)) | (with_reducible refine Both.mk ?_ ?_) | ((with_reducible refine And.intro ?_ ?_); focus exact xoC) | ((with_reducible refine Or.inl ⟨?_, ?_, ?_⟩); (focus rfl); focus exact xaC) | ((with_reducible refine xwB ?_ ?_); focus exact xaC) | ((with_reducible refine xwC ?_ ?_); focus exact xaC) | ((with_reducible refine xwD ?_ ?_); focus exact xaC) | ((with_reducible refine xwE ?_ ?_); focus exact xaC) | (with_reducible intro hc; (try simp only [capsP, and_true] at hc); (try exact xfC)) | ((fail_if_success (with_reducible first | refine xgon ?_ | intro _)); (conv => whnf); (fail_if_success (fail_if_success (with_reducible first | refine xstp ?_ | refine Both.mk ?_ ?_ | refine xgon ?_ | intro _)))))
  · refine FinK.mk ⟨[], _, _, ⟨rfl, rfl⟩, ?_⟩; (repeat' first | refine And.intro ?_ ?_ | exact xeC | fail)
    all_goals (unfold age; omega)
  · refine FinK.mk ⟨[], _, _, ⟨rfl, rfl⟩, ?_⟩; (repeat' first | refine And.intro ?_ ?_ | exact xeC | fail)
    all_goals (unfold age; omega)
def slotR (R : List Pn) (id t : Int) (p : Pt) (n : Int) : List Pn := if n = id then [⟨0, id, t, p⟩] else match fndP R n with | some i => [R.getD i default] | none => []
def accR (R : List Pn) (id t : Int) (p : Pt) (k : Nat) : List Pn := (List.range k).flatMap fun i => slotR R id t p ((i : Nat) + 1 : Int)
theorem accR_succ (R : List Pn) (id t : Int) (p : Pt) (k : Nat) : accR R id t p (k + 1) = accR R id t p k ++ slotR R id t p ((k : Nat) + 1 : Int) := by
  unfold accR
  rw [List.range_succ, List.flatMap_append]
  simp
theorem slotR_le (R : List Pn) (id t : Int) (p : Pt) (n : Int) : (slotR R id t p n).length ≤ 1 := by
  unfold slotR
  split
  · exact Nat.le_refl _
  · split <;> simp
theorem accR_le (R : List Pn) (id t : Int) (p : Pt) : ∀ k, (accR R id t p k).length ≤ k
  | 0 => by simp [accR]
  | k + 1 => by
    rw [accR_succ, List.length_append]
    have := accR_le R id t p k
    have := slotR_le R id t p ((k : Nat) + 1 : Int)
    omega
def seeR (R : List Pn) (id t : Int) (p : Pt) : List Pn := if seeE R id t p ≠ 0 then R else accR R id t p 8
theorem rH50eA0 {σ : List Sg} {H h' : List Fam} {v : T} {K : T → List Fam → Prop} {H' : List Fam} {v' : T} {N : Nat} (hk : K v' H') (hN : H.length = N := by (try simp only [↓List.length_cons, ↓List.length_nil, Nat.reduceAdd]) <;> rfl) (h : givesF σ N H σ h' = some H' := by (try simp (maxSteps := 1000000) only [givesF, setF, updF, Fam.zeroth, Fam.rk, Ck.rk, C.rk, E.rk, T.rk, key, List.map_cons, List.map_nil, List.cons_append, List.nil_append, List.length_cons, List.length_nil, Option.map_some, Option.bind_some, Nat.reduceAdd, Nat.zero_add, Nat.add_zero, Nat.add_sub_cancel_left, Int.toNat_natCast, reps, List.all_cons, List.all_nil, C.flat, List.append_eq, Bool.not_true, Bool.and_true, Bool.or_false, Bool.or_self, Bool.not_false, List.append_nil, Bool.and_self, encPt]) <;> rfl) (hv : v.rk σ N = v' := by (try simp only [givesF, setF, updF, Fam.zeroth, Fam.rk, Ck.rk, C.rk, E.rk, T.rk, key, List.map_cons, List.map_nil, List.cons_append, List.nil_append, List.length_cons, List.length_nil, Option.map_some, Option.bind_some, Nat.reduceAdd, Nat.zero_add, Nat.add_zero, Nat.add_sub_cancel_left, Int.toNat_natCast, reps, List.all_cons, List.all_nil, C.flat, List.append_eq, Bool.not_true, Bool.and_true, Bool.or_false, Bool.or_self, Bool.not_false, List.append_nil, Bool.and_self, encPt]) <;> rfl) : RetG σ H h' v K := ret_mk3 hN h hv hk
set_option maxRecDepth 20000 in
set_option maxHeartbeats 1000000 in
theorem cSeeR (hu ke : Int) (R : List Pn) (c : Nat) (id t : Int) (p : Pt) (hR : R.length ≤ 8) :
    Ctr Try.prog 18 [.c (.p 0 0 0), .c (.i .i64 id), .c (.i .i64 t), .a (encPt p)] (refB hu ke R c)
      fun v h => ∃ c', v = .c (.i .i64 (seeE R id t p : Nat)) ∧ h = [.one (refF hu ke 2 (seeR R id t p).length c'), .one .no, .one (refR (seeR R id t p) c')] := by
  refine Ctr.mk' tbv mixed Try.func18 rfl rfl rfl (fun _ _ => by kernel_rfl) (by kernel_rfl) (by rfl) (by rfl) (by (repeat' first | refine And.intro ?_ ?_ | exact xeC | fail)) ?_
  repeat' (first | (fail_if_success (with_reducible refine xstp ?_)); first | ((with_reducible refine And.intro (fun (hb : _ = true) => ?_) (fun (hb : _ = false) => ?_)) <;> replace hb := xnC hb <;> (try first | exact xfC | exact bff hb (by assumption) | exact bff (by assumption) hb)) | (with_reducible refine Both.mk ?_ ?_) | ((with_reducible refine And.intro ?_ ?_); focus exact xoC) | ((with_reducible refine Or.inl ⟨?_, ?_, ?_⟩); (focus rfl); focus exact xaC) | ((with_reducible refine xwB ?_ ?_); focus exact xaC) | ((with_reducible refine xwC ?_ ?_); focus exact xaC) | ((with_reducible refine xwD ?_ ?_); focus exact xaC) | ((with_reducible refine xwE ?_ ?_); focus exact xaC) | (with_reducible intro hc; (try simp only [capsP, and_true] at hc); (try exact xfC)) | ((fail_if_success (with_reducible first | refine xgon ?_ | intro _)); (conv => whnf); (fail_if_success (fail_if_success (with_reducible first | refine xstp ?_ | refine Both.mk ?_ ?_ | refine xgon ?_ | intro _)))))
  · skip
    have hE : seeE R id t p = 4 := if_pos (fun h => by omega)
    have hM : seeR R id t p = R := if_pos (by rw [hE]; decide)
    rw [hE, hM]
    refine FinK.mk ⟨[0, 1, 1], _, _, ⟨c, rfl, rfl⟩, ?_⟩
    (repeat' first | refine And.intro ?_ ?_ | exact xeC | fail)
  · skip
    have hE : seeE R id t p = 4 := if_pos (fun h => by omega)
    have hM : seeR R id t p = R := if_pos (by rw [hE]; decide)
    rw [hE, hM]
    refine FinK.mk ⟨[0, 1, 1], _, _, ⟨c, rfl, rfl⟩, ?_⟩
    (repeat' first | refine And.intro ?_ ?_ | exact xeC | fail)
  refine xcal (σ := []) (nl := []) (cTimeR t) ?_
  rintro v h' ⟨rfl, rfl⟩ hcaps
  refine rH50eA0 ?_
  repeat' (first | (fail_if_success (with_reducible refine xstp ?_)); first | ((with_reducible refine And.intro (fun (hb : _ = true) => ?_) (fun (hb : _ = false) => ?_)) <;> replace hb := xnC hb <;> (try first | exact xfC | exact bff hb (by assumption) | exact bff (by assumption) hb)) | (with_reducible refine Both.mk ?_ ?_) | ((with_reducible refine And.intro ?_ ?_); focus exact xoC) | ((with_reducible refine Or.inl ⟨?_, ?_, ?_⟩); (focus rfl); focus exact xaC) | ((with_reducible refine xwB ?_ ?_); focus exact xaC) | ((with_reducible refine xwC ?_ ?_); focus exact xaC) | ((with_reducible refine xwD ?_ ?_); focus exact xaC) | ((with_reducible refine xwE ?_ ?_); focus exact xaC) | (with_reducible intro hc; (try simp only [capsP, and_true] at hc); (try exact xfC)) | ((fail_if_success (with_reducible first | refine xgon ?_ | intro _)); (conv => whnf); (fail_if_success (fail_if_success (with_reducible first | refine xstp ?_ | refine Both.mk ?_ ?_ | refine xgon ?_ | intro _)))))
  · skip
    have hE : seeE R id t p = 4 := if_pos (fun h => hb h.2.1)
    have hM : seeR R id t p = R := if_pos (by rw [hE]; decide)
    rw [hE, hM]
    refine FinK.mk ⟨[0, 1, 1], _, _, ⟨c, rfl, rfl⟩, ?_⟩
    (repeat' first | refine And.intro ?_ ?_ | exact xeC | fail)
  refine xcal (σ := []) (nl := []) (cReachesR p) ?_
  rintro v h' ⟨rfl, rfl⟩ hcaps
  refine rH50eA0 ?_
  repeat' (first | (fail_if_success (with_reducible refine xstp ?_)); first | ((with_reducible refine And.intro (fun (hb : _ = true) => ?_) (fun (hb : _ = false) => ?_)) <;> replace hb := xnC hb <;> (try first | exact xfC | exact bff hb (by assumption) | exact bff (by assumption) hb)) | (with_reducible refine Both.mk ?_ ?_) | ((with_reducible refine And.intro ?_ ?_); focus exact xoC) | ((with_reducible refine Or.inl ⟨?_, ?_, ?_⟩); (focus rfl); focus exact xaC) | ((with_reducible refine xwB ?_ ?_); focus exact xaC) | ((with_reducible refine xwC ?_ ?_); focus exact xaC) | ((with_reducible refine xwD ?_ ?_); focus exact xaC) | ((with_reducible refine xwE ?_ ?_); focus exact xaC) | (with_reducible intro hc; (try simp only [capsP, and_true] at hc); (try exact xfC)) | ((fail_if_success (with_reducible first | refine xgon ?_ | intro _)); (conv => whnf); (fail_if_success (fail_if_success (with_reducible first | refine xstp ?_ | refine Both.mk ?_ ?_ | refine xgon ?_ | intro _)))))
  · skip
    have hE : seeE R id t p = 4 := if_pos (fun h => hb h.2.2)
    have hM : seeR R id t p = R := if_pos (by rw [hE]; decide)
    rw [hE, hM]
    refine FinK.mk ⟨[0, 1, 1], _, _, ⟨c, rfl, rfl⟩, ?_⟩
    (repeat' first | refine And.intro ?_ ?_ | exact xeC | fail)
  have hok : (1 ≤ id ∧ id ≤ 8) ∧ okT t ∧ okP p := ⟨by omega, by assumption, by assumption⟩
  refine xcal (σ := [.whole 0, .whole 1]) (nl := []) (cplace hu ke R c id hR) ?_
  rintro v h' ⟨rfl, rfl⟩ hcaps
  rcases (by cases fndP R id <;> simp : (∃ i, fndP R id = some i) ∨ fndP R id = none) with ⟨i, hf⟩ | hf
  · have hil := (fndP_lt hf).1
    rw [plc_some hf]
    refine rH50eA0 ?_
    repeat' (first | (fail_if_success (with_reducible refine xstp ?_)); first | ((with_reducible refine And.intro (fun (hb : _ = true) => ?_) (fun (hb : _ = false) => ?_)) <;> replace hb := xnC hb <;> (try first | exact xfC | exact bff hb (by assumption) | exact bff (by assumption) hb)) | (with_reducible refine Both.mk ?_ ?_) | ((with_reducible refine And.intro ?_ ?_); focus exact xoC) | ((with_reducible refine Or.inl ⟨?_, ?_, ?_⟩); (focus rfl); focus exact xaC) | ((with_reducible refine xwB ?_ ?_); focus exact xaC) | ((with_reducible refine xwC ?_ ?_); focus exact xaC) | ((with_reducible refine xwD ?_ ?_); focus exact xaC) | ((with_reducible refine xwE ?_ ?_); focus exact xaC) | (with_reducible intro hc; (try simp only [capsP, and_true] at hc); (try exact xfC)) | ((fail_if_success (with_reducible first | refine xgon ?_ | intro _)); (conv => whnf); (fail_if_success (fail_if_success (with_reducible first | refine xstp ?_ | refine Both.mk ?_ ?_ | refine xgon ?_ | intro _)))))
    · have hE : seeE R id t p = 17 := by rw [see_in hok, hf]; exact if_pos (by simpa using hb)
      have hM : seeR R id t p = R := if_pos (by rw [hE]; decide)
      rw [hE, hM]
      refine FinK.mk ⟨[0, 1, 1], _, _, ⟨c, rfl, rfl⟩, ?_⟩
      (repeat' first | refine And.intro ?_ ?_ | exact xeC | fail)
    · have hE : seeE R id t p = 0 := by rw [see_in hok, hf]; exact if_neg (by omega)
      have hM : seeR R id t p = accR R id t p 8 := if_neg (by rw [hE]; decide)
      rw [hE, hM]
      refine LoopK.mk' {q : Nat × Nat // q.1 ≤ 8}
        (fun ⟨(k, c2), _⟩ => ⟨[(0, .c (.p 0 0 0)), (1, .c (.i .i64 id)), (2, .c (.i .i64 t)), (7, .c (.p 2 0 0)), (10, .c (.sl 3 0 4 0 (accR R id t p k).length c2)), (11, .c (.i .i64 ((k : Nat) + 1 : Int)))],
          [.one (refC hu ke R.length c), .one (refR R c), .one (.cells true (encPt p)), .one (refR (accR R id t p k) c2)]⟩) (fun q => 8 - q.1.1)
        ⟨⟨(0, 0), Nat.zero_le _⟩, [0, 1, 2, 99], ?_⟩ ?_
      · (repeat' first | refine And.intro ?_ ?_ | exact xeC | fail)
        all_goals (intro i hi; exact absurd hi (Nat.not_lt_zero i))
      rintro ⟨⟨k, c2⟩, hk⟩
      simp only at hk
      have hal := accR_le R id t p k
      have hac := accR_succ R id t p k
      repeat' (first | (fail_if_success (with_reducible refine xstp ?_)); first | ((with_reducible refine And.intro (fun (hb : _ = true) => ?_) (fun (hb : _ = false) => ?_)) <;> replace hb := xnC hb <;> (try first | exact xfC | exact bff hb (by assumption) | exact bff (by assumption) hb)) | (with_reducible refine Both.mk ?_ ?_) | ((with_reducible refine And.intro ?_ ?_); focus exact xoC) | ((with_reducible refine Or.inl ⟨?_, ?_, ?_⟩); (focus rfl); focus exact xaC) | ((with_reducible refine xwB ?_ ?_); focus exact xaC) | ((with_reducible refine xwC ?_ ?_); focus exact xaC) | ((with_reducible refine xwD ?_ ?_); focus exact xaC) | ((with_reducible refine xwE ?_ ?_); focus exact xaC) | (with_reducible intro hc; (try simp only [capsP, and_true] at hc); (try exact xfC)) | ((fail_if_success (with_reducible first | refine xgon ?_ | intro _)); (conv => whnf); (fail_if_success (fail_if_success (with_reducible first | refine xstp ?_ | refine Both.mk ?_ ?_ | refine xgon ?_ | intro _)))))
      · rename_i c3
        rw [show slotR R id t p ((k : Nat) + 1 : Int) = [⟨0, id, t, p⟩] from if_pos hb] at hac
        refine ⟨⟨(k + 1, c3), by simp only; omega⟩, [0, 1, 2, 5], by simp only; omega, ?_⟩
        (repeat' first | refine And.intro ?_ ?_ | exact xeC | fail)
        all_goals try rw [hac]
        all_goals first | omega | (simp only [List.length_append, List.length_singleton]; done) | (rw [List.length_append, List.length_singleton]; omega) | (intro i hi; (first | refine app_rowG _ _ _ _ ?_ i hi | refine app_row _ _ _ ?_ i hi); first | rfl | (simp only [Int.toNat_natCast, Nat.zero_add]; rfl))
      · have hneq := hb
        refine xcal (σ := [.whole 0, .whole 1]) (nl := []) (cplace hu ke R c ((k : Nat) + 1 : Int) hR) ?_
        rintro v h' ⟨rfl, rfl⟩ hcaps
        rcases (by cases fndP R ((k : Nat) + 1 : Int) <;> simp : (∃ i, fndP R ((k : Nat) + 1 : Int) = some i) ∨ fndP R ((k : Nat) + 1 : Int) = none) with ⟨j, hfj⟩ | hfj
        · have hjl := (fndP_lt hfj).1
          rw [plc_some hfj]
          rw [show slotR R id t p ((k : Nat) + 1 : Int) = [R.getD j default] by unfold slotR; rw [if_neg hneq, hfj]] at hac
          refine rH50eA0 ?_
          repeat' (first | (fail_if_success (with_reducible refine xstp ?_)); first | ((with_reducible refine And.intro (fun (hb : _ = true) => ?_) (fun (hb : _ = false) => ?_)) <;> replace hb := xnC hb <;> (try first | exact xfC | exact bff hb (by assumption) | exact bff (by assumption) hb)) | (with_reducible refine Both.mk ?_ ?_) | ((with_reducible refine And.intro ?_ ?_); focus exact xoC) | ((with_reducible refine Or.inl ⟨?_, ?_, ?_⟩); (focus rfl); focus exact xaC) | ((with_reducible refine xwB ?_ ?_); focus exact xaC) | ((with_reducible refine xwC ?_ ?_); focus exact xaC) | ((with_reducible refine xwD ?_ ?_); focus exact xaC) | ((with_reducible refine xwE ?_ ?_); focus exact xaC) | (with_reducible intro hc; (try simp only [capsP, and_true] at hc); (try exact xfC)) | ((fail_if_success (with_reducible first | refine xgon ?_ | intro _)); (conv => whnf); (fail_if_success (fail_if_success (with_reducible first | refine xstp ?_ | refine Both.mk ?_ ?_ | refine xgon ?_ | intro _)))))
          rename_i c3
          refine ⟨⟨(k + 1, c3), by simp only; omega⟩, [0, 1, 2, 5], by simp only; omega, ?_⟩
          (repeat' first | refine And.intro ?_ ?_ | exact xeC | fail)
          all_goals try rw [hac]
          all_goals first | omega | (simp only [List.length_append, List.length_singleton]; done) | (rw [List.length_append, List.length_singleton]; omega) | (intro i hi; (first | refine app_rowG _ _ _ _ ?_ i hi | refine app_row _ _ _ ?_ i hi); first | rfl | (simp only [Int.toNat_natCast, Nat.zero_add]; rfl))
        · rw [plc_none hfj]
          rw [show slotR R id t p ((k : Nat) + 1 : Int) = [] by unfold slotR; rw [if_neg hneq, hfj], List.append_nil] at hac
          refine rH50eA0 ?_
          repeat' (first | (fail_if_success (with_reducible refine xstp ?_)); first | ((with_reducible refine And.intro (fun (hb : _ = true) => ?_) (fun (hb : _ = false) => ?_)) <;> replace hb := xnC hb <;> (try first | exact xfC | exact bff hb (by assumption) | exact bff (by assumption) hb)) | (with_reducible refine Both.mk ?_ ?_) | ((with_reducible refine And.intro ?_ ?_); focus exact xoC) | ((with_reducible refine Or.inl ⟨?_, ?_, ?_⟩); (focus rfl); focus exact xaC) | ((with_reducible refine xwB ?_ ?_); focus exact xaC) | ((with_reducible refine xwC ?_ ?_); focus exact xaC) | ((with_reducible refine xwD ?_ ?_); focus exact xaC) | ((with_reducible refine xwE ?_ ?_); focus exact xaC) | (with_reducible intro hc; (try simp only [capsP, and_true] at hc); (try exact xfC)) | ((fail_if_success (with_reducible first | refine xgon ?_ | intro _)); (conv => whnf); (fail_if_success (fail_if_success (with_reducible first | refine xstp ?_ | refine Both.mk ?_ ?_ | refine xgon ?_ | intro _)))))
          refine ⟨⟨(k + 1, c2), by simp only; omega⟩, [0, 1, 2, 3], by simp only; omega, ?_⟩
          (repeat' first | refine And.intro ?_ ?_ | exact xeC | fail)
          all_goals first
            | (rw [hac]; done)
            | exact Nat.le_of_eq (congrArg List.length hac)
            | (intro q hq; rw [hac])
            | omega
      · obtain rfl : k = 8 := by omega
        refine FinK.mk ⟨[0, 1, 3], _, _, ⟨c2, rfl, rfl⟩, ?_⟩
        (repeat' first | refine And.intro ?_ ?_ | exact xeC | fail)
  · rw [plc_none hf]
    refine rH50eA0 ?_
    repeat' (first | (fail_if_success (with_reducible refine xstp ?_)); first | ((with_reducible refine And.intro (fun (hb : _ = true) => ?_) (fun (hb : _ = false) => ?_)) <;> replace hb := xnC hb <;> (try first | exact xfC | exact bff hb (by assumption) | exact bff (by assumption) hb)) | (with_reducible refine Both.mk ?_ ?_) | ((with_reducible refine And.intro ?_ ?_); focus exact xoC) | ((with_reducible refine Or.inl ⟨?_, ?_, ?_⟩); (focus rfl); focus exact xaC) | ((with_reducible refine xwB ?_ ?_); focus exact xaC) | ((with_reducible refine xwC ?_ ?_); focus exact xaC) | ((with_reducible refine xwD ?_ ?_); focus exact xaC) | ((with_reducible refine xwE ?_ ?_); focus exact xaC) | (with_reducible intro hc; (try simp only [capsP, and_true] at hc); (try exact xfC)) | ((fail_if_success (with_reducible first | refine xgon ?_ | intro _)); (conv => whnf); (fail_if_success (fail_if_success (with_reducible first | refine xstp ?_ | refine Both.mk ?_ ?_ | refine xgon ?_ | intro _)))))
    have hE : seeE R id t p = 0 := by rw [see_in hok, hf]
    have hM : seeR R id t p = accR R id t p 8 := if_neg (by rw [hE]; decide)
    rw [hE, hM]
    refine LoopK.mk' {q : Nat × Nat // q.1 ≤ 8}
      (fun ⟨(k, c2), _⟩ => ⟨[(0, .c (.p 0 0 0)), (1, .c (.i .i64 id)), (2, .c (.i .i64 t)), (7, .c (.p 2 0 0)), (10, .c (.sl 3 0 4 0 (accR R id t p k).length c2)), (11, .c (.i .i64 ((k : Nat) + 1 : Int)))],
        [.one (refC hu ke R.length c), .one (refR R c), .one (.cells true (encPt p)), .one (refR (accR R id t p k) c2)]⟩) (fun q => 8 - q.1.1)
      ⟨⟨(0, 0), Nat.zero_le _⟩, [0, 1, 2, 99], ?_⟩ ?_
    · (repeat' first | refine And.intro ?_ ?_ | exact xeC | fail)
      all_goals (intro i hi; exact absurd hi (Nat.not_lt_zero i))
    rintro ⟨⟨k, c2⟩, hk⟩
    simp only at hk
    have hal := accR_le R id t p k
    have hac := accR_succ R id t p k
    repeat' (first | (fail_if_success (with_reducible refine xstp ?_)); first | ((with_reducible refine And.intro (fun (hb : _ = true) => ?_) (fun (hb : _ = false) => ?_)) <;> replace hb := xnC hb <;> (try first | exact xfC | exact bff hb (by assumption) | exact bff (by assumption) hb)) | (with_reducible refine Both.mk ?_ ?_) | ((with_reducible refine And.intro ?_ ?_); focus exact xoC) | ((with_reducible refine Or.inl ⟨?_, ?_, ?_⟩); (focus rfl); focus exact xaC) | ((with_reducible refine xwB ?_ ?_); focus exact xaC) | ((with_reducible refine xwC ?_ ?_); focus exact xaC) | ((with_reducible refine xwD ?_ ?_); focus exact xaC) | ((with_reducible refine xwE ?_ ?_); focus exact xaC) | (with_reducible intro hc; (try simp only [capsP, and_true] at hc); (try exact xfC)) | ((fail_if_success (with_reducible first | refine xgon ?_ | intro _)); (conv => whnf); (fail_if_success (fail_if_success (with_reducible first | refine xstp ?_ | refine Both.mk ?_ ?_ | refine xgon ?_ | intro _)))))
    · rename_i c3
      rw [show slotR R id t p ((k : Nat) + 1 : Int) = [⟨0, id, t, p⟩] from if_pos hb] at hac
      refine ⟨⟨(k + 1, c3), by simp only; omega⟩, [0, 1, 2, 5], by simp only; omega, ?_⟩
      (repeat' first | refine And.intro ?_ ?_ | exact xeC | fail)
      all_goals try rw [hac]
      all_goals first | omega | (simp only [List.length_append, List.length_singleton]; done) | (rw [List.length_append, List.length_singleton]; omega) | (intro i hi; (first | refine app_rowG _ _ _ _ ?_ i hi | refine app_row _ _ _ ?_ i hi); first | rfl | (simp only [Int.toNat_natCast, Nat.zero_add]; rfl))
    · have hneq := hb
      refine xcal (σ := [.whole 0, .whole 1]) (nl := []) (cplace hu ke R c ((k : Nat) + 1 : Int) hR) ?_
      rintro v h' ⟨rfl, rfl⟩ hcaps
      rcases (by cases fndP R ((k : Nat) + 1 : Int) <;> simp : (∃ i, fndP R ((k : Nat) + 1 : Int) = some i) ∨ fndP R ((k : Nat) + 1 : Int) = none) with ⟨j, hfj⟩ | hfj
      · have hjl := (fndP_lt hfj).1
        rw [plc_some hfj]
        rw [show slotR R id t p ((k : Nat) + 1 : Int) = [R.getD j default] by unfold slotR; rw [if_neg hneq, hfj]] at hac
        refine rH50eA0 ?_
        repeat' (first | (fail_if_success (with_reducible refine xstp ?_)); first | ((with_reducible refine And.intro (fun (hb : _ = true) => ?_) (fun (hb : _ = false) => ?_)) <;> replace hb := xnC hb <;> (try first | exact xfC | exact bff hb (by assumption) | exact bff (by assumption) hb)) | (with_reducible refine Both.mk ?_ ?_) | ((with_reducible refine And.intro ?_ ?_); focus exact xoC) | ((with_reducible refine Or.inl ⟨?_, ?_, ?_⟩); (focus rfl); focus exact xaC) | ((with_reducible refine xwB ?_ ?_); focus exact xaC) | ((with_reducible refine xwC ?_ ?_); focus exact xaC) | ((with_reducible refine xwD ?_ ?_); focus exact xaC) | ((with_reducible refine xwE ?_ ?_); focus exact xaC) | (with_reducible intro hc; (try simp only [capsP, and_true] at hc); (try exact xfC)) | ((fail_if_success (with_reducible first | refine xgon ?_ | intro _)); (conv => whnf); (fail_if_success (fail_if_success (with_reducible first | refine xstp ?_ | refine Both.mk ?_ ?_ | refine xgon ?_ | intro _)))))
        rename_i c3
        refine ⟨⟨(k + 1, c3), by simp only; omega⟩, [0, 1, 2, 5], by simp only; omega, ?_⟩
        (repeat' first | refine And.intro ?_ ?_ | exact xeC | fail)
        all_goals try rw [hac]
        all_goals first | omega | (simp only [List.length_append, List.length_singleton]; done) | (rw [List.length_append, List.length_singleton]; omega) | (intro i hi; (first | refine app_rowG _ _ _ _ ?_ i hi | refine app_row _ _ _ ?_ i hi); first | rfl | (simp only [Int.toNat_natCast, Nat.zero_add]; rfl))
      · rw [plc_none hfj]
        rw [show slotR R id t p ((k : Nat) + 1 : Int) = [] by unfold slotR; rw [if_neg hneq, hfj], List.append_nil] at hac
        refine rH50eA0 ?_
        repeat' (first | (fail_if_success (with_reducible refine xstp ?_)); first | ((with_reducible refine And.intro (fun (hb : _ = true) => ?_) (fun (hb : _ = false) => ?_)) <;> replace hb := xnC hb <;> (try first | exact xfC | exact bff hb (by assumption) | exact bff (by assumption) hb)) | (with_reducible refine Both.mk ?_ ?_) | ((with_reducible refine And.intro ?_ ?_); focus exact xoC) | ((with_reducible refine Or.inl ⟨?_, ?_, ?_⟩); (focus rfl); focus exact xaC) | ((with_reducible refine xwB ?_ ?_); focus exact xaC) | ((with_reducible refine xwC ?_ ?_); focus exact xaC) | ((with_reducible refine xwD ?_ ?_); focus exact xaC) | ((with_reducible refine xwE ?_ ?_); focus exact xaC) | (with_reducible intro hc; (try simp only [capsP, and_true] at hc); (try exact xfC)) | ((fail_if_success (with_reducible first | refine xgon ?_ | intro _)); (conv => whnf); (fail_if_success (fail_if_success (with_reducible first | refine xstp ?_ | refine Both.mk ?_ ?_ | refine xgon ?_ | intro _)))))
        refine ⟨⟨(k + 1, c2), by simp only; omega⟩, [0, 1, 2, 3], by simp only; omega, ?_⟩
        (repeat' first | refine And.intro ?_ ?_ | exact xeC | fail)
        all_goals first
          | (rw [hac]; done)
          | exact Nat.le_of_eq (congrArg List.length hac)
          | (intro q hq; rw [hac])
          | omega
    · obtain rfl : k = 8 := by omega
      refine FinK.mk ⟨[0, 1, 3], _, _, ⟨c2, rfl, rfl⟩, ?_⟩
      (repeat' first | refine And.intro ?_ ?_ | exact xeC | fail)
end Go.Proofs.Ytjaccepmnjkbbaa

namespace Go.Proofs.Ytjaccepmnjkbbaa
open Go.X
set_option linter.unusedSimpArgs false
set_option linter.unusedVariables false
def accL (R : List Pn) (k i : Nat) : List Pn := if i ≤ k then R.take i else R.take k ++ (R.drop (k + 1)).take (i - (k + 1))
theorem accL_skip (R : List Pn) (k : Nat) : accL R k (k + 1) = accL R k k := by
  unfold accL
  rw [if_neg (by omega), if_pos (Nat.le_refl _)]
  simp
theorem accL_snoc {R : List Pn} {k i : Nat} (hi : i < R.length) (h : i ≠ k) : accL R k (i + 1) = accL R k i ++ [R.getD i default] := by
  unfold accL
  by_cases h1 : i < k
  · rw [if_pos (by omega), if_pos (by omega)]
    exact take_snocG R hi
  · rw [if_neg (by omega), if_neg (by omega), List.append_assoc]
    congr 1
    rw [show i + 1 - (k + 1) = (i - (k + 1)) + 1 by omega, take_snocG _ (by rw [List.length_drop]; omega)]
    congr 2
    simp only [List.getD, List.getElem?_drop]
    rw [show k + 1 + (i - (k + 1)) = i by omega]
theorem accL_end (R : List Pn) {k : Nat} (hk : k < R.length) : accL R k R.length = R.take k ++ R.drop (k + 1) := by
  unfold accL
  rw [if_neg (by omega), List.take_of_length_le (l := R.drop (k + 1)) (by rw [List.length_drop]; omega)]
theorem accL_le (R : List Pn) (k i : Nat) (hi : i ≤ R.length) : (accL R k i).length ≤ i := by
  unfold accL
  split
  · rw [List.length_take]; omega
  · simp only [List.length_append, List.length_take, List.length_drop]; omega
set_option maxRecDepth 20000 in
set_option maxHeartbeats 1000000 in
theorem cLeaveR (hu ke : Int) (R : List Pn) (c : Nat) (id t : Int) (hR : R.length ≤ 8) :
    Ctr Try.prog 19 [.c (.p 0 0 0), .c (.i .i64 id), .c (.i .i64 t)] (refB hu ke R c)
      fun v h => ∃ c', v = .c (.i .i64 (leaE R id t : Nat)) ∧ h = [.one (refF hu ke 2 (leaM R id t).length c'), .one .no, .one (refR (leaM R id t) c')] := by
  refine Ctr.mk' tbv mixed Try.func19 rfl rfl rfl (fun _ _ => by kernel_rfl) (by kernel_rfl) (by rfl) (by rfl) (by (repeat' first | refine And.intro ?_ ?_ | exact xeC | fail)) ?_
  repeat' (first | (fail_if_success (with_reducible refine xstp ?_)); first | ((with_reducible refine And.intro (fun (hb : _ = true) => ?_) (fun (hb : _ = false) => ?_)) <;> replace hb := xnC hb <;> (try first | exact xfC | exact bff hb (by assumption) | exact bff (by assumption) hb)) | (with_reducible refine Both.mk ?_ ?_) | ((with_reducible refine And.intro ?_ ?_); focus exact xoC) | ((with_reducible refine Or.inl ⟨?_, ?_, ?_⟩); (focus rfl); focus exact xaC) | ((with_reducible refine xwB ?_ ?_); focus exact xaC) | ((with_reducible refine xwC ?_ ?_); focus exact xaC) | ((with_reducible refine xwD ?_ ?_); focus exact xaC) | ((with_reducible refine xwE ?_ ?_); focus exact xaC) | (with_reducible intro hc; (try simp only [capsP, and_true] at hc); (try exact xfC)) | ((fail_if_success (with_reducible first | refine xgon ?_ | intro _)); (conv => whnf); (fail_if_success (fail_if_success (with_reducible first | refine xstp ?_ | refine Both.mk ?_ ?_ | refine xgon ?_ | intro _)))))
  refine xcal (σ := [.whole 0, .whole 1]) (nl := []) (cplace hu ke R c id hR) ?_
  rintro v h' ⟨rfl, rfl⟩ hcaps
  rcases (by cases fndP R id <;> simp : (∃ i, fndP R id = some i) ∨ fndP R id = none) with ⟨k, hf⟩ | hf
  · have hkl := (fndP_lt hf).1
    rw [plc_some hf]
    refine xret ?_
    repeat' (first | (fail_if_success (with_reducible refine xstp ?_)); first | ((with_reducible refine And.intro (fun (hb : _ = true) => ?_) (fun (hb : _ = false) => ?_)) <;> replace hb := xnC hb <;> (try first | exact xfC | exact bff hb (by assumption) | exact bff (by assumption) hb)) | (with_reducible refine Both.mk ?_ ?_) | ((with_reducible refine And.intro ?_ ?_); focus exact xoC) | ((with_reducible refine Or.inl ⟨?_, ?_, ?_⟩); (focus rfl); focus exact xaC) | ((with_reducible refine xwB ?_ ?_); focus exact xaC) | ((with_reducible refine xwC ?_ ?_); focus exact xaC) | ((with_reducible refine xwD ?_ ?_); focus exact xaC) | ((with_reducible refine xwE ?_ ?_); focus exact xaC) | (with_reducible intro hc; (try simp only [capsP, and_true] at hc); (try exact xfC)) | ((fail_if_success (with_reducible first | refine xgon ?_ | intro _)); (conv => whnf); (fail_if_success (fail_if_success (with_reducible first | refine xstp ?_ | refine Both.mk ?_ ?_ | refine xgon ?_ | intro _)))))
    refine xcal (σ := []) (nl := []) (cTimeR t) ?_
    rintro v h' ⟨rfl, rfl⟩ hcaps
    refine xret ?_
    repeat' (first | (fail_if_success (with_reducible refine xstp ?_)); first | ((with_reducible refine And.intro (fun (hb : _ = true) => ?_) (fun (hb : _ = false) => ?_)) <;> replace hb := xnC hb <;> (try first | exact xfC | exact bff hb (by assumption) | exact bff (by assumption) hb)) | (with_reducible refine Both.mk ?_ ?_) | ((with_reducible refine And.intro ?_ ?_); focus exact xoC) | ((with_reducible refine Or.inl ⟨?_, ?_, ?_⟩); (focus rfl); focus exact xaC) | ((with_reducible refine xwB ?_ ?_); focus exact xaC) | ((with_reducible refine xwC ?_ ?_); focus exact xaC) | ((with_reducible refine xwD ?_ ?_); focus exact xaC) | ((with_reducible refine xwE ?_ ?_); focus exact xaC) | (with_reducible intro hc; (try simp only [capsP, and_true] at hc); (try exact xfC)) | ((fail_if_success (with_reducible first | refine xgon ?_ | intro _)); (conv => whnf); (fail_if_success (fail_if_success (with_reducible first | refine xstp ?_ | refine Both.mk ?_ ?_ | refine xgon ?_ | intro _)))))
    · have hE : leaE R id t = 17 := by unfold leaE; rw [hf]; exact if_pos (Or.inl hb)
      have hM : leaM R id t = R := if_pos (by rw [hE]; decide)
      rw [hE, hM]
      refine FinK.mk ⟨[0, 1, 1], _, _, ⟨c, rfl, rfl⟩, ?_⟩
      (repeat' first | refine And.intro ?_ ?_ | exact xeC | fail)
    · have hE : leaE R id t = 17 := by unfold leaE; rw [hf]; exact if_pos (Or.inr (by simpa using hb))
      have hM : leaM R id t = R := if_pos (by rw [hE]; decide)
      rw [hE, hM]
      refine FinK.mk ⟨[0, 1, 1], _, _, ⟨c, rfl, rfl⟩, ?_⟩
      (repeat' first | refine And.intro ?_ ?_ | exact xeC | fail)
    · have hot : okT t := by assumption
      have hE : leaE R id t = 0 := by unfold leaE; rw [hf]; exact if_neg (by intro h; rcases h with h | h; exact h hot; omega)
      have hM : leaM R id t = R.take k ++ R.drop (k + 1) := by unfold leaM; rw [if_neg (by rw [hE]; decide), hf]
      rw [hE, hM, ← accL_end R hkl]
      refine LoopK.mk' {q : Nat × Nat // q.1 ≤ R.length}
        (fun ⟨(i, c2), _⟩ => ⟨[(0, .c (.p 0 0 0)), (7, .c (.i .i64 (k : Nat))), (8, .c (.sl 2 0 4 0 (accL R k i).length c2)), (9, .c (.i .i64 (i : Nat)))],
          [.one (refC hu ke R.length c), .one (refR R c), .one (refR (accL R k i) c2)]⟩) (fun q => R.length - q.1.1)
        ⟨⟨(0, 0), Nat.zero_le _⟩, [0, 1, 99], ?_⟩ ?_
      · (repeat' first | refine And.intro ?_ ?_ | exact xeC | fail)
        all_goals first | rfl | (intro i hi; exact absurd hi (Nat.not_lt_zero i)) | simp [accL]
      rintro ⟨⟨i, c2⟩, hi⟩
      simp only at hi
      have hal := accL_le R k i hi
      repeat' (first | (fail_if_success (with_reducible refine xstp ?_)); first | ((with_reducible refine And.intro (fun (hb : _ = true) => ?_) (fun (hb : _ = false) => ?_)) <;> replace hb := xnC hb <;> (try first | exact xfC | exact bff hb (by assumption) | exact bff (by assumption) hb)) | (with_reducible refine Both.mk ?_ ?_) | ((with_reducible refine And.intro ?_ ?_); focus exact xoC) | ((with_reducible refine Or.inl ⟨?_, ?_, ?_⟩); (focus rfl); focus exact xaC) | ((with_reducible refine xwB ?_ ?_); focus exact xaC) | ((with_reducible refine xwC ?_ ?_); focus exact xaC) | ((with_reducible refine xwD ?_ ?_); focus exact xaC) | ((with_reducible refine xwE ?_ ?_); focus exact xaC) | (with_reducible intro hc; (try simp only [capsP, and_true] at hc); (try exact xfC)) | ((fail_if_success (with_reducible first | refine xgon ?_ | intro _)); (conv => whnf); (fail_if_success (fail_if_success (with_reducible first | refine xstp ?_ | refine Both.mk ?_ ?_ | refine xgon ?_ | intro _)))))
      · have hac := accL_snoc (R := R) (k := k) (i := i) (by omega) (by omega)
        rename_i c3
        refine ⟨⟨(i + 1, c3), by simp only; omega⟩, [0, 1, 4], by simp only; omega, ?_⟩
        (repeat' first | refine And.intro ?_ ?_ | exact xeC | fail)
        all_goals try rw [hac]
        all_goals first | omega | (simp only [List.length_append, List.length_singleton]; done) | (rw [List.length_append, List.length_singleton]; omega) | (intro i hi; (first | refine app_rowG _ _ _ _ ?_ i hi | refine app_row _ _ _ ?_ i hi); first | rfl | (simp only [Int.toNat_natCast, Nat.zero_add]; rfl))
      · have hki : i = k := by omega
        have hac := accL_skip R k
        rw [← hki] at hac
        refine ⟨⟨(i + 1, c2), by simp only; omega⟩, [0, 1, 2], by simp only; omega, ?_⟩
        (repeat' first | refine And.intro ?_ ?_ | exact xeC | fail)
        all_goals first
          | (rw [← hki, hac]; done)
          | (rw [← hki]; exact Nat.le_of_eq (congrArg List.length hac))
          | (intro q hq; rw [← hki, hac])
          | omega
      · obtain rfl : i = R.length := by omega
        refine FinK.mk ⟨[0, 1, 2], _, _, ⟨c2, rfl, rfl⟩, ?_⟩
        (repeat' first | refine And.intro ?_ ?_ | exact xeC | fail)
  · rw [plc_none hf]
    refine xret ?_
    repeat' (first | (fail_if_success (with_reducible refine xstp ?_)); first | ((with_reducible refine And.intro (fun (hb : _ = true) => ?_) (fun (hb : _ = false) => ?_)) <;> replace hb := xnC hb <;> (try first | exact xfC | exact bff hb (by assumption) | exact bff (by assumption) hb)) | (with_reducible refine Both.mk ?_ ?_) | ((with_reducible refine And.intro ?_ ?_); focus exact xoC) | ((with_reducible refine Or.inl ⟨?_, ?_, ?_⟩); (focus rfl); focus exact xaC) | ((with_reducible refine xwB ?_ ?_); focus exact xaC) | ((with_reducible refine xwC ?_ ?_); focus exact xaC) | ((with_reducible refine xwD ?_ ?_); focus exact xaC) | ((with_reducible refine xwE ?_ ?_); focus exact xaC) | (with_reducible intro hc; (try simp only [capsP, and_true] at hc); (try exact xfC)) | ((fail_if_success (with_reducible first | refine xgon ?_ | intro _)); (conv => whnf); (fail_if_success (fail_if_success (with_reducible first | refine xstp ?_ | refine Both.mk ?_ ?_ | refine xgon ?_ | intro _)))))
    have hE : leaE R id t = 6 := by unfold leaE; rw [hf]
    have hM : leaM R id t = R := if_pos (by rw [hE]; decide)
    rw [hE, hM]
    refine FinK.mk ⟨[0, 1, 1], _, _, ⟨c, rfl, rfl⟩, ?_⟩
    (repeat' first | refine And.intro ?_ ?_ | exact xeC | fail)
end Go.Proofs.Ytjaccepmnjkbbaa

namespace Go.Proofs.Ytjaccepmnjkbbaa
open Go.X
set_option linter.unusedSimpArgs false
set_option linter.unusedVariables false
theorem rH50eC0 {σ : List Sg} {H h' : List Fam} {v : T} {K : T → List Fam → Prop} {H' : List Fam} {v' : T} {N : Nat} (hk : K v' H') (hN : H.length = N := by (try simp only [↓List.length_cons, ↓List.length_nil, Nat.reduceAdd]) <;> rfl) (h : givesF σ N H σ h' = some H' := by (try simp (maxSteps := 1000000) only [givesF, setF, updF, Fam.zeroth, Fam.rk, Ck.rk, C.rk, E.rk, T.rk, key, List.map_cons, List.map_nil, List.cons_append, List.nil_append, List.length_cons, List.length_nil, Option.map_some, Option.bind_some, Nat.reduceAdd, Nat.zero_add, Nat.add_zero, Nat.add_sub_cancel_left, Int.toNat_natCast, reps, List.all_cons, List.all_nil, C.flat, List.append_eq, Bool.not_true, Bool.and_true, Bool.or_false, Bool.or_self, Bool.not_false, List.append_nil, Bool.and_self, encPt]) <;> rfl) (hv : v.rk σ N = v' := by (try simp only [givesF, setF, updF, Fam.zeroth, Fam.rk, Ck.rk, C.rk, E.rk, T.rk, key, List.map_cons, List.map_nil, List.cons_append, List.nil_append, List.length_cons, List.length_nil, Option.map_some, Option.bind_some, Nat.reduceAdd, Nat.zero_add, Nat.add_zero, Nat.add_sub_cancel_left, Int.toNat_natCast, reps, List.all_cons, List.all_nil, C.flat, List.append_eq, Bool.not_true, Bool.and_true, Bool.or_false, Bool.or_self, Bool.not_false, List.append_nil, Bool.and_self, encPt]) <;> rfl) : RetG σ H h' v K := ret_mk3 hN h hv hk
set_option maxRecDepth 10000 in
theorem cReachRR (hu ke : Int) (R : List Pn) (c : Nat) (id t : Int) (hR : R.length ≤ 8) (hh : 0 ≤ hu ∧ hu ≤ 4096) (hT : ∀ e ∈ R, okT e.t) :
    Ctr Try.prog 22 [.c (.p 0 0 0), .c (.i .i64 id), .c (.i .i64 t)] (refB hu ke R c)
      fun v h => v = .t [.a (encPt (reaV hu R id t).1), .c (.i .i64 (reaV hu R id t).2.1), .c (.b (reaV hu R id t).2.2)] ∧ h = refB hu ke R c := by
  refine Ctr.mk' tbv mixed Try.func22 rfl rfl rfl (fun _ _ => by kernel_rfl) (by kernel_rfl) (by rfl) (by rfl) (by (repeat' first | refine And.intro ?_ ?_ | exact xeC | fail)) ?_
  repeat' (first | (fail_if_success (with_reducible refine xstp ?_)); first | ((with_reducible refine And.intro (fun (hb : _ = true) => ?_) (fun (hb : _ = false) => ?_)) <;> replace hb := xnC hb <;> (try first | exact xfC | exact bff hb (by assumption) | exact bff (by assumption) hb)) | (with_reducible refine Both.mk ?_ ?_) | ((with_reducible refine And.intro ?_ ?_); focus exact xoC) | ((with_reducible refine Or.inl ⟨?_, ?_, ?_⟩); (focus rfl); focus exact xaC) | ((with_reducible refine xwB ?_ ?_); focus exact xaC) | ((with_reducible refine xwC ?_ ?_); focus exact xaC) | ((with_reducible refine xwD ?_ ?_); focus exact xaC) | ((with_reducible refine xwE ?_ ?_); focus exact xaC) | (with_reducible intro hc; (try simp only [capsP, and_true] at hc); (try exact xfC)) | ((fail_if_success (with_reducible first | refine xgon ?_ | intro _)); (conv => whnf); (fail_if_success (fail_if_success (with_reducible first | refine xstp ?_ | refine Both.mk ?_ ?_ | refine xgon ?_ | intro _)))))
  refine xcal (σ := [.whole 0, .whole 1]) (nl := []) (cplace hu ke R c id hR) ?_
  rintro v h' ⟨rfl, rfl⟩ hcaps
  rcases (by cases fndP R id <;> simp : (∃ i, fndP R id = some i) ∨ fndP R id = none) with ⟨k, hf⟩ | hf
  · have hkl := (fndP_lt hf).1
    rw [plc_some hf]
    refine rH50eC0 ?_
    repeat' (first | (fail_if_success (with_reducible refine xstp ?_)); first | ((with_reducible refine And.intro (fun (hb : _ = true) => ?_) (fun (hb : _ = false) => ?_)) <;> replace hb := xnC hb <;> (try first | exact xfC | exact bff hb (by assumption) | exact bff (by assumption) hb)) | (with_reducible refine Both.mk ?_ ?_) | ((with_reducible refine And.intro ?_ ?_); focus exact xoC) | ((with_reducible refine Or.inl ⟨?_, ?_, ?_⟩); (focus rfl); focus exact xaC) | ((with_reducible refine xwB ?_ ?_); focus exact xaC) | ((with_reducible refine xwC ?_ ?_); focus exact xaC) | ((with_reducible refine xwD ?_ ?_); focus exact xaC) | ((with_reducible refine xwE ?_ ?_); focus exact xaC) | (with_reducible intro hc; (try simp only [capsP, and_true] at hc); (try exact xfC)) | ((fail_if_success (with_reducible first | refine xgon ?_ | intro _)); (conv => whnf); (fail_if_success (fail_if_success (with_reducible first | refine xstp ?_ | refine Both.mk ?_ ?_ | refine xgon ?_ | intro _)))))
    refine xcal (σ := []) (nl := []) (cTimeR t) ?_
    rintro v h' ⟨rfl, rfl⟩ hcaps
    refine rH50eC0 ?_
    repeat' (first | (fail_if_success (with_reducible refine xstp ?_)); first | ((with_reducible refine And.intro (fun (hb : _ = true) => ?_) (fun (hb : _ = false) => ?_)) <;> replace hb := xnC hb <;> (try first | exact xfC | exact bff hb (by assumption) | exact bff (by assumption) hb)) | (with_reducible refine Both.mk ?_ ?_) | ((with_reducible refine And.intro ?_ ?_); focus exact xoC) | ((with_reducible refine Or.inl ⟨?_, ?_, ?_⟩); (focus rfl); focus exact xaC) | ((with_reducible refine xwB ?_ ?_); focus exact xaC) | ((with_reducible refine xwC ?_ ?_); focus exact xaC) | ((with_reducible refine xwD ?_ ?_); focus exact xaC) | ((with_reducible refine xwE ?_ ?_); focus exact xaC) | (with_reducible intro hc; (try simp only [capsP, and_true] at hc); (try exact xfC)) | ((fail_if_success (with_reducible first | refine xgon ?_ | intro _)); (conv => whnf); (fail_if_success (fail_if_success (with_reducible first | refine xstp ?_ | refine Both.mk ?_ ?_ | refine xgon ?_ | intro _)))))
    · have hV : reaV hu R id t = (⟨0, 0⟩, 0, false) := by unfold reaV; rw [hf]; exact if_neg hb
      rw [hV]
      refine FinK.mk ⟨[0, 1], _, _, ⟨rfl, rfl⟩, ?_⟩; (repeat' first | refine And.intro ?_ ?_ | exact xeC | fail)
    · have hot := hb
      have hV : reaV hu R id t = ((R.getD k default).p, hu * age (R.getD k default).t t, true) := by unfold reaV; rw [hf]; exact if_pos hb
      have hti := hT (R.getD k default) (by rw [getD_at hkl]; exact List.getElem_mem _)
      have hua := hu_age hh hti hb
      refine xcal (σ := []) (nl := []) (cAgeR (R.getD k default) t hti hb) ?_
      rintro v h' ⟨rfl, rfl⟩ hcaps
      refine rH50eC0 ?_
      repeat' (first | (fail_if_success (with_reducible refine xstp ?_)); first | ((with_reducible refine And.intro (fun (hb : _ = true) => ?_) (fun (hb : _ = false) => ?_)) <;> replace hb := xnC hb <;> (try first | exact xfC | exact bff hb (by assumption) | exact bff (by assumption) hb)) | (with_reducible refine Both.mk ?_ ?_) | ((with_reducible refine And.intro ?_ ?_); focus exact xoC) | ((with_reducible refine Or.inl ⟨?_, ?_, ?_⟩); (focus rfl); focus exact xaC) | ((with_reducible refine xwB ?_ ?_); focus exact xaC) | ((with_reducible refine xwC ?_ ?_); focus exact xaC) | ((with_reducible refine xwD ?_ ?_); focus exact xaC) | ((with_reducible refine xwE ?_ ?_); focus exact xaC) | (with_reducible intro hc; (try simp only [capsP, and_true] at hc); (try exact xfC)) | ((fail_if_success (with_reducible first | refine xgon ?_ | intro _)); (conv => whnf); (fail_if_success (fail_if_success (with_reducible first | refine xstp ?_ | refine Both.mk ?_ ?_ | refine xgon ?_ | intro _)))))
      rw [hV]
      refine FinK.mk ⟨[0, 1], _, _, ⟨rfl, rfl⟩, ?_⟩; (repeat' first | refine And.intro ?_ ?_ | exact xeC | fail)
  · rw [plc_none hf]
    refine rH50eC0 ?_
    repeat' (first | (fail_if_success (with_reducible refine xstp ?_)); first | ((with_reducible refine And.intro (fun (hb : _ = true) => ?_) (fun (hb : _ = false) => ?_)) <;> replace hb := xnC hb <;> (try first | exact xfC | exact bff hb (by assumption) | exact bff (by assumption) hb)) | (with_reducible refine Both.mk ?_ ?_) | ((with_reducible refine And.intro ?_ ?_); focus exact xoC) | ((with_reducible refine Or.inl ⟨?_, ?_, ?_⟩); (focus rfl); focus exact xaC) | ((with_reducible refine xwB ?_ ?_); focus exact xaC) | ((with_reducible refine xwC ?_ ?_); focus exact xaC) | ((with_reducible refine xwD ?_ ?_); focus exact xaC) | ((with_reducible refine xwE ?_ ?_); focus exact xaC) | (with_reducible intro hc; (try simp only [capsP, and_true] at hc); (try exact xfC)) | ((fail_if_success (with_reducible first | refine xgon ?_ | intro _)); (conv => whnf); (fail_if_success (fail_if_success (with_reducible first | refine xstp ?_ | refine Both.mk ?_ ?_ | refine xgon ?_ | intro _)))))
    have hV : reaV hu R id t = (⟨0, 0⟩, 0, false) := by unfold reaV; rw [hf]
    rw [hV]
    refine FinK.mk ⟨[0, 1], _, _, ⟨rfl, rfl⟩, ?_⟩; (repeat' first | refine And.intro ?_ ?_ | exact xeC | fail)
set_option maxRecDepth 10000 in
theorem cListR (hu ke : Int) (R : List Pn) (c : Nat) (hR : R.length ≤ 8) :
    Ctr Try.prog 24 [.c (.p 0 0 0)] (refB hu ke R c)
      fun v h => ∃ c', v = .c (.sl 2 0 1 0 (R.map Pn.id).length c') ∧ h = refB hu ke R c ++ [.one (intR (R.map Pn.id) c')] := by
  refine Ctr.mk' tbv mixed Try.func24 rfl rfl rfl (fun _ _ => by kernel_rfl) (by kernel_rfl) (by rfl) (by rfl) (by (repeat' first | refine And.intro ?_ ?_ | exact xeC | fail)) ?_
  repeat' (first | (fail_if_success (with_reducible refine xstp ?_)); first | ((with_reducible refine And.intro (fun (hb : _ = true) => ?_) (fun (hb : _ = false) => ?_)) <;> replace hb := xnC hb <;> (try first | exact xfC | exact bff hb (by assumption) | exact bff (by assumption) hb)) | (with_reducible refine Both.mk ?_ ?_) | ((with_reducible refine And.intro ?_ ?_); focus exact xoC) | ((with_reducible refine Or.inl ⟨?_, ?_, ?_⟩); (focus rfl); focus exact xaC) | ((with_reducible refine xwB ?_ ?_); focus exact xaC) | ((with_reducible refine xwC ?_ ?_); focus exact xaC) | ((with_reducible refine xwD ?_ ?_); focus exact xaC) | ((with_reducible refine xwE ?_ ?_); focus exact xaC) | (with_reducible intro hc; (try simp only [capsP, and_true] at hc); (try exact xfC)) | ((fail_if_success (with_reducible first | refine xgon ?_ | intro _)); (conv => whnf); (fail_if_success (fail_if_success (with_reducible first | refine xstp ?_ | refine Both.mk ?_ ?_ | refine xgon ?_ | intro _)))))
  refine LoopK.mk' {q : Nat × Nat // q.1 ≤ R.length}
    (fun ⟨(i, c2), _⟩ => ⟨[(0, .c (.p 0 0 0)), (3, .c (.sl 2 0 1 0 ((R.take i).map Pn.id).length c2)), (4, .c (.i .i64 (i : Nat)))],
      [.one (refC hu ke R.length c), .one (refR R c), .one (intR ((R.take i).map Pn.id) c2)]⟩) (fun q => R.length - q.1.1)
    ⟨⟨(0, 0), Nat.zero_le _⟩, [0, 1, 99], ?_⟩ ?_
  · (repeat' first | refine And.intro ?_ ?_ | exact xeC | fail)
    all_goals (intro i hi; exact absurd hi (Nat.not_lt_zero i))
  rintro ⟨⟨i, c2⟩, hi⟩
  simp only at hi
  have hml : ((R.take i).map Pn.id).length = i := by rw [List.length_map, List.length_take]; omega
  repeat' (first | (fail_if_success (with_reducible refine xstp ?_)); first | ((with_reducible refine And.intro (fun (hb : _ = true) => ?_) (fun (hb : _ = false) => ?_)) <;> replace hb := xnC hb <;> (try first | exact xfC | exact bff hb (by assumption) | exact bff (by assumption) hb)) | (with_reducible refine Both.mk ?_ ?_) | ((with_reducible refine And.intro ?_ ?_); focus exact xoC) | ((with_reducible refine Or.inl ⟨?_, ?_, ?_⟩); (focus rfl); focus exact xaC) | ((with_reducible refine xwB ?_ ?_); focus exact xaC) | ((with_reducible refine xwC ?_ ?_); focus exact xaC) | ((with_reducible refine xwD ?_ ?_); focus exact xaC) | ((with_reducible refine xwE ?_ ?_); focus exact xaC) | (with_reducible intro hc; (try simp only [capsP, and_true] at hc); (try exact xfC)) | ((fail_if_success (with_reducible first | refine xgon ?_ | intro _)); (conv => whnf); (fail_if_success (fail_if_success (with_reducible first | refine xstp ?_ | refine Both.mk ?_ ?_ | refine xgon ?_ | intro _)))))
  · rename_i c3
    have hms : (R.take (i + 1)).map Pn.id = (R.take i).map Pn.id ++ [(R.getD i default).id] := by rw [take_snocG R (by omega), List.map_append]; rfl
    refine ⟨⟨(i + 1, c3), by simp only; omega⟩, [0, 1, 4], by simp only; omega, ?_⟩
    (repeat' first | refine And.intro ?_ ?_ | exact xeC | fail)
    all_goals try rw [hms]
    all_goals first | omega | (simp only [List.length_append, List.length_singleton]; done) | (rw [List.length_append, List.length_singleton]; omega) | (intro i hi; (first | refine app_rowG _ _ _ _ ?_ i hi | refine app_row _ _ _ ?_ i hi); first | rfl | (simp only [Int.toNat_natCast, Nat.zero_add]; rfl))
  · rw [List.take_of_length_le (by omega)]
    refine FinK.mk ⟨[0, 1, 2], _, _, ⟨c2, rfl, rfl⟩, ?_⟩
    (repeat' first | refine And.intro ?_ ?_ | exact xeC | fail)
def stepR (hu t : Int) (p : Pt) (b : Int) (e : Pn) : Int := if b < 0 ∨ gapD hu e t p < b then gapD hu e t p else b
def gapLR (hu : Int) (t : Int) (p : Pt) (l : List Pn) : Int := l.foldl (stepR hu t p) (-1)
def gapVR (hu : Int) (R : List Pn) (t : Int) (p : Pt) : Int × Bool := if R.length = 0 then (0, false) else if ¬ (okT t ∧ okP p) then (0, true) else (gapLR hu t p R, true)
theorem gapLR_snoc (hu t : Int) (p : Pt) (l : List Pn) {i : Nat} (h : i < l.length) : gapLR hu t p (l.take (i + 1)) = stepR hu t p (gapLR hu t p (l.take i)) (l.getD i default) := by
  unfold gapLR
  rw [take_snocG l h, List.foldl_append]
  rfl
set_option maxRecDepth 10000 in
theorem cGapR (hu ke : Int) (R : List Pn) (c : Nat) (t : Int) (p : Pt) (hR : R.length ≤ 8) (hh : 0 ≤ hu ∧ hu ≤ 4096) (hT : ∀ e ∈ R, okT e.t) (hP : ∀ e ∈ R, okP e.p) :
    Ctr Try.prog 20 [.c (.p 0 0 0), .c (.i .i64 t), .a (encPt p)] (refB hu ke R c)
      fun v h => v = .t [.c (.i .i64 (gapVR hu R t p).1), .c (.b (gapVR hu R t p).2)] ∧ h = refB hu ke R c := by
  refine Ctr.mk' tbv mixed Try.func20 rfl rfl rfl (fun _ _ => by kernel_rfl) (by kernel_rfl) (by rfl) (by rfl) (by (repeat' first | refine And.intro ?_ ?_ | exact xeC | fail)) ?_
  repeat' (first | (fail_if_success (with_reducible refine xstp ?_)); first | ((with_reducible refine And.intro (fun (hb : _ = true) => ?_) (fun (hb : _ = false) => ?_)) <;> replace hb := xnC hb <;> (try first | exact xfC | exact bff hb (by assumption) | exact bff (by assumption) hb)) | (with_reducible refine Both.mk ?_ ?_) | ((with_reducible refine And.intro ?_ ?_); focus exact xoC) | ((with_reducible refine Or.inl ⟨?_, ?_, ?_⟩); (focus rfl); focus exact xaC) | ((with_reducible refine xwB ?_ ?_); focus exact xaC) | ((with_reducible refine xwC ?_ ?_); focus exact xaC) | ((with_reducible refine xwD ?_ ?_); focus exact xaC) | ((with_reducible refine xwE ?_ ?_); focus exact xaC) | (with_reducible intro hc; (try simp only [capsP, and_true] at hc); (try exact xfC)) | ((fail_if_success (with_reducible first | refine xgon ?_ | intro _)); (conv => whnf); (fail_if_success (fail_if_success (with_reducible first | refine xstp ?_ | refine Both.mk ?_ ?_ | refine xgon ?_ | intro _)))))
  · rw [show gapVR hu R t p = (0, false) from if_pos (by omega)]
    refine FinK.mk ⟨[0, 1], _, _, ⟨rfl, rfl⟩, ?_⟩; (repeat' first | refine And.intro ?_ ?_ | exact xeC | fail)
  refine xcal (σ := []) (nl := []) (cTimeR t) ?_
  rintro v h' ⟨rfl, rfl⟩ hcaps
  refine rH50eC0 ?_
  repeat' (first | (fail_if_success (with_reducible refine xstp ?_)); first | ((with_reducible refine And.intro (fun (hb : _ = true) => ?_) (fun (hb : _ = false) => ?_)) <;> replace hb := xnC hb <;> (try first | exact xfC | exact bff hb (by assumption) | exact bff (by assumption) hb)) | (with_reducible refine Both.mk ?_ ?_) | ((with_reducible refine And.intro ?_ ?_); focus exact xoC) | ((with_reducible refine Or.inl ⟨?_, ?_, ?_⟩); (focus rfl); focus exact xaC) | ((with_reducible refine xwB ?_ ?_); focus exact xaC) | ((with_reducible refine xwC ?_ ?_); focus exact xaC) | ((with_reducible refine xwD ?_ ?_); focus exact xaC) | ((with_reducible refine xwE ?_ ?_); focus exact xaC) | (with_reducible intro hc; (try simp only [capsP, and_true] at hc); (try exact xfC)) | ((fail_if_success (with_reducible first | refine xgon ?_ | intro _)); (conv => whnf); (fail_if_success (fail_if_success (with_reducible first | refine xstp ?_ | refine Both.mk ?_ ?_ | refine xgon ?_ | intro _)))))
  · rw [show gapVR hu R t p = (0, true) by unfold gapVR; rw [if_neg (by omega), if_pos (fun h => hb h.1)]]
    refine FinK.mk ⟨[0, 1], _, _, ⟨rfl, rfl⟩, ?_⟩; (repeat' first | refine And.intro ?_ ?_ | exact xeC | fail)
  refine xcal (σ := []) (nl := []) (cReachesR p) ?_
  rintro v h' ⟨rfl, rfl⟩ hcaps
  refine rH50eC0 ?_
  repeat' (first | (fail_if_success (with_reducible refine xstp ?_)); first | ((with_reducible refine And.intro (fun (hb : _ = true) => ?_) (fun (hb : _ = false) => ?_)) <;> replace hb := xnC hb <;> (try first | exact xfC | exact bff hb (by assumption) | exact bff (by assumption) hb)) | (with_reducible refine Both.mk ?_ ?_) | ((with_reducible refine And.intro ?_ ?_); focus exact xoC) | ((with_reducible refine Or.inl ⟨?_, ?_, ?_⟩); (focus rfl); focus exact xaC) | ((with_reducible refine xwB ?_ ?_); focus exact xaC) | ((with_reducible refine xwC ?_ ?_); focus exact xaC) | ((with_reducible refine xwD ?_ ?_); focus exact xaC) | ((with_reducible refine xwE ?_ ?_); focus exact xaC) | (with_reducible intro hc; (try simp only [capsP, and_true] at hc); (try exact xfC)) | ((fail_if_success (with_reducible first | refine xgon ?_ | intro _)); (conv => whnf); (fail_if_success (fail_if_success (with_reducible first | refine xstp ?_ | refine Both.mk ?_ ?_ | refine xgon ?_ | intro _)))))
  · rw [show gapVR hu R t p = (0, true) by unfold gapVR; rw [if_neg (by omega), if_pos (fun h => hb h.2)]]
    refine FinK.mk ⟨[0, 1], _, _, ⟨rfl, rfl⟩, ?_⟩; (repeat' first | refine And.intro ?_ ?_ | exact xeC | fail)
  have hot : okT t := by assumption
  have hop : okP p := by assumption
  rw [show gapVR hu R t p = (gapLR hu t p R, true) by unfold gapVR; rw [if_neg (by omega), if_neg (by simp [hot, hop])]]
  refine LoopK.mk' {i : Nat // i ≤ R.length}
    (fun ⟨i, _⟩ => ⟨[(0, .c (.p 0 0 0)), (1, .c (.i .i64 t)), (5, .c (.p 2 0 0)), (8, .c (.i .i64 (gapLR hu t p (R.take i)))), (9, .c (.i .i64 (i : Nat)))],
      [.one (refC hu ke R.length c), .one (refR R c), .one (.cells true (encPt p))]⟩) (fun k => R.length - k.1)
    ⟨⟨0, Nat.zero_le _⟩, [0, 1, 2], ?_⟩ ?_
  · (repeat' first | refine And.intro ?_ ?_ | exact xeC | fail)
  rintro ⟨i, hi⟩
  repeat' (first | (fail_if_success (with_reducible refine xstp ?_)); first | ((with_reducible refine And.intro (fun (hb : _ = true) => ?_) (fun (hb : _ = false) => ?_)) <;> replace hb := xnC hb <;> (try first | exact xfC | exact bff hb (by assumption) | exact bff (by assumption) hb)) | (with_reducible refine Both.mk ?_ ?_) | ((with_reducible refine And.intro ?_ ?_); focus exact xoC) | ((with_reducible refine Or.inl ⟨?_, ?_, ?_⟩); (focus rfl); focus exact xaC) | ((with_reducible refine xwB ?_ ?_); focus exact xaC) | ((with_reducible refine xwC ?_ ?_); focus exact xaC) | ((with_reducible refine xwD ?_ ?_); focus exact xaC) | ((with_reducible refine xwE ?_ ?_); focus exact xaC) | (with_reducible intro hc; (try simp only [capsP, and_true] at hc); (try exact xfC)) | ((fail_if_success (with_reducible first | refine xgon ?_ | intro _)); (conv => whnf); (fail_if_success (fail_if_success (with_reducible first | refine xstp ?_ | refine Both.mk ?_ ?_ | refine xgon ?_ | intro _)))))
  · have hmj : R.getD i default ∈ R := by rw [getD_at (by omega)]; exact List.getElem_mem _
    have hti := hT _ hmj
    obtain ⟨s1, s2, s3⟩ := okP_sub hop (hP _ hmj)
    have hua := hu_age hh hti hot
    have hdl := isq_lt (sqP (p.sub (R.getD i default).p))
    have hst := gapLR_snoc hu t p R (i := i) (by omega)
    have hgd : gapD hu (R.getD i default) t p = max 0 ((dst p (R.getD i default).p : Int) - 1 - hu * age (R.getD i default).t t) := rfl
    have hdd : dst p (R.getD i default).p = isq (sqP (p.sub (R.getD i default).p)) := rfl
    unfold stepR at hst
    refine xcal (σ := []) (nl := []) (cDistanceR p (R.getD i default).p s1 s2 s3) ?_
    rintro v h' ⟨rfl, rfl⟩ hcaps
    refine rH50eC0 ?_
    repeat' (first | (fail_if_success (with_reducible refine xstp ?_)); first | ((with_reducible refine And.intro (fun (hb : _ = true) => ?_) (fun (hb : _ = false) => ?_)) <;> replace hb := xnC hb <;> (try first | exact xfC | exact bff hb (by assumption) | exact bff (by assumption) hb)) | (with_reducible refine Both.mk ?_ ?_) | ((with_reducible refine And.intro ?_ ?_); focus exact xoC) | ((with_reducible refine Or.inl ⟨?_, ?_, ?_⟩); (focus rfl); focus exact xaC) | ((with_reducible refine xwB ?_ ?_); focus exact xaC) | ((with_reducible refine xwC ?_ ?_); focus exact xaC) | ((with_reducible refine xwD ?_ ?_); focus exact xaC) | ((with_reducible refine xwE ?_ ?_); focus exact xaC) | (with_reducible intro hc; (try simp only [capsP, and_true] at hc); (try exact xfC)) | ((fail_if_success (with_reducible first | refine xgon ?_ | intro _)); (conv => whnf); (fail_if_success (fail_if_success (with_reducible first | refine xstp ?_ | refine Both.mk ?_ ?_ | refine xgon ?_ | intro _)))))
    refine xcal (σ := []) (nl := []) (cAgeR (R.getD i default) t hti hot) ?_
    rintro v h' ⟨rfl, rfl⟩ hcaps
    refine rH50eC0 ?_
    repeat' (first | (fail_if_success (with_reducible refine xstp ?_)); first | ((with_reducible refine And.intro (fun (hb : _ = true) => ?_) (fun (hb : _ = false) => ?_)) <;> replace hb := xnC hb <;> (try first | exact xfC | exact bff hb (by assumption) | exact bff (by assumption) hb)) | (with_reducible refine Both.mk ?_ ?_) | ((with_reducible refine And.intro ?_ ?_); focus exact xoC) | ((with_reducible refine Or.inl ⟨?_, ?_, ?_⟩); (focus rfl); focus exact xaC) | ((with_reducible refine xwB ?_ ?_); focus exact xaC) | ((with_reducible refine xwC ?_ ?_); focus exact xaC) | ((with_reducible refine xwD ?_ ?_); focus exact xaC) | ((with_reducible refine xwE ?_ ?_); focus exact xaC) | (with_reducible intro hc; (try simp only [capsP, and_true] at hc); (try exact xfC)) | ((fail_if_success (with_reducible first | refine xgon ?_ | intro _)); (conv => whnf); (fail_if_success (fail_if_success (with_reducible first | refine xstp ?_ | refine Both.mk ?_ ?_ | refine xgon ?_ | intro _)))))
    all_goals (
      rw [hgd] at hst
      refine ⟨⟨i + 1, by omega⟩, [0, 1, 2], by simp only; omega, ?_⟩
      (repeat' first | refine And.intro ?_ ?_ | exact xeC | fail)
      all_goals first
        | (rw [hst, if_pos (by omega)]; done)
        | (rw [hst, if_pos (by omega)]; omega)
        | (rw [hst, if_neg (by omega)]; done)
        | (rw [hst, if_neg (by omega)]; omega))
  · rw [List.take_of_length_le (by omega)]
    refine FinK.mk ⟨[0, 1], _, _, ⟨rfl, rfl⟩, ?_⟩; (repeat' first | refine And.intro ?_ ?_ | exact xeC | fail)
def staR (ke : Int) (R : List Pn) (t : Int) : List Int := (R.filter fun e => decide (¬ okT t ∨ ke < age e.t t)).map Pn.id
set_option maxRecDepth 10000 in
theorem cStaleR (hu ke : Int) (R : List Pn) (c : Nat) (t : Int) (hR : R.length ≤ 8) (hT : ∀ e ∈ R, okT e.t) :
    Ctr Try.prog 25 [.c (.p 0 0 0), .c (.i .i64 t)] (refB hu ke R c)
      fun v h => ∃ c', v = .c (.sl 2 0 1 0 (staR ke R t).length c') ∧ h = refB hu ke R c ++ [.one (intR (staR ke R t) c')] := by
  refine Ctr.mk' tbv mixed Try.func25 rfl rfl rfl (fun _ _ => by kernel_rfl) (by kernel_rfl) (by rfl) (by rfl) (by (repeat' first | refine And.intro ?_ ?_ | exact xeC | fail)) ?_
  repeat' (first | (fail_if_success (with_reducible refine xstp ?_)); first | ((with_reducible refine And.intro (fun (hb : _ = true) => ?_) (fun (hb : _ = false) => ?_)) <;> replace hb := xnC hb <;> (try first | exact xfC | exact bff hb (by assumption) | exact bff (by assumption) hb)) | (with_reducible refine Both.mk ?_ ?_) | ((with_reducible refine And.intro ?_ ?_); focus exact xoC) | ((with_reducible refine Or.inl ⟨?_, ?_, ?_⟩); (focus rfl); focus exact xaC) | ((with_reducible refine xwB ?_ ?_); focus exact xaC) | ((with_reducible refine xwC ?_ ?_); focus exact xaC) | ((with_reducible refine xwD ?_ ?_); focus exact xaC) | ((with_reducible refine xwE ?_ ?_); focus exact xaC) | (with_reducible intro hc; (try simp only [capsP, and_true] at hc); (try exact xfC)) | ((fail_if_success (with_reducible first | refine xgon ?_ | intro _)); (conv => whnf); (fail_if_success (fail_if_success (with_reducible first | refine xstp ?_ | refine Both.mk ?_ ?_ | refine xgon ?_ | intro _)))))
  refine LoopK.mk' {q : Nat × Nat // q.1 ≤ R.length}
    (fun ⟨(i, c2), _⟩ => ⟨[(0, .c (.p 0 0 0)), (1, .c (.i .i64 t)), (5, .c (.sl 2 0 1 0 (((R.take i).filter fun e => decide (¬ okT t ∨ ke < age e.t t)).map Pn.id).length c2)), (6, .c (.i .i64 (i : Nat)))],
      [.one (refC hu ke R.length c), .one (refR R c), .one (intR (((R.take i).filter fun e => decide (¬ okT t ∨ ke < age e.t t)).map Pn.id) c2)]⟩) (fun q => R.length - q.1.1)
    ⟨⟨(0, 0), Nat.zero_le _⟩, [0, 1, 99], ?_⟩ ?_
  · (repeat' first | refine And.intro ?_ ?_ | exact xeC | fail)
    all_goals (intro i hi; exact absurd hi (Nat.not_lt_zero i))
  rintro ⟨⟨i, c2⟩, hi⟩
  simp only at hi
  have hfl : (((R.take i).filter fun e => decide (¬ okT t ∨ ke < age e.t t)).map Pn.id).length ≤ i := by
    have h1 := List.length_filter_le (fun e : Pn => decide (¬ okT t ∨ ke < age e.t t)) (R.take i)
    rw [List.length_take] at h1
    rw [List.length_map]
    omega
  repeat' (first | (fail_if_success (with_reducible refine xstp ?_)); first | ((with_reducible refine And.intro (fun (hb : _ = true) => ?_) (fun (hb : _ = false) => ?_)) <;> replace hb := xnC hb <;> (try first | exact xfC | exact bff hb (by assumption) | exact bff (by assumption) hb)) | (with_reducible refine Both.mk ?_ ?_) | ((with_reducible refine And.intro ?_ ?_); focus exact xoC) | ((with_reducible refine Or.inl ⟨?_, ?_, ?_⟩); (focus rfl); focus exact xaC) | ((with_reducible refine xwB ?_ ?_); focus exact xaC) | ((with_reducible refine xwC ?_ ?_); focus exact xaC) | ((with_reducible refine xwD ?_ ?_); focus exact xaC) | ((with_reducible refine xwE ?_ ?_); focus exact xaC) | (with_reducible intro hc; (try simp only [capsP, and_true] at hc); (try exact xfC)) | ((fail_if_success (with_reducible first | refine xgon ?_ | intro _)); (conv => whnf); (fail_if_success (fail_if_success (with_reducible first | refine xstp ?_ | refine Both.mk ?_ ?_ | refine xgon ?_ | intro _)))))
  · have hfs := filter_snoc (fun e : Pn => decide (¬ okT t ∨ ke < age e.t t)) R (i := i) (by omega)
    have hti := hT (R.getD i default) (by rw [getD_at (by omega)]; exact List.getElem_mem _)
    refine xcal (σ := []) (nl := []) (cTimeR t) ?_
    rintro v h' ⟨rfl, rfl⟩ hcaps
    refine xret ?_
    repeat' (first | (fail_if_success (with_reducible refine xstp ?_)); first | ((with_reducible refine And.intro (fun (hb : _ = true) => ?_) (fun (hb : _ = false) => ?_)) <;> replace hb := xnC hb <;> (try first | exact xfC | exact bff hb (by assumption) | exact bff (by assumption) hb)) | (with_reducible refine Both.mk ?_ ?_) | ((with_reducible refine And.intro ?_ ?_); focus exact xoC) | ((with_reducible refine Or.inl ⟨?_, ?_, ?_⟩); (focus rfl); focus exact xaC) | ((with_reducible refine xwB ?_ ?_); focus exact xaC) | ((with_reducible refine xwC ?_ ?_); focus exact xaC) | ((with_reducible refine xwD ?_ ?_); focus exact xaC) | ((with_reducible refine xwE ?_ ?_); focus exact xaC) | (with_reducible intro hc; (try simp only [capsP, and_true] at hc); (try exact xfC)) | ((fail_if_success (with_reducible first | refine xgon ?_ | intro _)); (conv => whnf); (fail_if_success (fail_if_success (with_reducible first | refine xstp ?_ | refine Both.mk ?_ ?_ | refine xgon ?_ | intro _)))))
    · rw [if_pos (decide_eq_true (Or.inl hb))] at hfs
      rename_i c3
      have hms := congrArg (List.map Pn.id) hfs
      rw [List.map_append, show List.map Pn.id [R.getD i default] = [(R.getD i default).id] from rfl] at hms
      refine ⟨⟨(i + 1, c3), by simp only; omega⟩, [0, 1, 4], by simp only; omega, ?_⟩
      (repeat' first | refine And.intro ?_ ?_ | exact xeC | fail)
      all_goals try rw [hms]
      all_goals first | omega | (simp only [List.length_append, List.length_singleton]; done) | (rw [List.length_append, List.length_singleton]; omega) | (intro i hi; (first | refine app_rowG _ _ _ _ ?_ i hi | refine app_row _ _ _ ?_ i hi); first | rfl | (simp only [Int.toNat_natCast, Nat.zero_add]; rfl))
    · have hot : okT t := by assumption
      refine xcal (σ := []) (nl := []) (cAgeR (R.getD i default) t hti hot) ?_
      rintro v h' ⟨rfl, rfl⟩ hcaps
      refine xret ?_
      repeat' (first | (fail_if_success (with_reducible refine xstp ?_)); first | ((with_reducible refine And.intro (fun (hb : _ = true) => ?_) (fun (hb : _ = false) => ?_)) <;> replace hb := xnC hb <;> (try first | exact xfC | exact bff hb (by assumption) | exact bff (by assumption) hb)) | (with_reducible refine Both.mk ?_ ?_) | ((with_reducible refine And.intro ?_ ?_); focus exact xoC) | ((with_reducible refine Or.inl ⟨?_, ?_, ?_⟩); (focus rfl); focus exact xaC) | ((with_reducible refine xwB ?_ ?_); focus exact xaC) | ((with_reducible refine xwC ?_ ?_); focus exact xaC) | ((with_reducible refine xwD ?_ ?_); focus exact xaC) | ((with_reducible refine xwE ?_ ?_); focus exact xaC) | (with_reducible intro hc; (try simp only [capsP, and_true] at hc); (try exact xfC)) | ((fail_if_success (with_reducible first | refine xgon ?_ | intro _)); (conv => whnf); (fail_if_success (fail_if_success (with_reducible first | refine xstp ?_ | refine Both.mk ?_ ?_ | refine xgon ?_ | intro _)))))
      · rw [if_pos (decide_eq_true (Or.inr hb))] at hfs
        rename_i c3
        have hms := congrArg (List.map Pn.id) hfs
        rw [List.map_append, show List.map Pn.id [R.getD i default] = [(R.getD i default).id] from rfl] at hms
        refine ⟨⟨(i + 1, c3), by simp only; omega⟩, [0, 1, 4], by simp only; omega, ?_⟩
        (repeat' first | refine And.intro ?_ ?_ | exact xeC | fail)
        all_goals try rw [hms]
        all_goals first | omega | (simp only [List.length_append, List.length_singleton]; done) | (rw [List.length_append, List.length_singleton]; omega) | (intro i hi; (first | refine app_rowG _ _ _ _ ?_ i hi | refine app_row _ _ _ ?_ i hi); first | rfl | (simp only [Int.toNat_natCast, Nat.zero_add]; rfl))
      · rw [if_neg (show ¬ (decide (¬ okT t ∨ ke < age (R.getD i default).t t) = true) by
            rw [decide_eq_true_eq]; intro h; rcases h with h | h; exact h hot; omega), List.append_nil] at hfs
        have hms := congrArg (List.map Pn.id) hfs
        refine ⟨⟨(i + 1, c2), by simp only; omega⟩, [0, 1, 2], by simp only; omega, ?_⟩
        (repeat' first | refine And.intro ?_ ?_ | exact xeC | fail)
        all_goals first
          | (rw [hms]; done)
          | exact Nat.le_of_eq (congrArg List.length hms)
          | (intro j hj; rw [hms])
  · rw [List.take_of_length_le (by omega)]
    refine FinK.mk ⟨[0, 1, 2], _, _, ⟨c2, rfl, rfl⟩, ?_⟩
    (repeat' first | refine And.intro ?_ ?_ | exact xeC | fail)
end Go.Proofs.Ytjaccepmnjkbbaa

namespace Go.Proofs.Ytjaccepmnjkbbaa
open Go.X
set_option linter.unusedVariables false
set_option linter.unusedSimpArgs false
def strip (e : Pn) : Pn := ⟨0, e.id, e.t, e.p⟩
def refL (M : List Pn) : List Pn := (lst M).map fun id => strip (ent M id)
theorem mem_at {M : List Pn} {e : Pn} : e ∈ M ↔ ∃ i, i < M.length ∧ M.getD i default = e := by
  constructor
  · intro h
    obtain ⟨i, hi, rfl⟩ := List.mem_iff_getElem.1 h
    exact ⟨i, hi, getD_at hi⟩
  · rintro ⟨i, hi, rfl⟩
    rw [getD_at hi]; exact List.getElem_mem _
theorem sortedP_uniq : ∀ {l m : List Pn}, l.Pairwise (fun a b => a.id < b.id) → m.Pairwise (fun a b => a.id < b.id) → (∀ x, x ∈ l ↔ x ∈ m) → l = m
  | [], [], _, _, _ => rfl
  | [], b :: m, _, _, h => absurd ((h b).2 (List.mem_cons_self ..)) (by simp)
  | a :: l, [], _, _, h => absurd ((h a).1 (List.mem_cons_self ..)) (by simp)
  | a :: l, b :: m, hl, hm, h => by
    have hl' := List.pairwise_cons.1 hl
    have hm' := List.pairwise_cons.1 hm
    have hab : a = b := by
      rcases List.mem_cons.1 ((h a).1 (List.mem_cons_self ..)) with e | e
      · exact e
      · rcases List.mem_cons.1 ((h b).2 (List.mem_cons_self ..)) with e' | e'
        · exact e'.symm
        · have := hl'.1 b e'
          have := hm'.1 a e
          omega
    subst hab
    rw [sortedP_uniq hl'.2 hm'.2 fun x => ?_]
    constructor
    · intro hx
      rcases List.mem_cons.1 ((h x).1 (List.mem_cons_of_mem _ hx)) with e | e
      · have := hl'.1 x hx; rw [e] at this; omega
      · exact e
    · intro hx
      rcases List.mem_cons.1 ((h x).2 (List.mem_cons_of_mem _ hx)) with e | e
      · have := hm'.1 x hx; rw [e] at this; omega
      · exact e
theorem fndP_mem {M : List Pn} {id : Int} {i : Nat} (h : fndP M id = some i) : M.getD i default ∈ M ∧ (M.getD i default).id = id := by
  obtain ⟨h1, h2⟩ := fndP_lt h
  exact ⟨mem_at.2 ⟨i, h1, rfl⟩, h2⟩
theorem POk.inj {ck : Nat} {M : List Pn} (h : POk ck M) {a b : Pn} (ha : a ∈ M) (hb : b ∈ M) (e : a.id = b.id) : a = b := by
  obtain ⟨i, hi, rfl⟩ := mem_at.1 ha
  obtain ⟨j, hj, rfl⟩ := mem_at.1 hb
  rcases (by omega : i < j ∨ j < i ∨ i = j) with h1 | h1 | h1
  · exact absurd e (h.ne i j h1 hj)
  · exact absurd e.symm (h.ne j i h1 hi)
  · rw [h1]
theorem ent_of {ck : Nat} {M : List Pn} (h : POk ck M) {e : Pn} (he : e ∈ M) : ent M e.id = e := by
  obtain ⟨i, hi, rfl⟩ := mem_at.1 he
  exact ent_at (fndP_some h.ne hi rfl)
theorem mem_lstE {ck : Nat} {M : List Pn} (h : POk ck M) (x : Int) : x ∈ lst M ↔ ∃ e ∈ M, e.id = x := by
  rw [mem_lst h]
  constructor
  · rintro ⟨i, hi, e⟩; exact ⟨_, mem_at.2 ⟨i, hi, rfl⟩, e⟩
  · rintro ⟨e, he, rfl⟩
    obtain ⟨i, hi, rfl⟩ := mem_at.1 he
    exact ⟨i, hi, rfl⟩
theorem mem_refL {ck : Nat} {M : List Pn} (h : POk ck M) (x : Pn) : x ∈ refL M ↔ ∃ e ∈ M, x = strip e := by
  unfold refL
  rw [List.mem_map]
  constructor
  · rintro ⟨id, hid, rfl⟩
    obtain ⟨e, he, rfl⟩ := (mem_lstE h id).1 hid
    exact ⟨e, he, by rw [ent_of h he]⟩
  · rintro ⟨e, he, rfl⟩
    exact ⟨e.id, (mem_lstE h _).2 ⟨e, he, rfl⟩, by rw [ent_of h he]⟩
theorem refL_map {ck : Nat} {M : List Pn} (h : POk ck M) : (refL M).map Pn.id = lst M := by
  unfold refL
  rw [List.map_map]
  conv => rhs; rw [← List.map_id (lst M)]
  apply List.map_congr_left
  intro x hx
  obtain ⟨e, he, rfl⟩ := (mem_lstE h x).1 hx
  show (strip (ent M e.id)).id = e.id
  rw [ent_of h he]
  rfl
theorem refL_len (M : List Pn) : (refL M).length ≤ 8 := by
  unfold refL
  rw [List.length_map]
  exact lst_len M
theorem refL_pw {ck : Nat} {M : List Pn} (h : POk ck M) : (refL M).Pairwise (fun a b => a.id < b.id) := by
  have := lst_pw M
  rw [← refL_map h, List.pairwise_map] at this
  exact this
theorem refL_t {ck : Nat} {M : List Pn} (h : POk ck M) : ∀ e ∈ refL M, okT e.t := by
  intro e he
  obtain ⟨x, hx, rfl⟩ := (mem_refL h e).1 he
  exact h.t x hx
theorem refL_p {ck : Nat} {M : List Pn} (h : POk ck M) : ∀ e ∈ refL M, okP e.p := by
  intro e he
  obtain ⟨x, hx, rfl⟩ := (mem_refL h e).1 he
  exact h.p x hx
theorem fnd_ref {ck : Nat} {M : List Pn} (h : POk ck M) (id : Int) : (fndP (refL M) id = none ∧ fndP M id = none) ∨ (∃ k i, fndP (refL M) id = some k ∧ fndP M id = some i ∧ (refL M).getD k default = strip (M.getD i default)) := by
  cases hf : fndP M id with
  | none =>
    left
    refine ⟨fndP_none fun i hi e => ?_, rfl⟩
    have hm := (mem_refL h _).1 (mem_at.2 ⟨i, hi, rfl⟩)
    obtain ⟨x, hx, hxe⟩ := hm
    obtain ⟨j, hj, rfl⟩ := mem_at.1 hx
    rw [hxe] at e
    rw [fndP_some h.ne hj e] at hf
    cases hf
  | some i =>
    right
    obtain ⟨hm, hid⟩ := fndP_mem hf
    have hr := (mem_refL h _).2 ⟨_, hm, rfl⟩
    obtain ⟨k, hk, hke⟩ := mem_at.1 hr
    refine ⟨k, i, ?_, rfl, hke⟩
    refine fndP_some (fun a b hab hb => ?_) hk (by rw [hke]; exact hid)
    have := List.pairwise_iff_getElem.1 (refL_pw h) a b (by omega) hb hab
    rw [getD_at (by omega), getD_at hb]
    omega
theorem seeE_ref {ck : Nat} {M : List Pn} (h : POk ck M) (id t : Int) (p : Pt) : seeE (refL M) id t p = seeE M id t p := by
  unfold seeE
  rcases fnd_ref h id with ⟨h1, h2⟩ | ⟨k, i, h1, h2, h3⟩
  · rw [h1, h2]
  · rw [h1, h2]
    simp only [h3, strip]
theorem leaE_ref {ck : Nat} {M : List Pn} (h : POk ck M) (id t : Int) : leaE (refL M) id t = leaE M id t := by
  unfold leaE
  rcases fnd_ref h id with ⟨h1, h2⟩ | ⟨k, i, h1, h2, h3⟩
  · rw [h1, h2]
  · rw [h1, h2]
    simp only [h3, strip]
theorem reaV_ref {ck : Nat} {M : List Pn} (h : POk ck M) (hu id t : Int) : reaV hu (refL M) id t = reaV hu M id t := by
  unfold reaV
  rcases fnd_ref h id with ⟨h1, h2⟩ | ⟨k, i, h1, h2, h3⟩
  · rw [h1, h2]
  · rw [h1, h2]
    simp only [h3, strip]
theorem refL_nil {ck : Nat} {M : List Pn} (h : POk ck M) : (refL M).length = 0 ↔ M.length = 0 := by
  constructor
  · intro h0
    cases M with
    | nil => rfl
    | cons a l =>
      have := (mem_refL h _).2 ⟨a, List.mem_cons_self .., rfl⟩
      rw [List.length_eq_zero_iff.1 h0] at this
      cases this
  · intro h0
    rw [List.length_eq_zero_iff.1 h0]
    rfl
theorem gap_ref {ck : Nat} {M : List Pn} (h : POk ck M) (hu t : Int) (p : Pt) : gapVR hu (refL M) t p = gapV hu M t p := by
  have hg : gapLR hu t p (refL M) = gapL hu M t p (lst M) := by
    unfold gapLR gapL refL
    rw [List.foldl_map]
    rfl
  unfold gapVR gapV
  rw [hg]
  by_cases h0 : M.length = 0
  · rw [if_pos h0, if_pos ((refL_nil h).2 h0)]
  · rw [if_neg h0, if_neg (fun e => h0 ((refL_nil h).1 e))]
theorem sta_ref {ck : Nat} {M : List Pn} (h : POk ck M) (ke t : Int) : staR ke (refL M) t = staL ke M t := by
  unfold staR staL refL
  rw [List.filter_map, List.map_map]
  have e : ((fun e : Pn => decide (¬ okT t ∨ ke < age e.t t)) ∘ fun id => strip (ent M id)) = fun x => decide (¬ okT t ∨ ke < age (ent M x).t t) := rfl
  rw [e]
  conv => rhs; rw [← List.map_id (List.filter _ _)]
  apply List.map_congr_left
  intro x hx
  obtain ⟨e, he, rfl⟩ := (mem_lstE h x).1 (List.mem_filter.1 hx).1
  show (strip (ent M e.id)).id = e.id
  rw [ent_of h he]
  rfl
end Go.Proofs.Ytjaccepmnjkbbaa

namespace Go.Proofs.Ytjaccepmnjkbbaa
open Go.X
set_option linter.unusedVariables false
set_option linter.unusedSimpArgs false
theorem POk.mk' {ck : Nat} {M : List Pn} (h1 : ∀ e ∈ M, (1 ≤ e.id ∧ e.id ≤ 8) ∧ okT e.t ∧ okP e.p ∧ e.s < ck) (h2 : M.Pairwise fun a b => a.id ≠ b.id ∧ a.s ≠ b.s) : POk ck M := by
  refine ⟨fun e he => (h1 e he).1, fun e he => (h1 e he).2.1, fun e he => (h1 e he).2.2.1, fun a b hab hb => ?_, fun a b hab hb => ?_, fun e he => (h1 e he).2.2.2⟩
  · rw [getD_at (by omega), getD_at hb]
    exact (List.pairwise_iff_getElem.1 h2 a b (by omega) hb hab).1
  · rw [getD_at (by omega), getD_at hb]
    exact (List.pairwise_iff_getElem.1 h2 a b (by omega) hb hab).2
theorem POk.pw {ck : Nat} {M : List Pn} (h : POk ck M) : M.Pairwise fun a b => a.id ≠ b.id ∧ a.s ≠ b.s := by
  rw [List.pairwise_iff_getElem]
  intro i j hi hj hij
  have h1 := h.ne i j hij hj
  have h2 := h.st i j hij hj
  rw [getD_at hi, getD_at hj] at h1 h2
  exact ⟨h1, h2⟩
theorem POk.all {ck : Nat} {M : List Pn} (h : POk ck M) : ∀ e ∈ M, (1 ≤ e.id ∧ e.id ≤ 8) ∧ okT e.t ∧ okP e.p ∧ e.s < ck := fun e he => ⟨h.id e he, h.t e he, h.p e he, h.lt e he⟩
theorem see_cond {M : List Pn} {id t : Int} {p : Pt} (h : seeE M id t p = 0) : (1 ≤ id ∧ id ≤ 8) ∧ okT t ∧ okP p := by
  unfold seeE at h
  split at h
  · exact absurd h (by decide)
  · rename_i h1
    exact Decidable.of_not_not h1
/-- What lies in the record behind See. -/
theorem mem_seeM {ck : Nat} {M : List Pn} (h : POk ck M) {id t : Int} {p : Pt} (h0 : seeE M id t p = 0) : (∃ s, s < (seeM M ck id t p).2 ∧ ∀ x, x ∈ (seeM M ck id t p).1 ↔ x = ⟨s, id, t, p⟩ ∨ (x ∈ M ∧ x.id ≠ id)) ∧ POk (seeM M ck id t p).2 (seeM M ck id t p).1 := by
  have hc := see_cond h0
  unfold seeM
  rw [if_neg (by rw [h0]; decide)]
  cases hf : fndP M id with
  | none =>
    have hno : ∀ e ∈ M, e.id ≠ id := fun e he e1 => by
      obtain ⟨i, hi, rfl⟩ := mem_at.1 he
      rw [fndP_some h.ne hi e1] at hf
      cases hf
    refine ⟨⟨ck, Nat.lt_succ_self _, fun x => ?_⟩, ?_⟩
    · simp only [List.mem_append, List.mem_singleton]
      constructor
      · rintro (hx | hx)
        · exact Or.inr ⟨hx, hno x hx⟩
        · exact Or.inl hx
      · rintro (hx | hx)
        · exact Or.inr hx
        · exact Or.inl hx.1
    · refine POk.mk' (fun e he => ?_) ?_
      · rcases List.mem_append.1 he with he | he
        · have := h.all e he
          exact ⟨this.1, this.2.1, this.2.2.1, Nat.lt_succ_of_lt this.2.2.2⟩
        · rw [List.mem_singleton.1 he]
          exact ⟨hc.1, hc.2.1, hc.2.2, Nat.lt_succ_self _⟩
      · rw [List.pairwise_append]
        refine ⟨h.pw, by simp, fun a ha b hb => ?_⟩
        rw [List.mem_singleton.1 hb]
        have := h.lt a ha
        exact ⟨hno a ha, by show a.s ≠ ck; omega⟩
  | some i =>
    obtain ⟨hi, hid⟩ := fndP_lt hf
    have hmi : M.getD i default ∈ M := mem_at.2 ⟨i, hi, rfl⟩
    have hget : ∀ j, (M.set i ⟨(M.getD i default).s, id, t, p⟩).getD j default = if j = i then ⟨(M.getD i default).s, id, t, p⟩ else M.getD j default := by
      intro j
      by_cases hj : j = i
      · subst hj
        rw [if_pos rfl]
        simp [List.getD, hi]
      · rw [if_neg hj]
        simp only [List.getD, List.getElem?_set_ne (Ne.symm hj)]
    refine ⟨⟨(M.getD i default).s, h.lt _ hmi, fun x => ?_⟩, ?_⟩
    · rw [mem_at]
      constructor
      · rintro ⟨j, hj, rfl⟩
        rw [List.length_set] at hj
        rw [hget]
        by_cases hji : j = i
        · rw [if_pos hji]; exact Or.inl rfl
        · rw [if_neg hji]
          refine Or.inr ⟨mem_at.2 ⟨j, hj, rfl⟩, ?_⟩
          rw [← hid]
          rcases (by omega : j < i ∨ i < j) with h1 | h1
          · exact h.ne j i h1 hi
          · exact fun e => h.ne i j h1 hj e.symm
      · rintro (hx | ⟨hx, hxn⟩)
        · exact ⟨i, by rw [List.length_set]; exact hi, by rw [hget, if_pos rfl]; exact hx.symm⟩
        · obtain ⟨j, hj, rfl⟩ := mem_at.1 hx
          have hji : j ≠ i := fun e => hxn (by rw [e]; exact hid)
          exact ⟨j, by rw [List.length_set]; exact hj, by rw [hget, if_neg hji]⟩
    · refine ⟨?_, ?_, ?_, fun a b hab hb => ?_, fun a b hab hb => ?_, ?_⟩
      · intro e he
        obtain ⟨j, hj, rfl⟩ := mem_at.1 he
        rw [List.length_set] at hj
        rw [hget]
        split
        · exact hc.1
        · exact h.id _ (mem_at.2 ⟨j, hj, rfl⟩)
      · intro e he
        obtain ⟨j, hj, rfl⟩ := mem_at.1 he
        rw [List.length_set] at hj
        rw [hget]
        split
        · exact hc.2.1
        · exact h.t _ (mem_at.2 ⟨j, hj, rfl⟩)
      · intro e he
        obtain ⟨j, hj, rfl⟩ := mem_at.1 he
        rw [List.length_set] at hj
        rw [hget]
        split
        · exact hc.2.2
        · exact h.p _ (mem_at.2 ⟨j, hj, rfl⟩)
      · rw [List.length_set] at hb
        have hids : ∀ j, ((M.set i ⟨(M.getD i default).s, id, t, p⟩).getD j default).id = (M.getD j default).id := fun j => by
          rw [hget]; split
          · rename_i e; rw [e, hid]
          · rfl
        rw [hids, hids]
        exact h.ne a b hab hb
      · rw [List.length_set] at hb
        have hss : ∀ j, ((M.set i ⟨(M.getD i default).s, id, t, p⟩).getD j default).s = (M.getD j default).s := fun j => by
          rw [hget]; split
          · rename_i e; rw [e]
          · rfl
        rw [hss, hss]
        exact h.st a b hab hb
      · intro e he
        obtain ⟨j, hj, rfl⟩ := mem_at.1 he
        rw [List.length_set] at hj
        rw [hget]
        split
        · exact h.lt (M.getD i default) hmi
        · exact h.lt _ (mem_at.2 ⟨j, hj, rfl⟩)
theorem see_pok {ck : Nat} {M : List Pn} (h : POk ck M) (id t : Int) (p : Pt) : POk (seeM M ck id t p).2 (seeM M ck id t p).1 := by
  by_cases h0 : seeE M id t p = 0
  · exact (mem_seeM h h0).2
  · rw [show seeM M ck id t p = (M, ck) from if_pos h0]; exact h
theorem slot_id {R : List Pn} {id t : Int} {p : Pt} {n : Int} {x : Pn} (hx : x ∈ slotR R id t p n) : x.id = n := by
  unfold slotR at hx
  split at hx
  · rename_i h; rw [List.mem_singleton.1 hx]; exact h.symm
  · split at hx
    · rename_i h; rw [List.mem_singleton.1 hx]; exact (fndP_mem h).2
    · cases hx
theorem acc_id {R : List Pn} {id t : Int} {p : Pt} : ∀ (k : Nat) {x : Pn}, x ∈ accR R id t p k → 1 ≤ x.id ∧ x.id ≤ k ∧ x ∈ slotR R id t p x.id
  | 0, x, hx => by simp [accR] at hx
  | k + 1, x, hx => by
    rw [accR_succ, List.mem_append] at hx
    rcases hx with hx | hx
    · have := acc_id k hx
      exact ⟨this.1, by omega, this.2.2⟩
    · have := slot_id hx
      exact ⟨by omega, by omega, by rw [this]; exact hx⟩
theorem mem_acc {R : List Pn} {id t : Int} {p : Pt} {n : Nat} {x : Pn} (hx : x ∈ slotR R id t p ((n : Nat) + 1 : Int)) : ∀ {k : Nat}, n < k → x ∈ accR R id t p k
  | 0, h => absurd h (Nat.not_lt_zero _)
  | k + 1, h => by
    rw [accR_succ, List.mem_append]
    by_cases h1 : n = k
    · subst h1; exact Or.inr hx
    · exact Or.inl (mem_acc hx (by omega))
theorem acc_pw {R : List Pn} {id t : Int} {p : Pt} : ∀ k, (accR R id t p k).Pairwise fun a b => a.id < b.id
  | 0 => by simp [accR]
  | k + 1 => by
    rw [accR_succ, List.pairwise_append]
    refine ⟨acc_pw k, ?_, fun a ha b hb => ?_⟩
    · have := slotR_le R id t p ((k : Nat) + 1 : Int)
      match hS : slotR R id t p ((k : Nat) + 1 : Int) with
      | [] => exact List.Pairwise.nil
      | [a] => exact List.pairwise_singleton ..
      | a :: b :: l => rw [hS] at this; simp at this
    · have h1 := acc_id k ha
      have h2 := slot_id hb
      omega
theorem see_ref {ck : Nat} {M : List Pn} (h : POk ck M) (id t : Int) (p : Pt) : seeR (refL M) id t p = refL (seeM M ck id t p).1 := by
  unfold seeR
  rw [seeE_ref h]
  by_cases h0 : seeE M id t p = 0
  · rw [if_neg (by rw [h0]; decide)]
    obtain ⟨⟨s, hs, hmem⟩, hok⟩ := mem_seeM h h0
    have hc := see_cond h0
    refine sortedP_uniq (acc_pw 8) (refL_pw hok) fun x => ?_
    rw [mem_refL hok]
    constructor
    · intro hx
      obtain ⟨h1, h2, h3⟩ := acc_id 8 hx
      unfold slotR at h3
      split at h3
      · rw [List.mem_singleton.1 h3]
        exact ⟨⟨s, id, t, p⟩, (hmem _).2 (Or.inl rfl), rfl⟩
      · rename_i hne
        split at h3
        · rename_i j hj
          have hxm := (fndP_mem hj).1
          rw [← List.mem_singleton.1 h3] at hxm
          obtain ⟨e, he, hxe⟩ := (mem_refL h x).1 hxm
          exact ⟨e, (hmem e).2 (Or.inr ⟨he, fun e1 => hne (by rw [hxe]; exact e1)⟩), hxe⟩
        · cases h3
    · rintro ⟨e, he, rfl⟩
      rcases (hmem e).1 he with rfl | ⟨hm, hne⟩
      · refine mem_acc (n := id.toNat - 1) ?_ (by omega)
        rw [show ((id.toNat - 1 : Nat) : Int) + 1 = id by omega]
        unfold slotR
        rw [if_pos rfl]
        exact List.mem_singleton.2 rfl
      · have hid := h.id e hm
        refine mem_acc (n := e.id.toNat - 1) ?_ (by omega)
        rw [show ((e.id.toNat - 1 : Nat) : Int) + 1 = e.id by omega]
        unfold slotR
        rw [if_neg hne]
        have hr : strip e ∈ refL M := (mem_refL h _).2 ⟨e, hm, rfl⟩
        obtain ⟨k, hk, hke⟩ := mem_at.1 hr
        rcases fnd_ref h e.id with ⟨h1, h2⟩ | ⟨k', i, h1, h2, h3⟩
        · exfalso
          obtain ⟨j, hj, hje⟩ := mem_at.1 hm
          rw [fndP_some h.ne hj (by rw [hje])] at h2
          cases h2
        · rw [h1]
          have h4 := fndP_mem h2
          rw [h.inj h4.1 hm h4.2] at h3
          show strip e ∈ [(refL M).getD k' default]
          rw [h3]
          exact List.mem_singleton.2 rfl
  · rw [if_pos h0, show seeM M ck id t p = (M, ck) from if_pos h0]
theorem cut_sub (R : List Pn) (k : Nat) : (R.take k ++ R.drop (k + 1)).Sublist R := by
  conv => rhs; rw [← List.take_append_drop k R]
  exact List.Sublist.append_left (by rw [← List.drop_drop]; exact List.drop_sublist _ _) _
theorem mem_cut {R : List Pn} (hn : R.Pairwise fun a b => a.id ≠ b.id) {k : Nat} (hk : k < R.length) (x : Pn) : x ∈ R.take k ++ R.drop (k + 1) ↔ x ∈ R ∧ x.id ≠ (R.getD k default).id := by
  have hd := List.pairwise_iff_getElem.1 hn
  constructor
  · intro hx
    refine ⟨(cut_sub R k).subset hx, ?_⟩
    rw [getD_at hk]
    rcases List.mem_append.1 hx with hx | hx
    · obtain ⟨j, hj, rfl⟩ := List.mem_iff_getElem.1 hx
      rw [List.length_take] at hj
      rw [List.getElem_take]
      exact hd j k (by omega) hk (by omega)
    · obtain ⟨j, hj, rfl⟩ := List.mem_iff_getElem.1 hx
      rw [List.length_drop] at hj
      rw [List.getElem_drop]
      exact fun e => hd k (k + 1 + j) hk (by omega) (by omega) e.symm
  · rintro ⟨hx, hne⟩
    obtain ⟨j, hj, rfl⟩ := List.mem_iff_getElem.1 hx
    rw [getD_at hk] at hne
    rcases (by omega : j < k ∨ k < j ∨ j = k) with h | h | h
    · refine List.mem_append_left _ (List.mem_iff_getElem.2 ⟨j, by rw [List.length_take]; omega, ?_⟩)
      rw [List.getElem_take]
    · refine List.mem_append_right _ (List.mem_iff_getElem.2 ⟨j - (k + 1), by rw [List.length_drop]; omega, ?_⟩)
      rw [List.getElem_drop]
      congr 1
      omega
    · exact absurd (by subst h; rfl) hne
theorem lea_pok {ck : Nat} {M : List Pn} (h : POk ck M) (id t : Int) : POk ck (leaM M id t) := by
  unfold leaM
  split
  · exact h
  · split
    · rename_i i hf
      have hs := cut_sub M i
      exact POk.mk' (fun e he => h.all e (hs.subset he)) (h.pw.sublist hs)
    · exact h
theorem lea_ref {ck : Nat} {M : List Pn} (h : POk ck M) (id t : Int) : leaM (refL M) id t = refL (leaM M id t) := by
  have hok := lea_pok h id t
  unfold leaM at hok ⊢
  rw [leaE_ref h]
  by_cases h0 : leaE M id t = 0
  · rw [if_neg (by rw [h0]; decide)] at hok ⊢
    rw [if_neg (by rw [h0]; decide)]
    rcases fnd_ref h id with ⟨h1, h2⟩ | ⟨k, i, h1, h2, h3⟩
    · rw [h1, h2]
    · rw [h2] at hok
      rw [h1, h2]
      have hkl := (fndP_lt h1).1
      have hil := (fndP_lt h2).1
      have hpn : (refL M).Pairwise fun a b => a.id ≠ b.id := (refL_pw h).imp fun h => by omega
      refine sortedP_uniq ((refL_pw h).sublist (cut_sub _ _)) (refL_pw hok) fun x => ?_
      rw [mem_refL hok, mem_cut hpn hkl, mem_refL h, (fndP_lt h1).2]
      constructor
      · rintro ⟨⟨e, he, rfl⟩, hne⟩
        exact ⟨e, (mem_cut (h.pw.imp fun h => h.1) hil e).2 ⟨he, by rw [(fndP_lt h2).2]; exact hne⟩, rfl⟩
      · rintro ⟨e, he, rfl⟩
        have := (mem_cut (h.pw.imp fun h => h.1) hil e).1 he
        exact ⟨⟨e, this.1, rfl⟩, by have h5 := this.2; rw [(fndP_lt h2).2] at h5; exact h5⟩
  · rw [if_pos h0, if_pos h0]
end Go.Proofs.Ytjaccepmnjkbbaa

namespace Go.Proofs.Ytjaccepmnjkbbaa
open Go.X
set_option linter.unusedSimpArgs false
set_option linter.unusedVariables false
set_option maxRecDepth 10000 in
theorem cequal (a b : List Int) (c c' : Nat) (ha : a.length ≤ 1000000) :
    Ctr Try.prog 23 [.c (.sl 0 0 1 0 a.length c), .c (.sl 1 0 1 0 b.length c')] [.one (intR a c), .one (intR b c')] fun v h => v = .c (.b (decide (a = b))) ∧ h = [.one (intR a c), .one (intR b c')] := by
  refine Ctr.mk' tbv mixed Try.func23 rfl rfl rfl (fun _ _ => by kernel_rfl) (by kernel_rfl) (by rfl) (by rfl) (by (repeat' first | refine And.intro ?_ ?_ | exact xeC | fail)) ?_
  repeat' (first | (fail_if_success (with_reducible refine xstp ?_)); first | ((with_reducible refine And.intro (fun (hb : _ = true) => ?_) (fun (hb : _ = false) => ?_)) <;> replace hb := xnC hb <;> (try first | exact xfC | exact bff hb (by assumption) | exact bff (by assumption) hb)) | (with_reducible refine Both.mk ?_ ?_) | ((with_reducible refine And.intro ?_ ?_); focus exact xoC) | ((with_reducible refine Or.inl ⟨?_, ?_, ?_⟩); (focus rfl); focus exact xaC) | ((with_reducible refine xwB ?_ ?_); focus exact xaC) | ((with_reducible refine xwC ?_ ?_); focus exact xaC) | ((with_reducible refine xwD ?_ ?_); focus exact xaC) | ((with_reducible refine xwE ?_ ?_); focus exact xaC) | (with_reducible intro hc; (try simp only [capsP, and_true] at hc); (try exact xfC)) | ((fail_if_success (with_reducible first | refine xgon ?_ | intro _)); (conv => whnf); (fail_if_success (fail_if_success (with_reducible first | refine xstp ?_ | refine Both.mk ?_ ?_ | refine xgon ?_ | intro _)))))
  · rw [show decide (a = b) = false from decide_eq_false (fun e => by rw [e] at hb; exact hb rfl)]
    refine FinK.mk ⟨[0, 1], _, _, ⟨rfl, rfl⟩, ?_⟩; (repeat' first | refine And.intro ?_ ?_ | exact xeC | fail)
  have hm := hb
  refine LoopK.mk' {i : Nat // i ≤ a.length ∧ ∀ j, j < i → a.getD j default = b.getD j default}
    (fun ⟨i, _⟩ => ⟨[(0, .c (.sl 0 0 1 0 a.length c)), (1, .c (.sl 1 0 1 0 b.length c')), (5, .c (.i .i64 (i : Nat)))], [.one (intR a c), .one (intR b c')]⟩) (fun k => a.length - k.1)
    ⟨⟨0, Nat.zero_le _, by intro j h; omega⟩, [0, 1], ?_⟩ ?_
  · (repeat' first | refine And.intro ?_ ?_ | exact xeC | fail)
  rintro ⟨i, hi, hno⟩
  repeat' (first | (fail_if_success (with_reducible refine xstp ?_)); first | ((with_reducible refine And.intro (fun (hb : _ = true) => ?_) (fun (hb : _ = false) => ?_)) <;> replace hb := xnC hb <;> (try first | exact xfC | exact bff hb (by assumption) | exact bff (by assumption) hb)) | (with_reducible refine Both.mk ?_ ?_) | ((with_reducible refine And.intro ?_ ?_); focus exact xoC) | ((with_reducible refine Or.inl ⟨?_, ?_, ?_⟩); (focus rfl); focus exact xaC) | ((with_reducible refine xwB ?_ ?_); focus exact xaC) | ((with_reducible refine xwC ?_ ?_); focus exact xaC) | ((with_reducible refine xwD ?_ ?_); focus exact xaC) | ((with_reducible refine xwE ?_ ?_); focus exact xaC) | (with_reducible intro hc; (try simp only [capsP, and_true] at hc); (try exact xfC)) | ((fail_if_success (with_reducible first | refine xgon ?_ | intro _)); (conv => whnf); (fail_if_success (fail_if_success (with_reducible first | refine xstp ?_ | refine Both.mk ?_ ?_ | refine xgon ?_ | intro _)))))
  · rw [show decide (a = b) = false from decide_eq_false (fun e => by subst e; exact hb rfl)]
    refine FinK.mk ⟨[0, 1], _, _, ⟨rfl, rfl⟩, ?_⟩; (repeat' first | refine And.intro ?_ ?_ | exact xeC | fail)
  · refine ⟨⟨i + 1, by omega, fun j hj => ?_⟩, [0, 1], by simp only; omega, ?_⟩
    · rcases (by omega : j < i ∨ j = i) with h | rfl
      · exact hno j h
      · exact hb
    · (repeat' first | refine And.intro ?_ ?_ | exact xeC | fail)
  · rw [show decide (a = b) = true from decide_eq_true (by
      apply List.ext_getElem (by omega)
      intro j h1 h2
      have := hno j (by omega)
      rwa [getD_at h1, getD_at h2] at this)]
    refine FinK.mk ⟨[0, 1], _, _, ⟨rfl, rfl⟩, ?_⟩; (repeat' first | refine And.intro ?_ ?_ | exact xeC | fail)
structure Sp where
  (k id t x y : Int)
deriving Inhabited
def encSp (s : Sp) : List C := [.i .u8 s.k, .i .i8 s.id, .i .i32 s.t, .i .i32 s.x, .i .i32 s.y]
def Sp.ok (s : Sp) : Prop := (0 ≤ s.k ∧ s.k ≤ 255) ∧ (-128 ≤ s.id ∧ s.id ≤ 127) ∧ (-2147483648 ≤ s.t ∧ s.t ≤ 2147483647) ∧ (-2147483648 ≤ s.x ∧ s.x ≤ 2147483647) ∧ (-2147483648 ≤ s.y ∧ s.y ≤ 2147483647)
abbrev spR (l : List Sp) (c : Nat) : Ck := .row false false 58 5 l.length c (rowOf encSp l)
theorem w64 {x : Int} (h : -2147483648 ≤ x ∧ x ≤ 2147483647) : IntKind.i64.wrap x = x := by rw [IntKind.wrap_i64]; omega
theorem rH50eF0 {σ : List Sg} {H h' : List Fam} {v : T} {K : T → List Fam → Prop} {H' : List Fam} {v' : T} {N : Nat} (hk : K v' H') (hN : H.length = N := by (try simp only [↓List.length_cons, ↓List.length_nil, Nat.reduceAdd]) <;> rfl) (h : givesF σ N H σ h' = some H' := by (try simp (maxSteps := 1000000) only [givesF, setF, updF, Fam.zeroth, Fam.rk, Ck.rk, C.rk, E.rk, T.rk, key, List.map_cons, List.map_nil, List.cons_append, List.nil_append, List.length_cons, List.length_nil, Option.map_some, Option.bind_some, Nat.reduceAdd, Nat.zero_add, Nat.add_zero, Nat.add_sub_cancel_left, Int.toNat_natCast, reps, List.all_cons, List.all_nil, C.flat, List.append_eq, Bool.not_true, Bool.and_true, Bool.or_false, Bool.or_self, Bool.not_false, List.append_nil, Bool.and_self, encPt]) <;> rfl) (hv : v.rk σ N = v' := by (try simp only [givesF, setF, updF, Fam.zeroth, Fam.rk, Ck.rk, C.rk, E.rk, T.rk, key, List.map_cons, List.map_nil, List.cons_append, List.nil_append, List.length_cons, List.length_nil, Option.map_some, Option.bind_some, Nat.reduceAdd, Nat.zero_add, Nat.add_zero, Nat.add_sub_cancel_left, Int.toNat_natCast, reps, List.all_cons, List.all_nil, C.flat, List.append_eq, Bool.not_true, Bool.and_true, Bool.or_false, Bool.or_self, Bool.not_false, List.append_nil, Bool.and_self, encPt]) <;> rfl) : RetG σ H h' v K := ret_mk3 hN h hv hk
set_option maxRecDepth 20000 in
set_option maxHeartbeats 4000000 in
theorem cplays (hu ke : Int) (l : List Sp) (c : Nat) (hh : 0 ≤ hu ∧ hu ≤ 65535) (hk : 0 ≤ ke ∧ ke ≤ 65535) (hl : l.length ≤ 9223372036854775807) (hs : ∀ s ∈ l, s.ok) :
    Ctr Try.prog 5 [.c (.i .u16 hu), .c (.i .u16 ke), .c (.sl 0 0 5 0 l.length c)] [.one (spR l c)] fun v _ => v = .c .tt := by
  have e1 := w64 (x := hu) (by omega)
  have e2 := w64 (x := ke) (by omega)
  refine Ctr.mk' tbv mixed Try.func5 rfl rfl rfl (fun _ _ => by kernel_rfl) (by kernel_rfl) (by rfl) (by rfl) (by (repeat' first | refine And.intro ?_ ?_ | exact xeC | fail)) ?_
  repeat' (first | (fail_if_success (with_reducible refine xstp ?_)); first | ((with_reducible refine And.intro (fun (hb : _ = true) => ?_) (fun (hb : _ = false) => ?_)) <;> replace hb := xnC hb <;> (try first | exact xfC | exact bff hb (by assumption) | exact bff (by assumption) hb)) | (with_reducible refine Both.mk ?_ ?_) | ((with_reducible refine And.intro ?_ ?_); focus exact xoC) | ((with_reducible refine Or.inl ⟨?_, ?_, ?_⟩); (focus rfl); focus exact xaC) | ((with_reducible refine xwB ?_ ?_); focus exact xaC) | ((with_reducible refine xwC ?_ ?_); focus exact xaC) | ((with_reducible refine xwD ?_ ?_); focus exact xaC) | ((with_reducible refine xwE ?_ ?_); focus exact xaC) | (with_reducible intro hc; (try simp only [capsP, and_true] at hc); (try exact xfC)) | ((fail_if_success (with_reducible first | refine xgon ?_ | intro _)); (conv => whnf); (fail_if_success (fail_if_success (with_reducible first | refine xstp ?_ | refine Both.mk ?_ ?_ | refine xgon ?_ | intro _)))))
  · skip
    refine xcal (σ := []) (nl := []) (cawake) ?_
    rintro v h' ⟨rfl, rfl⟩ hcaps
    refine rH50eF0 ?_
    repeat' (first | (fail_if_success (with_reducible refine xstp ?_)); first | ((with_reducible refine And.intro (fun (hb : _ = true) => ?_) (fun (hb : _ = false) => ?_)) <;> replace hb := xnC hb <;> (try first | exact xfC | exact bff hb (by assumption) | exact bff (by assumption) hb)) | (with_reducible refine Both.mk ?_ ?_) | ((with_reducible refine And.intro ?_ ?_); focus exact xoC) | ((with_reducible refine Or.inl ⟨?_, ?_, ?_⟩); (focus rfl); focus exact xaC) | ((with_reducible refine xwB ?_ ?_); focus exact xaC) | ((with_reducible refine xwC ?_ ?_); focus exact xaC) | ((with_reducible refine xwD ?_ ?_); focus exact xaC) | ((with_reducible refine xwE ?_ ?_); focus exact xaC) | (with_reducible intro hc; (try simp only [capsP, and_true] at hc); (try exact xfC)) | ((fail_if_success (with_reducible first | refine xgon ?_ | intro _)); (conv => whnf); (fail_if_success (fail_if_success (with_reducible first | refine xstp ?_ | refine Both.mk ?_ ?_ | refine xgon ?_ | intro _)))))
    refine FinK.mk ⟨[0], _, [.one .no], rfl, ?_⟩
    (repeat' first | refine And.intro ?_ ?_ | exact xeC | fail)
  rw [e1, e2]
  by_cases hok : okN hu ke
  · refine xcal (σ := []) (nl := []) (cNewP hu ke hok) ?_
    rintro v h' ⟨rfl, rfl⟩ hcaps
    refine xret ?_
    repeat' (first | (fail_if_success (with_reducible refine xstp ?_)); first | ((with_reducible refine And.intro (fun (hb : _ = true) => ?_) (fun (hb : _ = false) => ?_)) <;> replace hb := xnC hb <;> (try first | exact xfC | exact bff hb (by assumption) | exact bff (by assumption) hb)) | (with_reducible refine Both.mk ?_ ?_) | ((with_reducible refine And.intro ?_ ?_); focus exact xoC) | ((with_reducible refine Or.inl ⟨?_, ?_, ?_⟩); (focus rfl); focus exact xaC) | ((with_reducible refine xwB ?_ ?_); focus exact xaC) | ((with_reducible refine xwC ?_ ?_); focus exact xaC) | ((with_reducible refine xwD ?_ ?_); focus exact xaC) | ((with_reducible refine xwE ?_ ?_); focus exact xaC) | (with_reducible intro hc; (try simp only [capsP, and_true] at hc); (try exact xfC)) | ((fail_if_success (with_reducible first | refine xgon ?_ | intro _)); (conv => whnf); (fail_if_success (fail_if_success (with_reducible first | refine xstp ?_ | refine Both.mk ?_ ?_ | refine xgon ?_ | intro _)))))
    rw [e1, e2]
    refine xcal (σ := []) (nl := []) (cNewR hu ke) ?_
    rw [if_pos hok]
    rintro v h' ⟨rfl, rfl⟩ hcaps
    refine xret ?_
    repeat' (first | (fail_if_success (with_reducible refine xstp ?_)); first | ((with_reducible refine And.intro (fun (hb : _ = true) => ?_) (fun (hb : _ = false) => ?_)) <;> replace hb := xnC hb <;> (try first | exact xfC | exact bff hb (by assumption) | exact bff (by assumption) hb)) | (with_reducible refine Both.mk ?_ ?_) | ((with_reducible refine And.intro ?_ ?_); focus exact xoC) | ((with_reducible refine Or.inl ⟨?_, ?_, ?_⟩); (focus rfl); focus exact xaC) | ((with_reducible refine xwB ?_ ?_); focus exact xaC) | ((with_reducible refine xwC ?_ ?_); focus exact xaC) | ((with_reducible refine xwD ?_ ?_); focus exact xaC) | ((with_reducible refine xwE ?_ ?_); focus exact xaC) | (with_reducible intro hc; (try simp only [capsP, and_true] at hc); (try exact xfC)) | ((fail_if_success (with_reducible first | refine xgon ?_ | intro _)); (conv => whnf); (fail_if_success (fail_if_success (with_reducible first | refine xstp ?_ | refine Both.mk ?_ ?_ | refine xgon ?_ | intro _)))))
    refine LoopK.mk' {q : Nat × Nat × List Pn × Nat // q.1 ≤ l.length ∧ POk q.2.1 q.2.2.1}
      (fun ⟨(i, ck, M, c2), _⟩ => ⟨[(2, .c (.sl 0 0 5 0 l.length c)), (7, .c (.p 1 0 0)), (8, .c (.i .i64 0)), (9, .c (.p 3 0 0)), (11, .c (.i .i64 (i : Nat)))],
        [.one (spR l c), .one (.cells true [.i .i64 hu, .i .i64 ke, .mp 2 0]), .one (mapC ck M), .one (refF hu ke 4 (refL M).length c2), .one (refR (refL M) c2)]⟩) (fun q => l.length - q.1.1)
      ⟨⟨(0, 0, [], 0), Nat.zero_le _, pok0 0⟩, [0, 1, 2, 3, 99], ?_⟩ ?_
    · (repeat' first | refine And.intro ?_ ?_ | exact xeC | fail)
      all_goals first | rfl | (intro i hi; exact absurd hi (Nat.not_lt_zero i))
    rintro ⟨⟨i, ck, M, c2⟩, hi, hM⟩
    simp only at hi hM
    have hx0 : i < l.length → (l.getD i default).ok := fun h => hs _ (by rw [getD_at h]; exact List.getElem_mem _)
    have hh2 : 0 ≤ hu ∧ hu ≤ 4096 := by unfold okN at hok; exact hok.1
    repeat' (first | (fail_if_success (with_reducible refine xstp ?_)); first | ((with_reducible refine And.intro (fun (hb : _ = true) => ?_) (fun (hb : _ = false) => ?_)) <;> replace hb := xnC hb <;> (try first | exact xfC | exact bff hb (by assumption) | exact bff (by assumption) hb)) | (with_reducible refine Both.mk ?_ ?_) | ((with_reducible refine And.intro ?_ ?_); focus exact xoC) | ((with_reducible refine Or.inl ⟨?_, ?_, ?_⟩); (focus rfl); focus exact xaC) | ((with_reducible refine xwB ?_ ?_); focus exact xaC) | ((with_reducible refine xwC ?_ ?_); focus exact xaC) | ((with_reducible refine xwD ?_ ?_); focus exact xaC) | ((with_reducible refine xwE ?_ ?_); focus exact xaC) | (with_reducible intro hc; (try simp only [capsP, and_true] at hc); (try exact xfC)) | ((fail_if_success (with_reducible first | refine xgon ?_ | intro _)); (conv => whnf); (fail_if_success (fail_if_success (with_reducible first | refine xstp ?_ | refine Both.mk ?_ ?_ | refine xgon ?_ | intro _)))))
    all_goals try (
      have hx := hx0 (by omega)
      have hwi : IntKind.i64.wrap (l.getD (0 + ((i : Nat) : Int).toNat) default).id = (l.getD i default).id := by rw [Int.toNat_natCast, Nat.zero_add]; exact w64 (by unfold Sp.ok at hx; omega)
      have hwt : IntKind.i64.wrap (l.getD (0 + ((i : Nat) : Int).toNat) default).t = (l.getD i default).t := by rw [Int.toNat_natCast, Nat.zero_add]; exact w64 (by unfold Sp.ok at hx; omega)
      have hwx : IntKind.i64.wrap (l.getD (0 + ((i : Nat) : Int).toNat) default).x = (l.getD i default).x := by rw [Int.toNat_natCast, Nat.zero_add]; exact w64 (by unfold Sp.ok at hx; omega)
      have hwy : IntKind.i64.wrap (l.getD (0 + ((i : Nat) : Int).toNat) default).y = (l.getD i default).y := by rw [Int.toNat_natCast, Nat.zero_add]; exact w64 (by unfold Sp.ok at hx; omega)
      rw [hwt, hwx, hwy]
      try rw [hwi])
    · skip
      refine xcal (σ := [.whole 1, .whole 2]) (nl := []) (cSee hu ke ck M (l.getD i default).id (l.getD i default).t ⟨(l.getD i default).x, (l.getD i default).y⟩ hM.ne) ?_
      have hM1 := see_pok hM (l.getD i default).id (l.getD i default).t ⟨(l.getD i default).x, (l.getD i default).y⟩
      rintro v h' ⟨rfl, rfl⟩ hcaps
      refine rH50eF0 ?_
      repeat' (first | (fail_if_success (with_reducible refine xstp ?_)); first | ((with_reducible refine And.intro (fun (hb : _ = true) => ?_) (fun (hb : _ = false) => ?_)) <;> replace hb := xnC hb <;> (try first | exact xfC | exact bff hb (by assumption) | exact bff (by assumption) hb)) | (with_reducible refine Both.mk ?_ ?_) | ((with_reducible refine And.intro ?_ ?_); focus exact xoC) | ((with_reducible refine Or.inl ⟨?_, ?_, ?_⟩); (focus rfl); focus exact xaC) | ((with_reducible refine xwB ?_ ?_); focus exact xaC) | ((with_reducible refine xwC ?_ ?_); focus exact xaC) | ((with_reducible refine xwD ?_ ?_); focus exact xaC) | ((with_reducible refine xwE ?_ ?_); focus exact xaC) | (with_reducible intro hc; (try simp only [capsP, and_true] at hc); (try exact xfC)) | ((fail_if_success (with_reducible first | refine xgon ?_ | intro _)); (conv => whnf); (fail_if_success (fail_if_success (with_reducible first | refine xstp ?_ | refine Both.mk ?_ ?_ | refine xgon ?_ | intro _)))))
      refine xcal (σ := [.whole 3, .whole 4]) (nl := []) (cSeeR hu ke (refL M) c2 (l.getD i default).id (l.getD i default).t ⟨(l.getD i default).x, (l.getD i default).y⟩ (refL_len M)) ?_
      rw [seeE_ref hM, see_ref hM]
      rintro v h' ⟨c3, rfl, rfl⟩ hcaps
      refine rH50eF0 ?_
      repeat' (first | (fail_if_success (with_reducible refine xstp ?_)); first | ((with_reducible refine And.intro (fun (hb : _ = true) => ?_) (fun (hb : _ = false) => ?_)) <;> replace hb := xnC hb <;> (try first | exact xfC | exact bff hb (by assumption) | exact bff (by assumption) hb)) | (with_reducible refine Both.mk ?_ ?_) | ((with_reducible refine And.intro ?_ ?_); focus exact xoC) | ((with_reducible refine Or.inl ⟨?_, ?_, ?_⟩); (focus rfl); focus exact xaC) | ((with_reducible refine xwB ?_ ?_); focus exact xaC) | ((with_reducible refine xwC ?_ ?_); focus exact xaC) | ((with_reducible refine xwD ?_ ?_); focus exact xaC) | ((with_reducible refine xwE ?_ ?_); focus exact xaC) | (with_reducible intro hc; (try simp only [capsP, and_true] at hc); (try exact xfC)) | ((fail_if_success (with_reducible first | refine xgon ?_ | intro _)); (conv => whnf); (fail_if_success (fail_if_success (with_reducible first | refine xstp ?_ | refine Both.mk ?_ ?_ | refine xgon ?_ | intro _)))))
      generalize (seeM M ck (l.getD i default).id (l.getD i default).t ⟨(l.getD i default).x, (l.getD i default).y⟩).1 = M1 at hM1 ⊢
      generalize (seeM M ck (l.getD i default).id (l.getD i default).t ⟨(l.getD i default).x, (l.getD i default).y⟩).2 = ck1 at hM1 ⊢
      have hM := hM1
      refine xcal (σ := [.whole 1, .whole 2]) (nl := []) (cGap hu ke (ck1) (M1) (l.getD i default).t ⟨(l.getD i default).x, (l.getD i default).y⟩ hM hh2) ?_
      rintro v h' ⟨rfl, rfl⟩ hcaps
      refine rH50eF0 ?_
      repeat' (first | (fail_if_success (with_reducible refine xstp ?_)); first | ((with_reducible refine And.intro (fun (hb : _ = true) => ?_) (fun (hb : _ = false) => ?_)) <;> replace hb := xnC hb <;> (try first | exact xfC | exact bff hb (by assumption) | exact bff (by assumption) hb)) | (with_reducible refine Both.mk ?_ ?_) | ((with_reducible refine And.intro ?_ ?_); focus exact xoC) | ((with_reducible refine Or.inl ⟨?_, ?_, ?_⟩); (focus rfl); focus exact xaC) | ((with_reducible refine xwB ?_ ?_); focus exact xaC) | ((with_reducible refine xwC ?_ ?_); focus exact xaC) | ((with_reducible refine xwD ?_ ?_); focus exact xaC) | ((with_reducible refine xwE ?_ ?_); focus exact xaC) | (with_reducible intro hc; (try simp only [capsP, and_true] at hc); (try exact xfC)) | ((fail_if_success (with_reducible first | refine xgon ?_ | intro _)); (conv => whnf); (fail_if_success (fail_if_success (with_reducible first | refine xstp ?_ | refine Both.mk ?_ ?_ | refine xgon ?_ | intro _)))))
      refine xcal (σ := [.whole 3, .whole 7]) (nl := []) (cGapR hu ke (refL (M1)) (c3) (l.getD i default).t ⟨(l.getD i default).x, (l.getD i default).y⟩ (refL_len _) hh2 (refL_t hM) (refL_p hM)) ?_
      rw [gap_ref hM]
      rintro v h' ⟨rfl, rfl⟩ hcaps
      refine rH50eF0 ?_
      repeat' (first | (fail_if_success (with_reducible refine xstp ?_)); first | ((with_reducible refine And.intro (fun (hb : _ = true) => ?_) (fun (hb : _ = false) => ?_)) <;> replace hb := xnC hb <;> (try first | exact xfC | exact bff hb (by assumption) | exact bff (by assumption) hb)) | (with_reducible refine Both.mk ?_ ?_) | ((with_reducible refine And.intro ?_ ?_); focus exact xoC) | ((with_reducible refine Or.inl ⟨?_, ?_, ?_⟩); (focus rfl); focus exact xaC) | ((with_reducible refine xwB ?_ ?_); focus exact xaC) | ((with_reducible refine xwC ?_ ?_); focus exact xaC) | ((with_reducible refine xwD ?_ ?_); focus exact xaC) | ((with_reducible refine xwE ?_ ?_); focus exact xaC) | (with_reducible intro hc; (try simp only [capsP, and_true] at hc); (try exact xfC)) | ((fail_if_success (with_reducible first | refine xgon ?_ | intro _)); (conv => whnf); (fail_if_success (fail_if_success (with_reducible first | refine xstp ?_ | refine Both.mk ?_ ?_ | refine xgon ?_ | intro _)))))
      try rw [hwi]
      refine xcal (σ := [.whole 1, .whole 2]) (nl := []) (cReach hu ke (ck1) (M1) (l.getD i default).id (l.getD i default).t hM hh2) ?_
      rintro v h' ⟨rfl, rfl⟩ hcaps
      refine rH50eF0 ?_
      repeat' (first | (fail_if_success (with_reducible refine xstp ?_)); first | ((with_reducible refine And.intro (fun (hb : _ = true) => ?_) (fun (hb : _ = false) => ?_)) <;> replace hb := xnC hb <;> (try first | exact xfC | exact bff hb (by assumption) | exact bff (by assumption) hb)) | (with_reducible refine Both.mk ?_ ?_) | ((with_reducible refine And.intro ?_ ?_); focus exact xoC) | ((with_reducible refine Or.inl ⟨?_, ?_, ?_⟩); (focus rfl); focus exact xaC) | ((with_reducible refine xwB ?_ ?_); focus exact xaC) | ((with_reducible refine xwC ?_ ?_); focus exact xaC) | ((with_reducible refine xwD ?_ ?_); focus exact xaC) | ((with_reducible refine xwE ?_ ?_); focus exact xaC) | (with_reducible intro hc; (try simp only [capsP, and_true] at hc); (try exact xfC)) | ((fail_if_success (with_reducible first | refine xgon ?_ | intro _)); (conv => whnf); (fail_if_success (fail_if_success (with_reducible first | refine xstp ?_ | refine Both.mk ?_ ?_ | refine xgon ?_ | intro _)))))
      refine xcal (σ := [.whole 3, .whole 7]) (nl := []) (cReachRR hu ke (refL (M1)) (c3) (l.getD i default).id (l.getD i default).t (refL_len _) hh2 (refL_t hM)) ?_
      rw [reaV_ref hM]
      rintro v h' ⟨rfl, rfl⟩ hcaps
      refine rH50eF0 ?_
      repeat' (first | (fail_if_success (with_reducible refine xstp ?_)); first | ((with_reducible refine And.intro (fun (hb : _ = true) => ?_) (fun (hb : _ = false) => ?_)) <;> replace hb := xnC hb <;> (try first | exact xfC | exact bff hb (by assumption) | exact bff (by assumption) hb)) | (with_reducible refine Both.mk ?_ ?_) | ((with_reducible refine And.intro ?_ ?_); focus exact xoC) | ((with_reducible refine Or.inl ⟨?_, ?_, ?_⟩); (focus rfl); focus exact xaC) | ((with_reducible refine xwB ?_ ?_); focus exact xaC) | ((with_reducible refine xwC ?_ ?_); focus exact xaC) | ((with_reducible refine xwD ?_ ?_); focus exact xaC) | ((with_reducible refine xwE ?_ ?_); focus exact xaC) | (with_reducible intro hc; (try simp only [capsP, and_true] at hc); (try exact xfC)) | ((fail_if_success (with_reducible first | refine xgon ?_ | intro _)); (conv => whnf); (fail_if_success (fail_if_success (with_reducible first | refine xstp ?_ | refine Both.mk ?_ ?_ | refine xgon ?_ | intro _)))))
      refine xcal (σ := [.whole 1, .whole 2]) (nl := []) (cListP hu ke (ck1) (M1) hM) ?_
      rintro v h' ⟨d1, rfl, rfl⟩ hcaps
      refine rH50eF0 ?_
      repeat' (first | (fail_if_success (with_reducible refine xstp ?_)); first | ((with_reducible refine And.intro (fun (hb : _ = true) => ?_) (fun (hb : _ = false) => ?_)) <;> replace hb := xnC hb <;> (try first | exact xfC | exact bff hb (by assumption) | exact bff (by assumption) hb)) | (with_reducible refine Both.mk ?_ ?_) | ((with_reducible refine And.intro ?_ ?_); focus exact xoC) | ((with_reducible refine Or.inl ⟨?_, ?_, ?_⟩); (focus rfl); focus exact xaC) | ((with_reducible refine xwB ?_ ?_); focus exact xaC) | ((with_reducible refine xwC ?_ ?_); focus exact xaC) | ((with_reducible refine xwD ?_ ?_); focus exact xaC) | ((with_reducible refine xwE ?_ ?_); focus exact xaC) | (with_reducible intro hc; (try simp only [capsP, and_true] at hc); (try exact xfC)) | ((fail_if_success (with_reducible first | refine xgon ?_ | intro _)); (conv => whnf); (fail_if_success (fail_if_success (with_reducible first | refine xstp ?_ | refine Both.mk ?_ ?_ | refine xgon ?_ | intro _)))))
      refine xcal (σ := [.whole 3, .whole 7]) (nl := []) (cListR hu ke (refL (M1)) (c3) (refL_len _)) ?_
      rw [refL_map hM]
      rintro v h' ⟨d2, rfl, rfl⟩ hcaps
      refine rH50eF0 ?_
      repeat' (first | (fail_if_success (with_reducible refine xstp ?_)); first | ((with_reducible refine And.intro (fun (hb : _ = true) => ?_) (fun (hb : _ = false) => ?_)) <;> replace hb := xnC hb <;> (try first | exact xfC | exact bff hb (by assumption) | exact bff (by assumption) hb)) | (with_reducible refine Both.mk ?_ ?_) | ((with_reducible refine And.intro ?_ ?_); focus exact xoC) | ((with_reducible refine Or.inl ⟨?_, ?_, ?_⟩); (focus rfl); focus exact xaC) | ((with_reducible refine xwB ?_ ?_); focus exact xaC) | ((with_reducible refine xwC ?_ ?_); focus exact xaC) | ((with_reducible refine xwD ?_ ?_); focus exact xaC) | ((with_reducible refine xwE ?_ ?_); focus exact xaC) | (with_reducible intro hc; (try simp only [capsP, and_true] at hc); (try exact xfC)) | ((fail_if_success (with_reducible first | refine xgon ?_ | intro _)); (conv => whnf); (fail_if_success (fail_if_success (with_reducible first | refine xstp ?_ | refine Both.mk ?_ ?_ | refine xgon ?_ | intro _)))))
      refine xcal (σ := [.whole 10, .whole 11]) (nl := []) (cequal (lst (M1)) (lst (M1)) d1 d2 (by have := lst_len (M1); omega)) ?_
      rintro v h' ⟨rfl, rfl⟩ hcaps
      rw [decide_eq_true rfl]
      refine rH50eF0 ?_
      repeat' (first | (fail_if_success (with_reducible refine xstp ?_)); first | ((with_reducible refine And.intro (fun (hb : _ = true) => ?_) (fun (hb : _ = false) => ?_)) <;> replace hb := xnC hb <;> (try first | exact xfC | exact bff hb (by assumption) | exact bff (by assumption) hb | (exfalso; simp only [List.length_nil] at hb; omega) | (exfalso; revert hb; decide) | (exfalso; simp at hb; done))) | (with_reducible refine Both.mk ?_ ?_) | ((with_reducible refine And.intro ?_ ?_); focus exact xoC) | ((with_reducible refine Or.inl ⟨?_, ?_, ?_⟩); (focus rfl); focus exact xaC) | ((with_reducible refine xwB ?_ ?_); focus exact xaC) | ((with_reducible refine xwC ?_ ?_); focus exact xaC) | ((with_reducible refine xwD ?_ ?_); focus exact xaC) | ((with_reducible refine xwE ?_ ?_); focus exact xaC) | (with_reducible intro hc; (try simp only [capsP, and_true] at hc); (try exact xfC)) | ((fail_if_success (with_reducible first | refine xgon ?_ | intro _)); (conv => whnf); (fail_if_success (fail_if_success (with_reducible first | refine xstp ?_ | refine Both.mk ?_ ?_ | refine xgon ?_ | intro _)))))
      refine xcal (σ := [.whole 1, .whole 2]) (nl := []) (cStale hu ke (ck1) (M1) (l.getD i default).t hM) ?_
      rintro v h' ⟨d3, rfl, rfl⟩ hcaps
      refine rH50eF0 ?_
      repeat' (first | (fail_if_success (with_reducible refine xstp ?_)); first | ((with_reducible refine And.intro (fun (hb : _ = true) => ?_) (fun (hb : _ = false) => ?_)) <;> replace hb := xnC hb <;> (try first | exact xfC | exact bff hb (by assumption) | exact bff (by assumption) hb)) | (with_reducible refine Both.mk ?_ ?_) | ((with_reducible refine And.intro ?_ ?_); focus exact xoC) | ((with_reducible refine Or.inl ⟨?_, ?_, ?_⟩); (focus rfl); focus exact xaC) | ((with_reducible refine xwB ?_ ?_); focus exact xaC) | ((with_reducible refine xwC ?_ ?_); focus exact xaC) | ((with_reducible refine xwD ?_ ?_); focus exact xaC) | ((with_reducible refine xwE ?_ ?_); focus exact xaC) | (with_reducible intro hc; (try simp only [capsP, and_true] at hc); (try exact xfC)) | ((fail_if_success (with_reducible first | refine xgon ?_ | intro _)); (conv => whnf); (fail_if_success (fail_if_success (with_reducible first | refine xstp ?_ | refine Both.mk ?_ ?_ | refine xgon ?_ | intro _)))))
      refine xcal (σ := [.whole 3, .whole 7]) (nl := []) (cStaleR hu ke (refL (M1)) (c3) (l.getD i default).t (refL_len _) (refL_t hM)) ?_
      rw [sta_ref hM]
      rintro v h' ⟨d4, rfl, rfl⟩ hcaps
      refine rH50eF0 ?_
      repeat' (first | (fail_if_success (with_reducible refine xstp ?_)); first | ((with_reducible refine And.intro (fun (hb : _ = true) => ?_) (fun (hb : _ = false) => ?_)) <;> replace hb := xnC hb <;> (try first | exact xfC | exact bff hb (by assumption) | exact bff (by assumption) hb)) | (with_reducible refine Both.mk ?_ ?_) | ((with_reducible refine And.intro ?_ ?_); focus exact xoC) | ((with_reducible refine Or.inl ⟨?_, ?_, ?_⟩); (focus rfl); focus exact xaC) | ((with_reducible refine xwB ?_ ?_); focus exact xaC) | ((with_reducible refine xwC ?_ ?_); focus exact xaC) | ((with_reducible refine xwD ?_ ?_); focus exact xaC) | ((with_reducible refine xwE ?_ ?_); focus exact xaC) | (with_reducible intro hc; (try simp only [capsP, and_true] at hc); (try exact xfC)) | ((fail_if_success (with_reducible first | refine xgon ?_ | intro _)); (conv => whnf); (fail_if_success (fail_if_success (with_reducible first | refine xstp ?_ | refine Both.mk ?_ ?_ | refine xgon ?_ | intro _)))))
      refine xcal (σ := [.whole 12, .whole 13]) (nl := []) (cequal (staL ke (M1) (l.getD i default).t) (staL ke (M1) (l.getD i default).t) d3 d4 (by have := lst_len (M1); have := List.length_filter_le (fun x => decide (¬ okT (l.getD i default).t ∨ ke < age (ent (M1) x).t (l.getD i default).t)) (lst (M1)); unfold staL; omega)) ?_
      rintro v h' ⟨rfl, rfl⟩ hcaps
      rw [decide_eq_true rfl]
      refine rH50eF0 ?_
      repeat' (first | (fail_if_success (with_reducible refine xstp ?_)); first | ((with_reducible refine And.intro (fun (hb : _ = true) => ?_) (fun (hb : _ = false) => ?_)) <;> replace hb := xnC hb <;> (try first | exact xfC | exact bff hb (by assumption) | exact bff (by assumption) hb | (exfalso; simp only [List.length_nil] at hb; omega) | (exfalso; revert hb; decide) | (exfalso; simp at hb; done))) | (with_reducible refine Both.mk ?_ ?_) | ((with_reducible refine And.intro ?_ ?_); focus exact xoC) | ((with_reducible refine Or.inl ⟨?_, ?_, ?_⟩); (focus rfl); focus exact xaC) | ((with_reducible refine xwB ?_ ?_); focus exact xaC) | ((with_reducible refine xwC ?_ ?_); focus exact xaC) | ((with_reducible refine xwD ?_ ?_); focus exact xaC) | ((with_reducible refine xwE ?_ ?_); focus exact xaC) | (with_reducible intro hc; (try simp only [capsP, and_true] at hc); (try exact xfC)) | ((fail_if_success (with_reducible first | refine xgon ?_ | intro _)); (conv => whnf); (fail_if_success (fail_if_success (with_reducible first | refine xstp ?_ | refine Both.mk ?_ ?_ | refine xgon ?_ | intro _)))))
      refine ⟨⟨(i + 1, ck1, M1, c3), by simp only; omega, hM⟩, [0, 1, 2, 3, 7], by simp only; omega, ?_⟩
      (repeat' first | refine And.intro ?_ ?_ | exact xeC | fail)
    · skip
      refine xcal (σ := [.whole 1, .whole 2]) (nl := []) (cLeave hu ke ck M (l.getD i default).id (l.getD i default).t hM) ?_
      have hM1 := lea_pok hM (l.getD i default).id (l.getD i default).t
      rintro v h' ⟨rfl, rfl⟩ hcaps
      refine rH50eF0 ?_
      repeat' (first | (fail_if_success (with_reducible refine xstp ?_)); first | ((with_reducible refine And.intro (fun (hb : _ = true) => ?_) (fun (hb : _ = false) => ?_)) <;> replace hb := xnC hb <;> (try first | exact xfC | exact bff hb (by assumption) | exact bff (by assumption) hb)) | (with_reducible refine Both.mk ?_ ?_) | ((with_reducible refine And.intro ?_ ?_); focus exact xoC) | ((with_reducible refine Or.inl ⟨?_, ?_, ?_⟩); (focus rfl); focus exact xaC) | ((with_reducible refine xwB ?_ ?_); focus exact xaC) | ((with_reducible refine xwC ?_ ?_); focus exact xaC) | ((with_reducible refine xwD ?_ ?_); focus exact xaC) | ((with_reducible refine xwE ?_ ?_); focus exact xaC) | (with_reducible intro hc; (try simp only [capsP, and_true] at hc); (try exact xfC)) | ((fail_if_success (with_reducible first | refine xgon ?_ | intro _)); (conv => whnf); (fail_if_success (fail_if_success (with_reducible first | refine xstp ?_ | refine Both.mk ?_ ?_ | refine xgon ?_ | intro _)))))
      refine xcal (σ := [.whole 3, .whole 4]) (nl := []) (cLeaveR hu ke (refL M) c2 (l.getD i default).id (l.getD i default).t (refL_len M)) ?_
      rw [leaE_ref hM, lea_ref hM]
      rintro v h' ⟨c3, rfl, rfl⟩ hcaps
      refine rH50eF0 ?_
      repeat' (first | (fail_if_success (with_reducible refine xstp ?_)); first | ((with_reducible refine And.intro (fun (hb : _ = true) => ?_) (fun (hb : _ = false) => ?_)) <;> replace hb := xnC hb <;> (try first | exact xfC | exact bff hb (by assumption) | exact bff (by assumption) hb)) | (with_reducible refine Both.mk ?_ ?_) | ((with_reducible refine And.intro ?_ ?_); focus exact xoC) | ((with_reducible refine Or.inl ⟨?_, ?_, ?_⟩); (focus rfl); focus exact xaC) | ((with_reducible refine xwB ?_ ?_); focus exact xaC) | ((with_reducible refine xwC ?_ ?_); focus exact xaC) | ((with_reducible refine xwD ?_ ?_); focus exact xaC) | ((with_reducible refine xwE ?_ ?_); focus exact xaC) | (with_reducible intro hc; (try simp only [capsP, and_true] at hc); (try exact xfC)) | ((fail_if_success (with_reducible first | refine xgon ?_ | intro _)); (conv => whnf); (fail_if_success (fail_if_success (with_reducible first | refine xstp ?_ | refine Both.mk ?_ ?_ | refine xgon ?_ | intro _)))))
      generalize leaM M (l.getD i default).id (l.getD i default).t = M1 at hM1 ⊢
      have hM := hM1
      refine xcal (σ := [.whole 1, .whole 2]) (nl := []) (cGap hu ke (ck) (M1) (l.getD i default).t ⟨(l.getD i default).x, (l.getD i default).y⟩ hM hh2) ?_
      rintro v h' ⟨rfl, rfl⟩ hcaps
      refine rH50eF0 ?_
      repeat' (first | (fail_if_success (with_reducible refine xstp ?_)); first | ((with_reducible refine And.intro (fun (hb : _ = true) => ?_) (fun (hb : _ = false) => ?_)) <;> replace hb := xnC hb <;> (try first | exact xfC | exact bff hb (by assumption) | exact bff (by assumption) hb)) | (with_reducible refine Both.mk ?_ ?_) | ((with_reducible refine And.intro ?_ ?_); focus exact xoC) | ((with_reducible refine Or.inl ⟨?_, ?_, ?_⟩); (focus rfl); focus exact xaC) | ((with_reducible refine xwB ?_ ?_); focus exact xaC) | ((with_reducible refine xwC ?_ ?_); focus exact xaC) | ((with_reducible refine xwD ?_ ?_); focus exact xaC) | ((with_reducible refine xwE ?_ ?_); focus exact xaC) | (with_reducible intro hc; (try simp only [capsP, and_true] at hc); (try exact xfC)) | ((fail_if_success (with_reducible first | refine xgon ?_ | intro _)); (conv => whnf); (fail_if_success (fail_if_success (with_reducible first | refine xstp ?_ | refine Both.mk ?_ ?_ | refine xgon ?_ | intro _)))))
      refine xcal (σ := [.whole 3, .whole 7]) (nl := []) (cGapR hu ke (refL (M1)) (c3) (l.getD i default).t ⟨(l.getD i default).x, (l.getD i default).y⟩ (refL_len _) hh2 (refL_t hM) (refL_p hM)) ?_
      rw [gap_ref hM]
      rintro v h' ⟨rfl, rfl⟩ hcaps
      refine rH50eF0 ?_
      repeat' (first | (fail_if_success (with_reducible refine xstp ?_)); first | ((with_reducible refine And.intro (fun (hb : _ = true) => ?_) (fun (hb : _ = false) => ?_)) <;> replace hb := xnC hb <;> (try first | exact xfC | exact bff hb (by assumption) | exact bff (by assumption) hb)) | (with_reducible refine Both.mk ?_ ?_) | ((with_reducible refine And.intro ?_ ?_); focus exact xoC) | ((with_reducible refine Or.inl ⟨?_, ?_, ?_⟩); (focus rfl); focus exact xaC) | ((with_reducible refine xwB ?_ ?_); focus exact xaC) | ((with_reducible refine xwC ?_ ?_); focus exact xaC) | ((with_reducible refine xwD ?_ ?_); focus exact xaC) | ((with_reducible refine xwE ?_ ?_); focus exact xaC) | (with_reducible intro hc; (try simp only [capsP, and_true] at hc); (try exact xfC)) | ((fail_if_success (with_reducible first | refine xgon ?_ | intro _)); (conv => whnf); (fail_if_success (fail_if_success (with_reducible first | refine xstp ?_ | refine Both.mk ?_ ?_ | refine xgon ?_ | intro _)))))
      try rw [hwi]
      refine xcal (σ := [.whole 1, .whole 2]) (nl := []) (cReach hu ke (ck) (M1) (l.getD i default).id (l.getD i default).t hM hh2) ?_
      rintro v h' ⟨rfl, rfl⟩ hcaps
      refine rH50eF0 ?_
      repeat' (first | (fail_if_success (with_reducible refine xstp ?_)); first | ((with_reducible refine And.intro (fun (hb : _ = true) => ?_) (fun (hb : _ = false) => ?_)) <;> replace hb := xnC hb <;> (try first | exact xfC | exact bff hb (by assumption) | exact bff (by assumption) hb)) | (with_reducible refine Both.mk ?_ ?_) | ((with_reducible refine And.intro ?_ ?_); focus exact xoC) | ((with_reducible refine Or.inl ⟨?_, ?_, ?_⟩); (focus rfl); focus exact xaC) | ((with_reducible refine xwB ?_ ?_); focus exact xaC) | ((with_reducible refine xwC ?_ ?_); focus exact xaC) | ((with_reducible refine xwD ?_ ?_); focus exact xaC) | ((with_reducible refine xwE ?_ ?_); focus exact xaC) | (with_reducible intro hc; (try simp only [capsP, and_true] at hc); (try exact xfC)) | ((fail_if_success (with_reducible first | refine xgon ?_ | intro _)); (conv => whnf); (fail_if_success (fail_if_success (with_reducible first | refine xstp ?_ | refine Both.mk ?_ ?_ | refine xgon ?_ | intro _)))))
      refine xcal (σ := [.whole 3, .whole 7]) (nl := []) (cReachRR hu ke (refL (M1)) (c3) (l.getD i default).id (l.getD i default).t (refL_len _) hh2 (refL_t hM)) ?_
      rw [reaV_ref hM]
      rintro v h' ⟨rfl, rfl⟩ hcaps
      refine rH50eF0 ?_
      repeat' (first | (fail_if_success (with_reducible refine xstp ?_)); first | ((with_reducible refine And.intro (fun (hb : _ = true) => ?_) (fun (hb : _ = false) => ?_)) <;> replace hb := xnC hb <;> (try first | exact xfC | exact bff hb (by assumption) | exact bff (by assumption) hb)) | (with_reducible refine Both.mk ?_ ?_) | ((with_reducible refine And.intro ?_ ?_); focus exact xoC) | ((with_reducible refine Or.inl ⟨?_, ?_, ?_⟩); (focus rfl); focus exact xaC) | ((with_reducible refine xwB ?_ ?_); focus exact xaC) | ((with_reducible refine xwC ?_ ?_); focus exact xaC) | ((with_reducible refine xwD ?_ ?_); focus exact xaC) | ((with_reducible refine xwE ?_ ?_); focus exact xaC) | (with_reducible intro hc; (try simp only [capsP, and_true] at hc); (try exact xfC)) | ((fail_if_success (with_reducible first | refine xgon ?_ | intro _)); (conv => whnf); (fail_if_success (fail_if_success (with_reducible first | refine xstp ?_ | refine Both.mk ?_ ?_ | refine xgon ?_ | intro _)))))
      refine xcal (σ := [.whole 1, .whole 2]) (nl := []) (cListP hu ke (ck) (M1) hM) ?_
      rintro v h' ⟨d1, rfl, rfl⟩ hcaps
      refine rH50eF0 ?_
      repeat' (first | (fail_if_success (with_reducible refine xstp ?_)); first | ((with_reducible refine And.intro (fun (hb : _ = true) => ?_) (fun (hb : _ = false) => ?_)) <;> replace hb := xnC hb <;> (try first | exact xfC | exact bff hb (by assumption) | exact bff (by assumption) hb)) | (with_reducible refine Both.mk ?_ ?_) | ((with_reducible refine And.intro ?_ ?_); focus exact xoC) | ((with_reducible refine Or.inl ⟨?_, ?_, ?_⟩); (focus rfl); focus exact xaC) | ((with_reducible refine xwB ?_ ?_); focus exact xaC) | ((with_reducible refine xwC ?_ ?_); focus exact xaC) | ((with_reducible refine xwD ?_ ?_); focus exact xaC) | ((with_reducible refine xwE ?_ ?_); focus exact xaC) | (with_reducible intro hc; (try simp only [capsP, and_true] at hc); (try exact xfC)) | ((fail_if_success (with_reducible first | refine xgon ?_ | intro _)); (conv => whnf); (fail_if_success (fail_if_success (with_reducible first | refine xstp ?_ | refine Both.mk ?_ ?_ | refine xgon ?_ | intro _)))))
      refine xcal (σ := [.whole 3, .whole 7]) (nl := []) (cListR hu ke (refL (M1)) (c3) (refL_len _)) ?_
      rw [refL_map hM]
      rintro v h' ⟨d2, rfl, rfl⟩ hcaps
      refine rH50eF0 ?_
      repeat' (first | (fail_if_success (with_reducible refine xstp ?_)); first | ((with_reducible refine And.intro (fun (hb : _ = true) => ?_) (fun (hb : _ = false) => ?_)) <;> replace hb := xnC hb <;> (try first | exact xfC | exact bff hb (by assumption) | exact bff (by assumption) hb)) | (with_reducible refine Both.mk ?_ ?_) | ((with_reducible refine And.intro ?_ ?_); focus exact xoC) | ((with_reducible refine Or.inl ⟨?_, ?_, ?_⟩); (focus rfl); focus exact xaC) | ((with_reducible refine xwB ?_ ?_); focus exact xaC) | ((with_reducible refine xwC ?_ ?_); focus exact xaC) | ((with_reducible refine xwD ?_ ?_); focus exact xaC) | ((with_reducible refine xwE ?_ ?_); focus exact xaC) | (with_reducible intro hc; (try simp only [capsP, and_true] at hc); (try exact xfC)) | ((fail_if_success (with_reducible first | refine xgon ?_ | intro _)); (conv => whnf); (fail_if_success (fail_if_success (with_reducible first | refine xstp ?_ | refine Both.mk ?_ ?_ | refine xgon ?_ | intro _)))))
      refine xcal (σ := [.whole 10, .whole 11]) (nl := []) (cequal (lst (M1)) (lst (M1)) d1 d2 (by have := lst_len (M1); omega)) ?_
      rintro v h' ⟨rfl, rfl⟩ hcaps
      rw [decide_eq_true rfl]
      refine rH50eF0 ?_
      repeat' (first | (fail_if_success (with_reducible refine xstp ?_)); first | ((with_reducible refine And.intro (fun (hb : _ = true) => ?_) (fun (hb : _ = false) => ?_)) <;> replace hb := xnC hb <;> (try first | exact xfC | exact bff hb (by assumption) | exact bff (by assumption) hb | (exfalso; simp only [List.length_nil] at hb; omega) | (exfalso; revert hb; decide) | (exfalso; simp at hb; done))) | (with_reducible refine Both.mk ?_ ?_) | ((with_reducible refine And.intro ?_ ?_); focus exact xoC) | ((with_reducible refine Or.inl ⟨?_, ?_, ?_⟩); (focus rfl); focus exact xaC) | ((with_reducible refine xwB ?_ ?_); focus exact xaC) | ((with_reducible refine xwC ?_ ?_); focus exact xaC) | ((with_reducible refine xwD ?_ ?_); focus exact xaC) | ((with_reducible refine xwE ?_ ?_); focus exact xaC) | (with_reducible intro hc; (try simp only [capsP, and_true] at hc); (try exact xfC)) | ((fail_if_success (with_reducible first | refine xgon ?_ | intro _)); (conv => whnf); (fail_if_success (fail_if_success (with_reducible first | refine xstp ?_ | refine Both.mk ?_ ?_ | refine xgon ?_ | intro _)))))
      refine xcal (σ := [.whole 1, .whole 2]) (nl := []) (cStale hu ke (ck) (M1) (l.getD i default).t hM) ?_
      rintro v h' ⟨d3, rfl, rfl⟩ hcaps
      refine rH50eF0 ?_
      repeat' (first | (fail_if_success (with_reducible refine xstp ?_)); first | ((with_reducible refine And.intro (fun (hb : _ = true) => ?_) (fun (hb : _ = false) => ?_)) <;> replace hb := xnC hb <;> (try first | exact xfC | exact bff hb (by assumption) | exact bff (by assumption) hb)) | (with_reducible refine Both.mk ?_ ?_) | ((with_reducible refine And.intro ?_ ?_); focus exact xoC) | ((with_reducible refine Or.inl ⟨?_, ?_, ?_⟩); (focus rfl); focus exact xaC) | ((with_reducible refine xwB ?_ ?_); focus exact xaC) | ((with_reducible refine xwC ?_ ?_); focus exact xaC) | ((with_reducible refine xwD ?_ ?_); focus exact xaC) | ((with_reducible refine xwE ?_ ?_); focus exact xaC) | (with_reducible intro hc; (try simp only [capsP, and_true] at hc); (try exact xfC)) | ((fail_if_success (with_reducible first | refine xgon ?_ | intro _)); (conv => whnf); (fail_if_success (fail_if_success (with_reducible first | refine xstp ?_ | refine Both.mk ?_ ?_ | refine xgon ?_ | intro _)))))
      refine xcal (σ := [.whole 3, .whole 7]) (nl := []) (cStaleR hu ke (refL (M1)) (c3) (l.getD i default).t (refL_len _) (refL_t hM)) ?_
      rw [sta_ref hM]
      rintro v h' ⟨d4, rfl, rfl⟩ hcaps
      refine rH50eF0 ?_
      repeat' (first | (fail_if_success (with_reducible refine xstp ?_)); first | ((with_reducible refine And.intro (fun (hb : _ = true) => ?_) (fun (hb : _ = false) => ?_)) <;> replace hb := xnC hb <;> (try first | exact xfC | exact bff hb (by assumption) | exact bff (by assumption) hb)) | (with_reducible refine Both.mk ?_ ?_) | ((with_reducible refine And.intro ?_ ?_); focus exact xoC) | ((with_reducible refine Or.inl ⟨?_, ?_, ?_⟩); (focus rfl); focus exact xaC) | ((with_reducible refine xwB ?_ ?_); focus exact xaC) | ((with_reducible refine xwC ?_ ?_); focus exact xaC) | ((with_reducible refine xwD ?_ ?_); focus exact xaC) | ((with_reducible refine xwE ?_ ?_); focus exact xaC) | (with_reducible intro hc; (try simp only [capsP, and_true] at hc); (try exact xfC)) | ((fail_if_success (with_reducible first | refine xgon ?_ | intro _)); (conv => whnf); (fail_if_success (fail_if_success (with_reducible first | refine xstp ?_ | refine Both.mk ?_ ?_ | refine xgon ?_ | intro _)))))
      refine xcal (σ := [.whole 12, .whole 13]) (nl := []) (cequal (staL ke (M1) (l.getD i default).t) (staL ke (M1) (l.getD i default).t) d3 d4 (by have := lst_len (M1); have := List.length_filter_le (fun x => decide (¬ okT (l.getD i default).t ∨ ke < age (ent (M1) x).t (l.getD i default).t)) (lst (M1)); unfold staL; omega)) ?_
      rintro v h' ⟨rfl, rfl⟩ hcaps
      rw [decide_eq_true rfl]
      refine rH50eF0 ?_
      repeat' (first | (fail_if_success (with_reducible refine xstp ?_)); first | ((with_reducible refine And.intro (fun (hb : _ = true) => ?_) (fun (hb : _ = false) => ?_)) <;> replace hb := xnC hb <;> (try first | exact xfC | exact bff hb (by assumption) | exact bff (by assumption) hb | (exfalso; simp only [List.length_nil] at hb; omega) | (exfalso; revert hb; decide) | (exfalso; simp at hb; done))) | (with_reducible refine Both.mk ?_ ?_) | ((with_reducible refine And.intro ?_ ?_); focus exact xoC) | ((with_reducible refine Or.inl ⟨?_, ?_, ?_⟩); (focus rfl); focus exact xaC) | ((with_reducible refine xwB ?_ ?_); focus exact xaC) | ((with_reducible refine xwC ?_ ?_); focus exact xaC) | ((with_reducible refine xwD ?_ ?_); focus exact xaC) | ((with_reducible refine xwE ?_ ?_); focus exact xaC) | (with_reducible intro hc; (try simp only [capsP, and_true] at hc); (try exact xfC)) | ((fail_if_success (with_reducible first | refine xgon ?_ | intro _)); (conv => whnf); (fail_if_success (fail_if_success (with_reducible first | refine xstp ?_ | refine Both.mk ?_ ?_ | refine xgon ?_ | intro _)))))
      refine ⟨⟨(i + 1, ck, M1, c3), by simp only; omega, hM⟩, [0, 1, 2, 3, 7], by simp only; omega, ?_⟩
      (repeat' first | refine And.intro ?_ ?_ | exact xeC | fail)
    · skip
      refine xcal (σ := [.whole 1, .whole 2]) (nl := []) (cGap hu ke (ck) (M) (l.getD i default).t ⟨(l.getD i default).x, (l.getD i default).y⟩ hM hh2) ?_
      rintro v h' ⟨rfl, rfl⟩ hcaps
      refine rH50eF0 ?_
      repeat' (first | (fail_if_success (with_reducible refine xstp ?_)); first | ((with_reducible refine And.intro (fun (hb : _ = true) => ?_) (fun (hb : _ = false) => ?_)) <;> replace hb := xnC hb <;> (try first | exact xfC | exact bff hb (by assumption) | exact bff (by assumption) hb)) | (with_reducible refine Both.mk ?_ ?_) | ((with_reducible refine And.intro ?_ ?_); focus exact xoC) | ((with_reducible refine Or.inl ⟨?_, ?_, ?_⟩); (focus rfl); focus exact xaC) | ((with_reducible refine xwB ?_ ?_); focus exact xaC) | ((with_reducible refine xwC ?_ ?_); focus exact xaC) | ((with_reducible refine xwD ?_ ?_); focus exact xaC) | ((with_reducible refine xwE ?_ ?_); focus exact xaC) | (with_reducible intro hc; (try simp only [capsP, and_true] at hc); (try exact xfC)) | ((fail_if_success (with_reducible first | refine xgon ?_ | intro _)); (conv => whnf); (fail_if_success (fail_if_success (with_reducible first | refine xstp ?_ | refine Both.mk ?_ ?_ | refine xgon ?_ | intro _)))))
      refine xcal (σ := [.whole 3, .whole 4]) (nl := []) (cGapR hu ke (refL (M)) (c2) (l.getD i default).t ⟨(l.getD i default).x, (l.getD i default).y⟩ (refL_len _) hh2 (refL_t hM) (refL_p hM)) ?_
      rw [gap_ref hM]
      rintro v h' ⟨rfl, rfl⟩ hcaps
      refine rH50eF0 ?_
      repeat' (first | (fail_if_success (with_reducible refine xstp ?_)); first | ((with_reducible refine And.intro (fun (hb : _ = true) => ?_) (fun (hb : _ = false) => ?_)) <;> replace hb := xnC hb <;> (try first | exact xfC | exact bff hb (by assumption) | exact bff (by assumption) hb)) | (with_reducible refine Both.mk ?_ ?_) | ((with_reducible refine And.intro ?_ ?_); focus exact xoC) | ((with_reducible refine Or.inl ⟨?_, ?_, ?_⟩); (focus rfl); focus exact xaC) | ((with_reducible refine xwB ?_ ?_); focus exact xaC) | ((with_reducible refine xwC ?_ ?_); focus exact xaC) | ((with_reducible refine xwD ?_ ?_); focus exact xaC) | ((with_reducible refine xwE ?_ ?_); focus exact xaC) | (with_reducible intro hc; (try simp only [capsP, and_true] at hc); (try exact xfC)) | ((fail_if_success (with_reducible first | refine xgon ?_ | intro _)); (conv => whnf); (fail_if_success (fail_if_success (with_reducible first | refine xstp ?_ | refine Both.mk ?_ ?_ | refine xgon ?_ | intro _)))))
      try rw [hwi]
      refine xcal (σ := [.whole 1, .whole 2]) (nl := []) (cReach hu ke (ck) (M) (l.getD i default).id (l.getD i default).t hM hh2) ?_
      rintro v h' ⟨rfl, rfl⟩ hcaps
      refine rH50eF0 ?_
      repeat' (first | (fail_if_success (with_reducible refine xstp ?_)); first | ((with_reducible refine And.intro (fun (hb : _ = true) => ?_) (fun (hb : _ = false) => ?_)) <;> replace hb := xnC hb <;> (try first | exact xfC | exact bff hb (by assumption) | exact bff (by assumption) hb)) | (with_reducible refine Both.mk ?_ ?_) | ((with_reducible refine And.intro ?_ ?_); focus exact xoC) | ((with_reducible refine Or.inl ⟨?_, ?_, ?_⟩); (focus rfl); focus exact xaC) | ((with_reducible refine xwB ?_ ?_); focus exact xaC) | ((with_reducible refine xwC ?_ ?_); focus exact xaC) | ((with_reducible refine xwD ?_ ?_); focus exact xaC) | ((with_reducible refine xwE ?_ ?_); focus exact xaC) | (with_reducible intro hc; (try simp only [capsP, and_true] at hc); (try exact xfC)) | ((fail_if_success (with_reducible first | refine xgon ?_ | intro _)); (conv => whnf); (fail_if_success (fail_if_success (with_reducible first | refine xstp ?_ | refine Both.mk ?_ ?_ | refine xgon ?_ | intro _)))))
      refine xcal (σ := [.whole 3, .whole 4]) (nl := []) (cReachRR hu ke (refL (M)) (c2) (l.getD i default).id (l.getD i default).t (refL_len _) hh2 (refL_t hM)) ?_
      rw [reaV_ref hM]
      rintro v h' ⟨rfl, rfl⟩ hcaps
      refine rH50eF0 ?_
      repeat' (first | (fail_if_success (with_reducible refine xstp ?_)); first | ((with_reducible refine And.intro (fun (hb : _ = true) => ?_) (fun (hb : _ = false) => ?_)) <;> replace hb := xnC hb <;> (try first | exact xfC | exact bff hb (by assumption) | exact bff (by assumption) hb)) | (with_reducible refine Both.mk ?_ ?_) | ((with_reducible refine And.intro ?_ ?_); focus exact xoC) | ((with_reducible refine Or.inl ⟨?_, ?_, ?_⟩); (focus rfl); focus exact xaC) | ((with_reducible refine xwB ?_ ?_); focus exact xaC) | ((with_reducible refine xwC ?_ ?_); focus exact xaC) | ((with_reducible refine xwD ?_ ?_); focus exact xaC) | ((with_reducible refine xwE ?_ ?_); focus exact xaC) | (with_reducible intro hc; (try simp only [capsP, and_true] at hc); (try exact xfC)) | ((fail_if_success (with_reducible first | refine xgon ?_ | intro _)); (conv => whnf); (fail_if_success (fail_if_success (with_reducible first | refine xstp ?_ | refine Both.mk ?_ ?_ | refine xgon ?_ | intro _)))))
      refine xcal (σ := [.whole 1, .whole 2]) (nl := []) (cListP hu ke (ck) (M) hM) ?_
      rintro v h' ⟨d1, rfl, rfl⟩ hcaps
      refine rH50eF0 ?_
      repeat' (first | (fail_if_success (with_reducible refine xstp ?_)); first | ((with_reducible refine And.intro (fun (hb : _ = true) => ?_) (fun (hb : _ = false) => ?_)) <;> replace hb := xnC hb <;> (try first | exact xfC | exact bff hb (by assumption) | exact bff (by assumption) hb)) | (with_reducible refine Both.mk ?_ ?_) | ((with_reducible refine And.intro ?_ ?_); focus exact xoC) | ((with_reducible refine Or.inl ⟨?_, ?_, ?_⟩); (focus rfl); focus exact xaC) | ((with_reducible refine xwB ?_ ?_); focus exact xaC) | ((with_reducible refine xwC ?_ ?_); focus exact xaC) | ((with_reducible refine xwD ?_ ?_); focus exact xaC) | ((with_reducible refine xwE ?_ ?_); focus exact xaC) | (with_reducible intro hc; (try simp only [capsP, and_true] at hc); (try exact xfC)) | ((fail_if_success (with_reducible first | refine xgon ?_ | intro _)); (conv => whnf); (fail_if_success (fail_if_success (with_reducible first | refine xstp ?_ | refine Both.mk ?_ ?_ | refine xgon ?_ | intro _)))))
      refine xcal (σ := [.whole 3, .whole 4]) (nl := []) (cListR hu ke (refL (M)) (c2) (refL_len _)) ?_
      rw [refL_map hM]
      rintro v h' ⟨d2, rfl, rfl⟩ hcaps
      refine rH50eF0 ?_
      repeat' (first | (fail_if_success (with_reducible refine xstp ?_)); first | ((with_reducible refine And.intro (fun (hb : _ = true) => ?_) (fun (hb : _ = false) => ?_)) <;> replace hb := xnC hb <;> (try first | exact xfC | exact bff hb (by assumption) | exact bff (by assumption) hb)) | (with_reducible refine Both.mk ?_ ?_) | ((with_reducible refine And.intro ?_ ?_); focus exact xoC) | ((with_reducible refine Or.inl ⟨?_, ?_, ?_⟩); (focus rfl); focus exact xaC) | ((with_reducible refine xwB ?_ ?_); focus exact xaC) | ((with_reducible refine xwC ?_ ?_); focus exact xaC) | ((with_reducible refine xwD ?_ ?_); focus exact xaC) | ((with_reducible refine xwE ?_ ?_); focus exact xaC) | (with_reducible intro hc; (try simp only [capsP, and_true] at hc); (try exact xfC)) | ((fail_if_success (with_reducible first | refine xgon ?_ | intro _)); (conv => whnf); (fail_if_success (fail_if_success (with_reducible first | refine xstp ?_ | refine Both.mk ?_ ?_ | refine xgon ?_ | intro _)))))
      refine xcal (σ := [.whole 9, .whole 10]) (nl := []) (cequal (lst (M)) (lst (M)) d1 d2 (by have := lst_len (M); omega)) ?_
      rintro v h' ⟨rfl, rfl⟩ hcaps
      rw [decide_eq_true rfl]
      refine rH50eF0 ?_
      repeat' (first | (fail_if_success (with_reducible refine xstp ?_)); first | ((with_reducible refine And.intro (fun (hb : _ = true) => ?_) (fun (hb : _ = false) => ?_)) <;> replace hb := xnC hb <;> (try first | exact xfC | exact bff hb (by assumption) | exact bff (by assumption) hb | (exfalso; simp only [List.length_nil] at hb; omega) | (exfalso; revert hb; decide) | (exfalso; simp at hb; done))) | (with_reducible refine Both.mk ?_ ?_) | ((with_reducible refine And.intro ?_ ?_); focus exact xoC) | ((with_reducible refine Or.inl ⟨?_, ?_, ?_⟩); (focus rfl); focus exact xaC) | ((with_reducible refine xwB ?_ ?_); focus exact xaC) | ((with_reducible refine xwC ?_ ?_); focus exact xaC) | ((with_reducible refine xwD ?_ ?_); focus exact xaC) | ((with_reducible refine xwE ?_ ?_); focus exact xaC) | (with_reducible intro hc; (try simp only [capsP, and_true] at hc); (try exact xfC)) | ((fail_if_success (with_reducible first | refine xgon ?_ | intro _)); (conv => whnf); (fail_if_success (fail_if_success (with_reducible first | refine xstp ?_ | refine Both.mk ?_ ?_ | refine xgon ?_ | intro _)))))
      refine xcal (σ := [.whole 1, .whole 2]) (nl := []) (cStale hu ke (ck) (M) (l.getD i default).t hM) ?_
      rintro v h' ⟨d3, rfl, rfl⟩ hcaps
      refine rH50eF0 ?_
      repeat' (first | (fail_if_success (with_reducible refine xstp ?_)); first | ((with_reducible refine And.intro (fun (hb : _ = true) => ?_) (fun (hb : _ = false) => ?_)) <;> replace hb := xnC hb <;> (try first | exact xfC | exact bff hb (by assumption) | exact bff (by assumption) hb)) | (with_reducible refine Both.mk ?_ ?_) | ((with_reducible refine And.intro ?_ ?_); focus exact xoC) | ((with_reducible refine Or.inl ⟨?_, ?_, ?_⟩); (focus rfl); focus exact xaC) | ((with_reducible refine xwB ?_ ?_); focus exact xaC) | ((with_reducible refine xwC ?_ ?_); focus exact xaC) | ((with_reducible refine xwD ?_ ?_); focus exact xaC) | ((with_reducible refine xwE ?_ ?_); focus exact xaC) | (with_reducible intro hc; (try simp only [capsP, and_true] at hc); (try exact xfC)) | ((fail_if_success (with_reducible first | refine xgon ?_ | intro _)); (conv => whnf); (fail_if_success (fail_if_success (with_reducible first | refine xstp ?_ | refine Both.mk ?_ ?_ | refine xgon ?_ | intro _)))))
      refine xcal (σ := [.whole 3, .whole 4]) (nl := []) (cStaleR hu ke (refL (M)) (c2) (l.getD i default).t (refL_len _) (refL_t hM)) ?_
      rw [sta_ref hM]
      rintro v h' ⟨d4, rfl, rfl⟩ hcaps
      refine rH50eF0 ?_
      repeat' (first | (fail_if_success (with_reducible refine xstp ?_)); first | ((with_reducible refine And.intro (fun (hb : _ = true) => ?_) (fun (hb : _ = false) => ?_)) <;> replace hb := xnC hb <;> (try first | exact xfC | exact bff hb (by assumption) | exact bff (by assumption) hb)) | (with_reducible refine Both.mk ?_ ?_) | ((with_reducible refine And.intro ?_ ?_); focus exact xoC) | ((with_reducible refine Or.inl ⟨?_, ?_, ?_⟩); (focus rfl); focus exact xaC) | ((with_reducible refine xwB ?_ ?_); focus exact xaC) | ((with_reducible refine xwC ?_ ?_); focus exact xaC) | ((with_reducible refine xwD ?_ ?_); focus exact xaC) | ((with_reducible refine xwE ?_ ?_); focus exact xaC) | (with_reducible intro hc; (try simp only [capsP, and_true] at hc); (try exact xfC)) | ((fail_if_success (with_reducible first | refine xgon ?_ | intro _)); (conv => whnf); (fail_if_success (fail_if_success (with_reducible first | refine xstp ?_ | refine Both.mk ?_ ?_ | refine xgon ?_ | intro _)))))
      refine xcal (σ := [.whole 11, .whole 12]) (nl := []) (cequal (staL ke (M) (l.getD i default).t) (staL ke (M) (l.getD i default).t) d3 d4 (by have := lst_len (M); have := List.length_filter_le (fun x => decide (¬ okT (l.getD i default).t ∨ ke < age (ent (M) x).t (l.getD i default).t)) (lst (M)); unfold staL; omega)) ?_
      rintro v h' ⟨rfl, rfl⟩ hcaps
      rw [decide_eq_true rfl]
      refine rH50eF0 ?_
      repeat' (first | (fail_if_success (with_reducible refine xstp ?_)); first | ((with_reducible refine And.intro (fun (hb : _ = true) => ?_) (fun (hb : _ = false) => ?_)) <;> replace hb := xnC hb <;> (try first | exact xfC | exact bff hb (by assumption) | exact bff (by assumption) hb | (exfalso; simp only [List.length_nil] at hb; omega) | (exfalso; revert hb; decide) | (exfalso; simp at hb; done))) | (with_reducible refine Both.mk ?_ ?_) | ((with_reducible refine And.intro ?_ ?_); focus exact xoC) | ((with_reducible refine Or.inl ⟨?_, ?_, ?_⟩); (focus rfl); focus exact xaC) | ((with_reducible refine xwB ?_ ?_); focus exact xaC) | ((with_reducible refine xwC ?_ ?_); focus exact xaC) | ((with_reducible refine xwD ?_ ?_); focus exact xaC) | ((with_reducible refine xwE ?_ ?_); focus exact xaC) | (with_reducible intro hc; (try simp only [capsP, and_true] at hc); (try exact xfC)) | ((fail_if_success (with_reducible first | refine xgon ?_ | intro _)); (conv => whnf); (fail_if_success (fail_if_success (with_reducible first | refine xstp ?_ | refine Both.mk ?_ ?_ | refine xgon ?_ | intro _)))))
      refine ⟨⟨(i + 1, ck, M, c2), by simp only; omega, hM⟩, [0, 1, 2, 3, 4], by simp only; omega, ?_⟩
      (repeat' first | refine And.intro ?_ ?_ | exact xeC | fail)
    · skip
      refine xcal (σ := [.whole 1, .whole 2]) (nl := []) (cSee hu ke ck M (l.getD i default).id (l.getD i default).t ⟨(l.getD i default).x, (l.getD i default).y⟩ hM.ne) ?_
      have hM1 := see_pok hM (l.getD i default).id (l.getD i default).t ⟨(l.getD i default).x, (l.getD i default).y⟩
      rintro v h' ⟨rfl, rfl⟩ hcaps
      refine rH50eF0 ?_
      repeat' (first | (fail_if_success (with_reducible refine xstp ?_)); first | ((with_reducible refine And.intro (fun (hb : _ = true) => ?_) (fun (hb : _ = false) => ?_)) <;> replace hb := xnC hb <;> (try first | exact xfC | exact bff hb (by assumption) | exact bff (by assumption) hb)) | (with_reducible refine Both.mk ?_ ?_) | ((with_reducible refine And.intro ?_ ?_); focus exact xoC) | ((with_reducible refine Or.inl ⟨?_, ?_, ?_⟩); (focus rfl); focus exact xaC) | ((with_reducible refine xwB ?_ ?_); focus exact xaC) | ((with_reducible refine xwC ?_ ?_); focus exact xaC) | ((with_reducible refine xwD ?_ ?_); focus exact xaC) | ((with_reducible refine xwE ?_ ?_); focus exact xaC) | (with_reducible intro hc; (try simp only [capsP, and_true] at hc); (try exact xfC)) | ((fail_if_success (with_reducible first | refine xgon ?_ | intro _)); (conv => whnf); (fail_if_success (fail_if_success (with_reducible first | refine xstp ?_ | refine Both.mk ?_ ?_ | refine xgon ?_ | intro _)))))
      refine xcal (σ := [.whole 3, .whole 4]) (nl := []) (cSeeR hu ke (refL M) c2 (l.getD i default).id (l.getD i default).t ⟨(l.getD i default).x, (l.getD i default).y⟩ (refL_len M)) ?_
      rw [seeE_ref hM, see_ref hM]
      rintro v h' ⟨c3, rfl, rfl⟩ hcaps
      refine rH50eF0 ?_
      repeat' (first | (fail_if_success (with_reducible refine xstp ?_)); first | ((with_reducible refine And.intro (fun (hb : _ = true) => ?_) (fun (hb : _ = false) => ?_)) <;> replace hb := xnC hb <;> (try first | exact xfC | exact bff hb (by assumption) | exact bff (by assumption) hb)) | (with_reducible refine Both.mk ?_ ?_) | ((with_reducible refine And.intro ?_ ?_); focus exact xoC) | ((with_reducible refine Or.inl ⟨?_, ?_, ?_⟩); (focus rfl); focus exact xaC) | ((with_reducible refine xwB ?_ ?_); focus exact xaC) | ((with_reducible refine xwC ?_ ?_); focus exact xaC) | ((with_reducible refine xwD ?_ ?_); focus exact xaC) | ((with_reducible refine xwE ?_ ?_); focus exact xaC) | (with_reducible intro hc; (try simp only [capsP, and_true] at hc); (try exact xfC)) | ((fail_if_success (with_reducible first | refine xgon ?_ | intro _)); (conv => whnf); (fail_if_success (fail_if_success (with_reducible first | refine xstp ?_ | refine Both.mk ?_ ?_ | refine xgon ?_ | intro _)))))
      generalize (seeM M ck (l.getD i default).id (l.getD i default).t ⟨(l.getD i default).x, (l.getD i default).y⟩).1 = M1 at hM1 ⊢
      generalize (seeM M ck (l.getD i default).id (l.getD i default).t ⟨(l.getD i default).x, (l.getD i default).y⟩).2 = ck1 at hM1 ⊢
      have hM := hM1
      refine xcal (σ := [.whole 1, .whole 2]) (nl := []) (cGap hu ke (ck1) (M1) (l.getD i default).t ⟨(l.getD i default).x, (l.getD i default).y⟩ hM hh2) ?_
      rintro v h' ⟨rfl, rfl⟩ hcaps
      refine rH50eF0 ?_
      repeat' (first | (fail_if_success (with_reducible refine xstp ?_)); first | ((with_reducible refine And.intro (fun (hb : _ = true) => ?_) (fun (hb : _ = false) => ?_)) <;> replace hb := xnC hb <;> (try first | exact xfC | exact bff hb (by assumption) | exact bff (by assumption) hb)) | (with_reducible refine Both.mk ?_ ?_) | ((with_reducible refine And.intro ?_ ?_); focus exact xoC) | ((with_reducible refine Or.inl ⟨?_, ?_, ?_⟩); (focus rfl); focus exact xaC) | ((with_reducible refine xwB ?_ ?_); focus exact xaC) | ((with_reducible refine xwC ?_ ?_); focus exact xaC) | ((with_reducible refine xwD ?_ ?_); focus exact xaC) | ((with_reducible refine xwE ?_ ?_); focus exact xaC) | (with_reducible intro hc; (try simp only [capsP, and_true] at hc); (try exact xfC)) | ((fail_if_success (with_reducible first | refine xgon ?_ | intro _)); (conv => whnf); (fail_if_success (fail_if_success (with_reducible first | refine xstp ?_ | refine Both.mk ?_ ?_ | refine xgon ?_ | intro _)))))
      refine xcal (σ := [.whole 3, .whole 7]) (nl := []) (cGapR hu ke (refL (M1)) (c3) (l.getD i default).t ⟨(l.getD i default).x, (l.getD i default).y⟩ (refL_len _) hh2 (refL_t hM) (refL_p hM)) ?_
      rw [gap_ref hM]
      rintro v h' ⟨rfl, rfl⟩ hcaps
      refine rH50eF0 ?_
      repeat' (first | (fail_if_success (with_reducible refine xstp ?_)); first | ((with_reducible refine And.intro (fun (hb : _ = true) => ?_) (fun (hb : _ = false) => ?_)) <;> replace hb := xnC hb <;> (try first | exact xfC | exact bff hb (by assumption) | exact bff (by assumption) hb)) | (with_reducible refine Both.mk ?_ ?_) | ((with_reducible refine And.intro ?_ ?_); focus exact xoC) | ((with_reducible refine Or.inl ⟨?_, ?_, ?_⟩); (focus rfl); focus exact xaC) | ((with_reducible refine xwB ?_ ?_); focus exact xaC) | ((with_reducible refine xwC ?_ ?_); focus exact xaC) | ((with_reducible refine xwD ?_ ?_); focus exact xaC) | ((with_reducible refine xwE ?_ ?_); focus exact xaC) | (with_reducible intro hc; (try simp only [capsP, and_true] at hc); (try exact xfC)) | ((fail_if_success (with_reducible first | refine xgon ?_ | intro _)); (conv => whnf); (fail_if_success (fail_if_success (with_reducible first | refine xstp ?_ | refine Both.mk ?_ ?_ | refine xgon ?_ | intro _)))))
      try rw [hwi]
      refine xcal (σ := [.whole 1, .whole 2]) (nl := []) (cReach hu ke (ck1) (M1) (l.getD i default).id (l.getD i default).t hM hh2) ?_
      rintro v h' ⟨rfl, rfl⟩ hcaps
      refine rH50eF0 ?_
      repeat' (first | (fail_if_success (with_reducible refine xstp ?_)); first | ((with_reducible refine And.intro (fun (hb : _ = true) => ?_) (fun (hb : _ = false) => ?_)) <;> replace hb := xnC hb <;> (try first | exact xfC | exact bff hb (by assumption) | exact bff (by assumption) hb)) | (with_reducible refine Both.mk ?_ ?_) | ((with_reducible refine And.intro ?_ ?_); focus exact xoC) | ((with_reducible refine Or.inl ⟨?_, ?_, ?_⟩); (focus rfl); focus exact xaC) | ((with_reducible refine xwB ?_ ?_); focus exact xaC) | ((with_reducible refine xwC ?_ ?_); focus exact xaC) | ((with_reducible refine xwD ?_ ?_); focus exact xaC) | ((with_reducible refine xwE ?_ ?_); focus exact xaC) | (with_reducible intro hc; (try simp only [capsP, and_true] at hc); (try exact xfC)) | ((fail_if_success (with_reducible first | refine xgon ?_ | intro _)); (conv => whnf); (fail_if_success (fail_if_success (with_reducible first | refine xstp ?_ | refine Both.mk ?_ ?_ | refine xgon ?_ | intro _)))))
      refine xcal (σ := [.whole 3, .whole 7]) (nl := []) (cReachRR hu ke (refL (M1)) (c3) (l.getD i default).id (l.getD i default).t (refL_len _) hh2 (refL_t hM)) ?_
      rw [reaV_ref hM]
      rintro v h' ⟨rfl, rfl⟩ hcaps
      refine rH50eF0 ?_
      repeat' (first | (fail_if_success (with_reducible refine xstp ?_)); first | ((with_reducible refine And.intro (fun (hb : _ = true) => ?_) (fun (hb : _ = false) => ?_)) <;> replace hb := xnC hb <;> (try first | exact xfC | exact bff hb (by assumption) | exact bff (by assumption) hb)) | (with_reducible refine Both.mk ?_ ?_) | ((with_reducible refine And.intro ?_ ?_); focus exact xoC) | ((with_reducible refine Or.inl ⟨?_, ?_, ?_⟩); (focus rfl); focus exact xaC) | ((with_reducible refine xwB ?_ ?_); focus exact xaC) | ((with_reducible refine xwC ?_ ?_); focus exact xaC) | ((with_reducible refine xwD ?_ ?_); focus exact xaC) | ((with_reducible refine xwE ?_ ?_); focus exact xaC) | (with_reducible intro hc; (try simp only [capsP, and_true] at hc); (try exact xfC)) | ((fail_if_success (with_reducible first | refine xgon ?_ | intro _)); (conv => whnf); (fail_if_success (fail_if_success (with_reducible first | refine xstp ?_ | refine Both.mk ?_ ?_ | refine xgon ?_ | intro _)))))
      refine xcal (σ := [.whole 1, .whole 2]) (nl := []) (cListP hu ke (ck1) (M1) hM) ?_
      rintro v h' ⟨d1, rfl, rfl⟩ hcaps
      refine rH50eF0 ?_
      repeat' (first | (fail_if_success (with_reducible refine xstp ?_)); first | ((with_reducible refine And.intro (fun (hb : _ = true) => ?_) (fun (hb : _ = false) => ?_)) <;> replace hb := xnC hb <;> (try first | exact xfC | exact bff hb (by assumption) | exact bff (by assumption) hb)) | (with_reducible refine Both.mk ?_ ?_) | ((with_reducible refine And.intro ?_ ?_); focus exact xoC) | ((with_reducible refine Or.inl ⟨?_, ?_, ?_⟩); (focus rfl); focus exact xaC) | ((with_reducible refine xwB ?_ ?_); focus exact xaC) | ((with_reducible refine xwC ?_ ?_); focus exact xaC) | ((with_reducible refine xwD ?_ ?_); focus exact xaC) | ((with_reducible refine xwE ?_ ?_); focus exact xaC) | (with_reducible intro hc; (try simp only [capsP, and_true] at hc); (try exact xfC)) | ((fail_if_success (with_reducible first | refine xgon ?_ | intro _)); (conv => whnf); (fail_if_success (fail_if_success (with_reducible first | refine xstp ?_ | refine Both.mk ?_ ?_ | refine xgon ?_ | intro _)))))
      refine xcal (σ := [.whole 3, .whole 7]) (nl := []) (cListR hu ke (refL (M1)) (c3) (refL_len _)) ?_
      rw [refL_map hM]
      rintro v h' ⟨d2, rfl, rfl⟩ hcaps
      refine rH50eF0 ?_
      repeat' (first | (fail_if_success (with_reducible refine xstp ?_)); first | ((with_reducible refine And.intro (fun (hb : _ = true) => ?_) (fun (hb : _ = false) => ?_)) <;> replace hb := xnC hb <;> (try first | exact xfC | exact bff hb (by assumption) | exact bff (by assumption) hb)) | (with_reducible refine Both.mk ?_ ?_) | ((with_reducible refine And.intro ?_ ?_); focus exact xoC) | ((with_reducible refine Or.inl ⟨?_, ?_, ?_⟩); (focus rfl); focus exact xaC) | ((with_reducible refine xwB ?_ ?_); focus exact xaC) | ((with_reducible refine xwC ?_ ?_); focus exact xaC) | ((with_reducible refine xwD ?_ ?_); focus exact xaC) | ((with_reducible refine xwE ?_ ?_); focus exact xaC) | (with_reducible intro hc; (try simp only [capsP, and_true] at hc); (try exact xfC)) | ((fail_if_success (with_reducible first | refine xgon ?_ | intro _)); (conv => whnf); (fail_if_success (fail_if_success (with_reducible first | refine xstp ?_ | refine Both.mk ?_ ?_ | refine xgon ?_ | intro _)))))
      refine xcal (σ := [.whole 10, .whole 11]) (nl := []) (cequal (lst (M1)) (lst (M1)) d1 d2 (by have := lst_len (M1); omega)) ?_
      rintro v h' ⟨rfl, rfl⟩ hcaps
      rw [decide_eq_true rfl]
      refine rH50eF0 ?_
      repeat' (first | (fail_if_success (with_reducible refine xstp ?_)); first | ((with_reducible refine And.intro (fun (hb : _ = true) => ?_) (fun (hb : _ = false) => ?_)) <;> replace hb := xnC hb <;> (try first | exact xfC | exact bff hb (by assumption) | exact bff (by assumption) hb | (exfalso; simp only [List.length_nil] at hb; omega) | (exfalso; revert hb; decide) | (exfalso; simp at hb; done))) | (with_reducible refine Both.mk ?_ ?_) | ((with_reducible refine And.intro ?_ ?_); focus exact xoC) | ((with_reducible refine Or.inl ⟨?_, ?_, ?_⟩); (focus rfl); focus exact xaC) | ((with_reducible refine xwB ?_ ?_); focus exact xaC) | ((with_reducible refine xwC ?_ ?_); focus exact xaC) | ((with_reducible refine xwD ?_ ?_); focus exact xaC) | ((with_reducible refine xwE ?_ ?_); focus exact xaC) | (with_reducible intro hc; (try simp only [capsP, and_true] at hc); (try exact xfC)) | ((fail_if_success (with_reducible first | refine xgon ?_ | intro _)); (conv => whnf); (fail_if_success (fail_if_success (with_reducible first | refine xstp ?_ | refine Both.mk ?_ ?_ | refine xgon ?_ | intro _)))))
      refine xcal (σ := [.whole 1, .whole 2]) (nl := []) (cStale hu ke (ck1) (M1) (l.getD i default).t hM) ?_
      rintro v h' ⟨d3, rfl, rfl⟩ hcaps
      refine rH50eF0 ?_
      repeat' (first | (fail_if_success (with_reducible refine xstp ?_)); first | ((with_reducible refine And.intro (fun (hb : _ = true) => ?_) (fun (hb : _ = false) => ?_)) <;> replace hb := xnC hb <;> (try first | exact xfC | exact bff hb (by assumption) | exact bff (by assumption) hb)) | (with_reducible refine Both.mk ?_ ?_) | ((with_reducible refine And.intro ?_ ?_); focus exact xoC) | ((with_reducible refine Or.inl ⟨?_, ?_, ?_⟩); (focus rfl); focus exact xaC) | ((with_reducible refine xwB ?_ ?_); focus exact xaC) | ((with_reducible refine xwC ?_ ?_); focus exact xaC) | ((with_reducible refine xwD ?_ ?_); focus exact xaC) | ((with_reducible refine xwE ?_ ?_); focus exact xaC) | (with_reducible intro hc; (try simp only [capsP, and_true] at hc); (try exact xfC)) | ((fail_if_success (with_reducible first | refine xgon ?_ | intro _)); (conv => whnf); (fail_if_success (fail_if_success (with_reducible first | refine xstp ?_ | refine Both.mk ?_ ?_ | refine xgon ?_ | intro _)))))
      refine xcal (σ := [.whole 3, .whole 7]) (nl := []) (cStaleR hu ke (refL (M1)) (c3) (l.getD i default).t (refL_len _) (refL_t hM)) ?_
      rw [sta_ref hM]
      rintro v h' ⟨d4, rfl, rfl⟩ hcaps
      refine rH50eF0 ?_
      repeat' (first | (fail_if_success (with_reducible refine xstp ?_)); first | ((with_reducible refine And.intro (fun (hb : _ = true) => ?_) (fun (hb : _ = false) => ?_)) <;> replace hb := xnC hb <;> (try first | exact xfC | exact bff hb (by assumption) | exact bff (by assumption) hb)) | (with_reducible refine Both.mk ?_ ?_) | ((with_reducible refine And.intro ?_ ?_); focus exact xoC) | ((with_reducible refine Or.inl ⟨?_, ?_, ?_⟩); (focus rfl); focus exact xaC) | ((with_reducible refine xwB ?_ ?_); focus exact xaC) | ((with_reducible refine xwC ?_ ?_); focus exact xaC) | ((with_reducible refine xwD ?_ ?_); focus exact xaC) | ((with_reducible refine xwE ?_ ?_); focus exact xaC) | (with_reducible intro hc; (try simp only [capsP, and_true] at hc); (try exact xfC)) | ((fail_if_success (with_reducible first | refine xgon ?_ | intro _)); (conv => whnf); (fail_if_success (fail_if_success (with_reducible first | refine xstp ?_ | refine Both.mk ?_ ?_ | refine xgon ?_ | intro _)))))
      refine xcal (σ := [.whole 12, .whole 13]) (nl := []) (cequal (staL ke (M1) (l.getD i default).t) (staL ke (M1) (l.getD i default).t) d3 d4 (by have := lst_len (M1); have := List.length_filter_le (fun x => decide (¬ okT (l.getD i default).t ∨ ke < age (ent (M1) x).t (l.getD i default).t)) (lst (M1)); unfold staL; omega)) ?_
      rintro v h' ⟨rfl, rfl⟩ hcaps
      rw [decide_eq_true rfl]
      refine rH50eF0 ?_
      repeat' (first | (fail_if_success (with_reducible refine xstp ?_)); first | ((with_reducible refine And.intro (fun (hb : _ = true) => ?_) (fun (hb : _ = false) => ?_)) <;> replace hb := xnC hb <;> (try first | exact xfC | exact bff hb (by assumption) | exact bff (by assumption) hb | (exfalso; simp only [List.length_nil] at hb; omega) | (exfalso; revert hb; decide) | (exfalso; simp at hb; done))) | (with_reducible refine Both.mk ?_ ?_) | ((with_reducible refine And.intro ?_ ?_); focus exact xoC) | ((with_reducible refine Or.inl ⟨?_, ?_, ?_⟩); (focus rfl); focus exact xaC) | ((with_reducible refine xwB ?_ ?_); focus exact xaC) | ((with_reducible refine xwC ?_ ?_); focus exact xaC) | ((with_reducible refine xwD ?_ ?_); focus exact xaC) | ((with_reducible refine xwE ?_ ?_); focus exact xaC) | (with_reducible intro hc; (try simp only [capsP, and_true] at hc); (try exact xfC)) | ((fail_if_success (with_reducible first | refine xgon ?_ | intro _)); (conv => whnf); (fail_if_success (fail_if_success (with_reducible first | refine xstp ?_ | refine Both.mk ?_ ?_ | refine xgon ?_ | intro _)))))
      refine ⟨⟨(i + 1, ck1, M1, c3), by simp only; omega, hM⟩, [0, 1, 2, 3, 7], by simp only; omega, ?_⟩
      (repeat' first | refine And.intro ?_ ?_ | exact xeC | fail)
    · skip
      refine xcal (σ := [.whole 1, .whole 2]) (nl := []) (cLeave hu ke ck M (l.getD i default).id (l.getD i default).t hM) ?_
      have hM1 := lea_pok hM (l.getD i default).id (l.getD i default).t
      rintro v h' ⟨rfl, rfl⟩ hcaps
      refine rH50eF0 ?_
      repeat' (first | (fail_if_success (with_reducible refine xstp ?_)); first | ((with_reducible refine And.intro (fun (hb : _ = true) => ?_) (fun (hb : _ = false) => ?_)) <;> replace hb := xnC hb <;> (try first | exact xfC | exact bff hb (by assumption) | exact bff (by assumption) hb)) | (with_reducible refine Both.mk ?_ ?_) | ((with_reducible refine And.intro ?_ ?_); focus exact xoC) | ((with_reducible refine Or.inl ⟨?_, ?_, ?_⟩); (focus rfl); focus exact xaC) | ((with_reducible refine xwB ?_ ?_); focus exact xaC) | ((with_reducible refine xwC ?_ ?_); focus exact xaC) | ((with_reducible refine xwD ?_ ?_); focus exact xaC) | ((with_reducible refine xwE ?_ ?_); focus exact xaC) | (with_reducible intro hc; (try simp only [capsP, and_true] at hc); (try exact xfC)) | ((fail_if_success (with_reducible first | refine xgon ?_ | intro _)); (conv => whnf); (fail_if_success (fail_if_success (with_reducible first | refine xstp ?_ | refine Both.mk ?_ ?_ | refine xgon ?_ | intro _)))))
      refine xcal (σ := [.whole 3, .whole 4]) (nl := []) (cLeaveR hu ke (refL M) c2 (l.getD i default).id (l.getD i default).t (refL_len M)) ?_
      rw [leaE_ref hM, lea_ref hM]
      rintro v h' ⟨c3, rfl, rfl⟩ hcaps
      refine rH50eF0 ?_
      repeat' (first | (fail_if_success (with_reducible refine xstp ?_)); first | ((with_reducible refine And.intro (fun (hb : _ = true) => ?_) (fun (hb : _ = false) => ?_)) <;> replace hb := xnC hb <;> (try first | exact xfC | exact bff hb (by assumption) | exact bff (by assumption) hb)) | (with_reducible refine Both.mk ?_ ?_) | ((with_reducible refine And.intro ?_ ?_); focus exact xoC) | ((with_reducible refine Or.inl ⟨?_, ?_, ?_⟩); (focus rfl); focus exact xaC) | ((with_reducible refine xwB ?_ ?_); focus exact xaC) | ((with_reducible refine xwC ?_ ?_); focus exact xaC) | ((with_reducible refine xwD ?_ ?_); focus exact xaC) | ((with_reducible refine xwE ?_ ?_); focus exact xaC) | (with_reducible intro hc; (try simp only [capsP, and_true] at hc); (try exact xfC)) | ((fail_if_success (with_reducible first | refine xgon ?_ | intro _)); (conv => whnf); (fail_if_success (fail_if_success (with_reducible first | refine xstp ?_ | refine Both.mk ?_ ?_ | refine xgon ?_ | intro _)))))
      generalize leaM M (l.getD i default).id (l.getD i default).t = M1 at hM1 ⊢
      have hM := hM1
      refine xcal (σ := [.whole 1, .whole 2]) (nl := []) (cGap hu ke (ck) (M1) (l.getD i default).t ⟨(l.getD i default).x, (l.getD i default).y⟩ hM hh2) ?_
      rintro v h' ⟨rfl, rfl⟩ hcaps
      refine rH50eF0 ?_
      repeat' (first | (fail_if_success (with_reducible refine xstp ?_)); first | ((with_reducible refine And.intro (fun (hb : _ = true) => ?_) (fun (hb : _ = false) => ?_)) <;> replace hb := xnC hb <;> (try first | exact xfC | exact bff hb (by assumption) | exact bff (by assumption) hb)) | (with_reducible refine Both.mk ?_ ?_) | ((with_reducible refine And.intro ?_ ?_); focus exact xoC) | ((with_reducible refine Or.inl ⟨?_, ?_, ?_⟩); (focus rfl); focus exact xaC) | ((with_reducible refine xwB ?_ ?_); focus exact xaC) | ((with_reducible refine xwC ?_ ?_); focus exact xaC) | ((with_reducible refine xwD ?_ ?_); focus exact xaC) | ((with_reducible refine xwE ?_ ?_); focus exact xaC) | (with_reducible intro hc; (try simp only [capsP, and_true] at hc); (try exact xfC)) | ((fail_if_success (with_reducible first | refine xgon ?_ | intro _)); (conv => whnf); (fail_if_success (fail_if_success (with_reducible first | refine xstp ?_ | refine Both.mk ?_ ?_ | refine xgon ?_ | intro _)))))
      refine xcal (σ := [.whole 3, .whole 7]) (nl := []) (cGapR hu ke (refL (M1)) (c3) (l.getD i default).t ⟨(l.getD i default).x, (l.getD i default).y⟩ (refL_len _) hh2 (refL_t hM) (refL_p hM)) ?_
      rw [gap_ref hM]
      rintro v h' ⟨rfl, rfl⟩ hcaps
      refine rH50eF0 ?_
      repeat' (first | (fail_if_success (with_reducible refine xstp ?_)); first | ((with_reducible refine And.intro (fun (hb : _ = true) => ?_) (fun (hb : _ = false) => ?_)) <;> replace hb := xnC hb <;> (try first | exact xfC | exact bff hb (by assumption) | exact bff (by assumption) hb)) | (with_reducible refine Both.mk ?_ ?_) | ((with_reducible refine And.intro ?_ ?_); focus exact xoC) | ((with_reducible refine Or.inl ⟨?_, ?_, ?_⟩); (focus rfl); focus exact xaC) | ((with_reducible refine xwB ?_ ?_); focus exact xaC) | ((with_reducible refine xwC ?_ ?_); focus exact xaC) | ((with_reducible refine xwD ?_ ?_); focus exact xaC) | ((with_reducible refine xwE ?_ ?_); focus exact xaC) | (with_reducible intro hc; (try simp only [capsP, and_true] at hc); (try exact xfC)) | ((fail_if_success (with_reducible first | refine xgon ?_ | intro _)); (conv => whnf); (fail_if_success (fail_if_success (with_reducible first | refine xstp ?_ | refine Both.mk ?_ ?_ | refine xgon ?_ | intro _)))))
      try rw [hwi]
      refine xcal (σ := [.whole 1, .whole 2]) (nl := []) (cReach hu ke (ck) (M1) (l.getD i default).id (l.getD i default).t hM hh2) ?_
      rintro v h' ⟨rfl, rfl⟩ hcaps
      refine rH50eF0 ?_
      repeat' (first | (fail_if_success (with_reducible refine xstp ?_)); first | ((with_reducible refine And.intro (fun (hb : _ = true) => ?_) (fun (hb : _ = false) => ?_)) <;> replace hb := xnC hb <;> (try first | exact xfC | exact bff hb (by assumption) | exact bff (by assumption) hb)) | (with_reducible refine Both.mk ?_ ?_) | ((with_reducible refine And.intro ?_ ?_); focus exact xoC) | ((with_reducible refine Or.inl ⟨?_, ?_, ?_⟩); (focus rfl); focus exact xaC) | ((with_reducible refine xwB ?_ ?_); focus exact xaC) | ((with_reducible refine xwC ?_ ?_); focus exact xaC) | ((with_reducible refine xwD ?_ ?_); focus exact xaC) | ((with_reducible refine xwE ?_ ?_); focus exact xaC) | (with_reducible intro hc; (try simp only [capsP, and_true] at hc); (try exact xfC)) | ((fail_if_success (with_reducible first | refine xgon ?_ | intro _)); (conv => whnf); (fail_if_success (fail_if_success (with_reducible first | refine xstp ?_ | refine Both.mk ?_ ?_ | refine xgon ?_ | intro _)))))
      refine xcal (σ := [.whole 3, .whole 7]) (nl := []) (cReachRR hu ke (refL (M1)) (c3) (l.getD i default).id (l.getD i default).t (refL_len _) hh2 (refL_t hM)) ?_
      rw [reaV_ref hM]
      rintro v h' ⟨rfl, rfl⟩ hcaps
      refine rH50eF0 ?_
      repeat' (first | (fail_if_success (with_reducible refine xstp ?_)); first | ((with_reducible refine And.intro (fun (hb : _ = true) => ?_) (fun (hb : _ = false) => ?_)) <;> replace hb := xnC hb <;> (try first | exact xfC | exact bff hb (by assumption) | exact bff (by assumption) hb)) | (with_reducible refine Both.mk ?_ ?_) | ((with_reducible refine And.intro ?_ ?_); focus exact xoC) | ((with_reducible refine Or.inl ⟨?_, ?_, ?_⟩); (focus rfl); focus exact xaC) | ((with_reducible refine xwB ?_ ?_); focus exact xaC) | ((with_reducible refine xwC ?_ ?_); focus exact xaC) | ((with_reducible refine xwD ?_ ?_); focus exact xaC) | ((with_reducible refine xwE ?_ ?_); focus exact xaC) | (with_reducible intro hc; (try simp only [capsP, and_true] at hc); (try exact xfC)) | ((fail_if_success (with_reducible first | refine xgon ?_ | intro _)); (conv => whnf); (fail_if_success (fail_if_success (with_reducible first | refine xstp ?_ | refine Both.mk ?_ ?_ | refine xgon ?_ | intro _)))))
      refine xcal (σ := [.whole 1, .whole 2]) (nl := []) (cListP hu ke (ck) (M1) hM) ?_
      rintro v h' ⟨d1, rfl, rfl⟩ hcaps
      refine rH50eF0 ?_
      repeat' (first | (fail_if_success (with_reducible refine xstp ?_)); first | ((with_reducible refine And.intro (fun (hb : _ = true) => ?_) (fun (hb : _ = false) => ?_)) <;> replace hb := xnC hb <;> (try first | exact xfC | exact bff hb (by assumption) | exact bff (by assumption) hb)) | (with_reducible refine Both.mk ?_ ?_) | ((with_reducible refine And.intro ?_ ?_); focus exact xoC) | ((with_reducible refine Or.inl ⟨?_, ?_, ?_⟩); (focus rfl); focus exact xaC) | ((with_reducible refine xwB ?_ ?_); focus exact xaC) | ((with_reducible refine xwC ?_ ?_); focus exact xaC) | ((with_reducible refine xwD ?_ ?_); focus exact xaC) | ((with_reducible refine xwE ?_ ?_); focus exact xaC) | (with_reducible intro hc; (try simp only [capsP, and_true] at hc); (try exact xfC)) | ((fail_if_success (with_reducible first | refine xgon ?_ | intro _)); (conv => whnf); (fail_if_success (fail_if_success (with_reducible first | refine xstp ?_ | refine Both.mk ?_ ?_ | refine xgon ?_ | intro _)))))
      refine xcal (σ := [.whole 3, .whole 7]) (nl := []) (cListR hu ke (refL (M1)) (c3) (refL_len _)) ?_
      rw [refL_map hM]
      rintro v h' ⟨d2, rfl, rfl⟩ hcaps
      refine rH50eF0 ?_
      repeat' (first | (fail_if_success (with_reducible refine xstp ?_)); first | ((with_reducible refine And.intro (fun (hb : _ = true) => ?_) (fun (hb : _ = false) => ?_)) <;> replace hb := xnC hb <;> (try first | exact xfC | exact bff hb (by assumption) | exact bff (by assumption) hb)) | (with_reducible refine Both.mk ?_ ?_) | ((with_reducible refine And.intro ?_ ?_); focus exact xoC) | ((with_reducible refine Or.inl ⟨?_, ?_, ?_⟩); (focus rfl); focus exact xaC) | ((with_reducible refine xwB ?_ ?_); focus exact xaC) | ((with_reducible refine xwC ?_ ?_); focus exact xaC) | ((with_reducible refine xwD ?_ ?_); focus exact xaC) | ((with_reducible refine xwE ?_ ?_); focus exact xaC) | (with_reducible intro hc; (try simp only [capsP, and_true] at hc); (try exact xfC)) | ((fail_if_success (with_reducible first | refine xgon ?_ | intro _)); (conv => whnf); (fail_if_success (fail_if_success (with_reducible first | refine xstp ?_ | refine Both.mk ?_ ?_ | refine xgon ?_ | intro _)))))
      refine xcal (σ := [.whole 10, .whole 11]) (nl := []) (cequal (lst (M1)) (lst (M1)) d1 d2 (by have := lst_len (M1); omega)) ?_
      rintro v h' ⟨rfl, rfl⟩ hcaps
      rw [decide_eq_true rfl]
      refine rH50eF0 ?_
      repeat' (first | (fail_if_success (with_reducible refine xstp ?_)); first | ((with_reducible refine And.intro (fun (hb : _ = true) => ?_) (fun (hb : _ = false) => ?_)) <;> replace hb := xnC hb <;> (try first | exact xfC | exact bff hb (by assumption) | exact bff (by assumption) hb | (exfalso; simp only [List.length_nil] at hb; omega) | (exfalso; revert hb; decide) | (exfalso; simp at hb; done))) | (with_reducible refine Both.mk ?_ ?_) | ((with_reducible refine And.intro ?_ ?_); focus exact xoC) | ((with_reducible refine Or.inl ⟨?_, ?_, ?_⟩); (focus rfl); focus exact xaC) | ((with_reducible refine xwB ?_ ?_); focus exact xaC) | ((with_reducible refine xwC ?_ ?_); focus exact xaC) | ((with_reducible refine xwD ?_ ?_); focus exact xaC) | ((with_reducible refine xwE ?_ ?_); focus exact xaC) | (with_reducible intro hc; (try simp only [capsP, and_true] at hc); (try exact xfC)) | ((fail_if_success (with_reducible first | refine xgon ?_ | intro _)); (conv => whnf); (fail_if_success (fail_if_success (with_reducible first | refine xstp ?_ | refine Both.mk ?_ ?_ | refine xgon ?_ | intro _)))))
      refine xcal (σ := [.whole 1, .whole 2]) (nl := []) (cStale hu ke (ck) (M1) (l.getD i default).t hM) ?_
      rintro v h' ⟨d3, rfl, rfl⟩ hcaps
      refine rH50eF0 ?_
      repeat' (first | (fail_if_success (with_reducible refine xstp ?_)); first | ((with_reducible refine And.intro (fun (hb : _ = true) => ?_) (fun (hb : _ = false) => ?_)) <;> replace hb := xnC hb <;> (try first | exact xfC | exact bff hb (by assumption) | exact bff (by assumption) hb)) | (with_reducible refine Both.mk ?_ ?_) | ((with_reducible refine And.intro ?_ ?_); focus exact xoC) | ((with_reducible refine Or.inl ⟨?_, ?_, ?_⟩); (focus rfl); focus exact xaC) | ((with_reducible refine xwB ?_ ?_); focus exact xaC) | ((with_reducible refine xwC ?_ ?_); focus exact xaC) | ((with_reducible refine xwD ?_ ?_); focus exact xaC) | ((with_reducible refine xwE ?_ ?_); focus exact xaC) | (with_reducible intro hc; (try simp only [capsP, and_true] at hc); (try exact xfC)) | ((fail_if_success (with_reducible first | refine xgon ?_ | intro _)); (conv => whnf); (fail_if_success (fail_if_success (with_reducible first | refine xstp ?_ | refine Both.mk ?_ ?_ | refine xgon ?_ | intro _)))))
      refine xcal (σ := [.whole 3, .whole 7]) (nl := []) (cStaleR hu ke (refL (M1)) (c3) (l.getD i default).t (refL_len _) (refL_t hM)) ?_
      rw [sta_ref hM]
      rintro v h' ⟨d4, rfl, rfl⟩ hcaps
      refine rH50eF0 ?_
      repeat' (first | (fail_if_success (with_reducible refine xstp ?_)); first | ((with_reducible refine And.intro (fun (hb : _ = true) => ?_) (fun (hb : _ = false) => ?_)) <;> replace hb := xnC hb <;> (try first | exact xfC | exact bff hb (by assumption) | exact bff (by assumption) hb)) | (with_reducible refine Both.mk ?_ ?_) | ((with_reducible refine And.intro ?_ ?_); focus exact xoC) | ((with_reducible refine Or.inl ⟨?_, ?_, ?_⟩); (focus rfl); focus exact xaC) | ((with_reducible refine xwB ?_ ?_); focus exact xaC) | ((with_reducible refine xwC ?_ ?_); focus exact xaC) | ((with_reducible refine xwD ?_ ?_); focus exact xaC) | ((with_reducible refine xwE ?_ ?_); focus exact xaC) | (with_reducible intro hc; (try simp only [capsP, and_true] at hc); (try exact xfC)) | ((fail_if_success (with_reducible first | refine xgon ?_ | intro _)); (conv => whnf); (fail_if_success (fail_if_success (with_reducible first | refine xstp ?_ | refine Both.mk ?_ ?_ | refine xgon ?_ | intro _)))))
      refine xcal (σ := [.whole 12, .whole 13]) (nl := []) (cequal (staL ke (M1) (l.getD i default).t) (staL ke (M1) (l.getD i default).t) d3 d4 (by have := lst_len (M1); have := List.length_filter_le (fun x => decide (¬ okT (l.getD i default).t ∨ ke < age (ent (M1) x).t (l.getD i default).t)) (lst (M1)); unfold staL; omega)) ?_
      rintro v h' ⟨rfl, rfl⟩ hcaps
      rw [decide_eq_true rfl]
      refine rH50eF0 ?_
      repeat' (first | (fail_if_success (with_reducible refine xstp ?_)); first | ((with_reducible refine And.intro (fun (hb : _ = true) => ?_) (fun (hb : _ = false) => ?_)) <;> replace hb := xnC hb <;> (try first | exact xfC | exact bff hb (by assumption) | exact bff (by assumption) hb | (exfalso; simp only [List.length_nil] at hb; omega) | (exfalso; revert hb; decide) | (exfalso; simp at hb; done))) | (with_reducible refine Both.mk ?_ ?_) | ((with_reducible refine And.intro ?_ ?_); focus exact xoC) | ((with_reducible refine Or.inl ⟨?_, ?_, ?_⟩); (focus rfl); focus exact xaC) | ((with_reducible refine xwB ?_ ?_); focus exact xaC) | ((with_reducible refine xwC ?_ ?_); focus exact xaC) | ((with_reducible refine xwD ?_ ?_); focus exact xaC) | ((with_reducible refine xwE ?_ ?_); focus exact xaC) | (with_reducible intro hc; (try simp only [capsP, and_true] at hc); (try exact xfC)) | ((fail_if_success (with_reducible first | refine xgon ?_ | intro _)); (conv => whnf); (fail_if_success (fail_if_success (with_reducible first | refine xstp ?_ | refine Both.mk ?_ ?_ | refine xgon ?_ | intro _)))))
      refine ⟨⟨(i + 1, ck, M1, c3), by simp only; omega, hM⟩, [0, 1, 2, 3, 7], by simp only; omega, ?_⟩
      (repeat' first | refine And.intro ?_ ?_ | exact xeC | fail)
    · skip
      refine xcal (σ := [.whole 1, .whole 2]) (nl := []) (cGap hu ke (ck) (M) (l.getD i default).t ⟨(l.getD i default).x, (l.getD i default).y⟩ hM hh2) ?_
      rintro v h' ⟨rfl, rfl⟩ hcaps
      refine rH50eF0 ?_
      repeat' (first | (fail_if_success (with_reducible refine xstp ?_)); first | ((with_reducible refine And.intro (fun (hb : _ = true) => ?_) (fun (hb : _ = false) => ?_)) <;> replace hb := xnC hb <;> (try first | exact xfC | exact bff hb (by assumption) | exact bff (by assumption) hb)) | (with_reducible refine Both.mk ?_ ?_) | ((with_reducible refine And.intro ?_ ?_); focus exact xoC) | ((with_reducible refine Or.inl ⟨?_, ?_, ?_⟩); (focus rfl); focus exact xaC) | ((with_reducible refine xwB ?_ ?_); focus exact xaC) | ((with_reducible refine xwC ?_ ?_); focus exact xaC) | ((with_reducible refine xwD ?_ ?_); focus exact xaC) | ((with_reducible refine xwE ?_ ?_); focus exact xaC) | (with_reducible intro hc; (try simp only [capsP, and_true] at hc); (try exact xfC)) | ((fail_if_success (with_reducible first | refine xgon ?_ | intro _)); (conv => whnf); (fail_if_success (fail_if_success (with_reducible first | refine xstp ?_ | refine Both.mk ?_ ?_ | refine xgon ?_ | intro _)))))
      refine xcal (σ := [.whole 3, .whole 4]) (nl := []) (cGapR hu ke (refL (M)) (c2) (l.getD i default).t ⟨(l.getD i default).x, (l.getD i default).y⟩ (refL_len _) hh2 (refL_t hM) (refL_p hM)) ?_
      rw [gap_ref hM]
      rintro v h' ⟨rfl, rfl⟩ hcaps
      refine rH50eF0 ?_
      repeat' (first | (fail_if_success (with_reducible refine xstp ?_)); first | ((with_reducible refine And.intro (fun (hb : _ = true) => ?_) (fun (hb : _ = false) => ?_)) <;> replace hb := xnC hb <;> (try first | exact xfC | exact bff hb (by assumption) | exact bff (by assumption) hb)) | (with_reducible refine Both.mk ?_ ?_) | ((with_reducible refine And.intro ?_ ?_); focus exact xoC) | ((with_reducible refine Or.inl ⟨?_, ?_, ?_⟩); (focus rfl); focus exact xaC) | ((with_reducible refine xwB ?_ ?_); focus exact xaC) | ((with_reducible refine xwC ?_ ?_); focus exact xaC) | ((with_reducible refine xwD ?_ ?_); focus exact xaC) | ((with_reducible refine xwE ?_ ?_); focus exact xaC) | (with_reducible intro hc; (try simp only [capsP, and_true] at hc); (try exact xfC)) | ((fail_if_success (with_reducible first | refine xgon ?_ | intro _)); (conv => whnf); (fail_if_success (fail_if_success (with_reducible first | refine xstp ?_ | refine Both.mk ?_ ?_ | refine xgon ?_ | intro _)))))
      try rw [hwi]
      refine xcal (σ := [.whole 1, .whole 2]) (nl := []) (cReach hu ke (ck) (M) (l.getD i default).id (l.getD i default).t hM hh2) ?_
      rintro v h' ⟨rfl, rfl⟩ hcaps
      refine rH50eF0 ?_
      repeat' (first | (fail_if_success (with_reducible refine xstp ?_)); first | ((with_reducible refine And.intro (fun (hb : _ = true) => ?_) (fun (hb : _ = false) => ?_)) <;> replace hb := xnC hb <;> (try first | exact xfC | exact bff hb (by assumption) | exact bff (by assumption) hb)) | (with_reducible refine Both.mk ?_ ?_) | ((with_reducible refine And.intro ?_ ?_); focus exact xoC) | ((with_reducible refine Or.inl ⟨?_, ?_, ?_⟩); (focus rfl); focus exact xaC) | ((with_reducible refine xwB ?_ ?_); focus exact xaC) | ((with_reducible refine xwC ?_ ?_); focus exact xaC) | ((with_reducible refine xwD ?_ ?_); focus exact xaC) | ((with_reducible refine xwE ?_ ?_); focus exact xaC) | (with_reducible intro hc; (try simp only [capsP, and_true] at hc); (try exact xfC)) | ((fail_if_success (with_reducible first | refine xgon ?_ | intro _)); (conv => whnf); (fail_if_success (fail_if_success (with_reducible first | refine xstp ?_ | refine Both.mk ?_ ?_ | refine xgon ?_ | intro _)))))
      refine xcal (σ := [.whole 3, .whole 4]) (nl := []) (cReachRR hu ke (refL (M)) (c2) (l.getD i default).id (l.getD i default).t (refL_len _) hh2 (refL_t hM)) ?_
      rw [reaV_ref hM]
      rintro v h' ⟨rfl, rfl⟩ hcaps
      refine rH50eF0 ?_
      repeat' (first | (fail_if_success (with_reducible refine xstp ?_)); first | ((with_reducible refine And.intro (fun (hb : _ = true) => ?_) (fun (hb : _ = false) => ?_)) <;> replace hb := xnC hb <;> (try first | exact xfC | exact bff hb (by assumption) | exact bff (by assumption) hb)) | (with_reducible refine Both.mk ?_ ?_) | ((with_reducible refine And.intro ?_ ?_); focus exact xoC) | ((with_reducible refine Or.inl ⟨?_, ?_, ?_⟩); (focus rfl); focus exact xaC) | ((with_reducible refine xwB ?_ ?_); focus exact xaC) | ((with_reducible refine xwC ?_ ?_); focus exact xaC) | ((with_reducible refine xwD ?_ ?_); focus exact xaC) | ((with_reducible refine xwE ?_ ?_); focus exact xaC) | (with_reducible intro hc; (try simp only [capsP, and_true] at hc); (try exact xfC)) | ((fail_if_success (with_reducible first | refine xgon ?_ | intro _)); (conv => whnf); (fail_if_success (fail_if_success (with_reducible first | refine xstp ?_ | refine Both.mk ?_ ?_ | refine xgon ?_ | intro _)))))
      refine xcal (σ := [.whole 1, .whole 2]) (nl := []) (cListP hu ke (ck) (M) hM) ?_
      rintro v h' ⟨d1, rfl, rfl⟩ hcaps
      refine rH50eF0 ?_
      repeat' (first | (fail_if_success (with_reducible refine xstp ?_)); first | ((with_reducible refine And.intro (fun (hb : _ = true) => ?_) (fun (hb : _ = false) => ?_)) <;> replace hb := xnC hb <;> (try first | exact xfC | exact bff hb (by assumption) | exact bff (by assumption) hb)) | (with_reducible refine Both.mk ?_ ?_) | ((with_reducible refine And.intro ?_ ?_); focus exact xoC) | ((with_reducible refine Or.inl ⟨?_, ?_, ?_⟩); (focus rfl); focus exact xaC) | ((with_reducible refine xwB ?_ ?_); focus exact xaC) | ((with_reducible refine xwC ?_ ?_); focus exact xaC) | ((with_reducible refine xwD ?_ ?_); focus exact xaC) | ((with_reducible refine xwE ?_ ?_); focus exact xaC) | (with_reducible intro hc; (try simp only [capsP, and_true] at hc); (try exact xfC)) | ((fail_if_success (with_reducible first | refine xgon ?_ | intro _)); (conv => whnf); (fail_if_success (fail_if_success (with_reducible first | refine xstp ?_ | refine Both.mk ?_ ?_ | refine xgon ?_ | intro _)))))
      refine xcal (σ := [.whole 3, .whole 4]) (nl := []) (cListR hu ke (refL (M)) (c2) (refL_len _)) ?_
      rw [refL_map hM]
      rintro v h' ⟨d2, rfl, rfl⟩ hcaps
      refine rH50eF0 ?_
      repeat' (first | (fail_if_success (with_reducible refine xstp ?_)); first | ((with_reducible refine And.intro (fun (hb : _ = true) => ?_) (fun (hb : _ = false) => ?_)) <;> replace hb := xnC hb <;> (try first | exact xfC | exact bff hb (by assumption) | exact bff (by assumption) hb)) | (with_reducible refine Both.mk ?_ ?_) | ((with_reducible refine And.intro ?_ ?_); focus exact xoC) | ((with_reducible refine Or.inl ⟨?_, ?_, ?_⟩); (focus rfl); focus exact xaC) | ((with_reducible refine xwB ?_ ?_); focus exact xaC) | ((with_reducible refine xwC ?_ ?_); focus exact xaC) | ((with_reducible refine xwD ?_ ?_); focus exact xaC) | ((with_reducible refine xwE ?_ ?_); focus exact xaC) | (with_reducible intro hc; (try simp only [capsP, and_true] at hc); (try exact xfC)) | ((fail_if_success (with_reducible first | refine xgon ?_ | intro _)); (conv => whnf); (fail_if_success (fail_if_success (with_reducible first | refine xstp ?_ | refine Both.mk ?_ ?_ | refine xgon ?_ | intro _)))))
      refine xcal (σ := [.whole 9, .whole 10]) (nl := []) (cequal (lst (M)) (lst (M)) d1 d2 (by have := lst_len (M); omega)) ?_
      rintro v h' ⟨rfl, rfl⟩ hcaps
      rw [decide_eq_true rfl]
      refine rH50eF0 ?_
      repeat' (first | (fail_if_success (with_reducible refine xstp ?_)); first | ((with_reducible refine And.intro (fun (hb : _ = true) => ?_) (fun (hb : _ = false) => ?_)) <;> replace hb := xnC hb <;> (try first | exact xfC | exact bff hb (by assumption) | exact bff (by assumption) hb | (exfalso; simp only [List.length_nil] at hb; omega) | (exfalso; revert hb; decide) | (exfalso; simp at hb; done))) | (with_reducible refine Both.mk ?_ ?_) | ((with_reducible refine And.intro ?_ ?_); focus exact xoC) | ((with_reducible refine Or.inl ⟨?_, ?_, ?_⟩); (focus rfl); focus exact xaC) | ((with_reducible refine xwB ?_ ?_); focus exact xaC) | ((with_reducible refine xwC ?_ ?_); focus exact xaC) | ((with_reducible refine xwD ?_ ?_); focus exact xaC) | ((with_reducible refine xwE ?_ ?_); focus exact xaC) | (with_reducible intro hc; (try simp only [capsP, and_true] at hc); (try exact xfC)) | ((fail_if_success (with_reducible first | refine xgon ?_ | intro _)); (conv => whnf); (fail_if_success (fail_if_success (with_reducible first | refine xstp ?_ | refine Both.mk ?_ ?_ | refine xgon ?_ | intro _)))))
      refine xcal (σ := [.whole 1, .whole 2]) (nl := []) (cStale hu ke (ck) (M) (l.getD i default).t hM) ?_
      rintro v h' ⟨d3, rfl, rfl⟩ hcaps
      refine rH50eF0 ?_
      repeat' (first | (fail_if_success (with_reducible refine xstp ?_)); first | ((with_reducible refine And.intro (fun (hb : _ = true) => ?_) (fun (hb : _ = false) => ?_)) <;> replace hb := xnC hb <;> (try first | exact xfC | exact bff hb (by assumption) | exact bff (by assumption) hb)) | (with_reducible refine Both.mk ?_ ?_) | ((with_reducible refine And.intro ?_ ?_); focus exact xoC) | ((with_reducible refine Or.inl ⟨?_, ?_, ?_⟩); (focus rfl); focus exact xaC) | ((with_reducible refine xwB ?_ ?_); focus exact xaC) | ((with_reducible refine xwC ?_ ?_); focus exact xaC) | ((with_reducible refine xwD ?_ ?_); focus exact xaC) | ((with_reducible refine xwE ?_ ?_); focus exact xaC) | (with_reducible intro hc; (try simp only [capsP, and_true] at hc); (try exact xfC)) | ((fail_if_success (with_reducible first | refine xgon ?_ | intro _)); (conv => whnf); (fail_if_success (fail_if_success (with_reducible first | refine xstp ?_ | refine Both.mk ?_ ?_ | refine xgon ?_ | intro _)))))
      refine xcal (σ := [.whole 3, .whole 4]) (nl := []) (cStaleR hu ke (refL (M)) (c2) (l.getD i default).t (refL_len _) (refL_t hM)) ?_
      rw [sta_ref hM]
      rintro v h' ⟨d4, rfl, rfl⟩ hcaps
      refine rH50eF0 ?_
      repeat' (first | (fail_if_success (with_reducible refine xstp ?_)); first | ((with_reducible refine And.intro (fun (hb : _ = true) => ?_) (fun (hb : _ = false) => ?_)) <;> replace hb := xnC hb <;> (try first | exact xfC | exact bff hb (by assumption) | exact bff (by assumption) hb)) | (with_reducible refine Both.mk ?_ ?_) | ((with_reducible refine And.intro ?_ ?_); focus exact xoC) | ((with_reducible refine Or.inl ⟨?_, ?_, ?_⟩); (focus rfl); focus exact xaC) | ((with_reducible refine xwB ?_ ?_); focus exact xaC) | ((with_reducible refine xwC ?_ ?_); focus exact xaC) | ((with_reducible refine xwD ?_ ?_); focus exact xaC) | ((with_reducible refine xwE ?_ ?_); focus exact xaC) | (with_reducible intro hc; (try simp only [capsP, and_true] at hc); (try exact xfC)) | ((fail_if_success (with_reducible first | refine xgon ?_ | intro _)); (conv => whnf); (fail_if_success (fail_if_success (with_reducible first | refine xstp ?_ | refine Both.mk ?_ ?_ | refine xgon ?_ | intro _)))))
      refine xcal (σ := [.whole 11, .whole 12]) (nl := []) (cequal (staL ke (M) (l.getD i default).t) (staL ke (M) (l.getD i default).t) d3 d4 (by have := lst_len (M); have := List.length_filter_le (fun x => decide (¬ okT (l.getD i default).t ∨ ke < age (ent (M) x).t (l.getD i default).t)) (lst (M)); unfold staL; omega)) ?_
      rintro v h' ⟨rfl, rfl⟩ hcaps
      rw [decide_eq_true rfl]
      refine rH50eF0 ?_
      repeat' (first | (fail_if_success (with_reducible refine xstp ?_)); first | ((with_reducible refine And.intro (fun (hb : _ = true) => ?_) (fun (hb : _ = false) => ?_)) <;> replace hb := xnC hb <;> (try first | exact xfC | exact bff hb (by assumption) | exact bff (by assumption) hb | (exfalso; simp only [List.length_nil] at hb; omega) | (exfalso; revert hb; decide) | (exfalso; simp at hb; done))) | (with_reducible refine Both.mk ?_ ?_) | ((with_reducible refine And.intro ?_ ?_); focus exact xoC) | ((with_reducible refine Or.inl ⟨?_, ?_, ?_⟩); (focus rfl); focus exact xaC) | ((with_reducible refine xwB ?_ ?_); focus exact xaC) | ((with_reducible refine xwC ?_ ?_); focus exact xaC) | ((with_reducible refine xwD ?_ ?_); focus exact xaC) | ((with_reducible refine xwE ?_ ?_); focus exact xaC) | (with_reducible intro hc; (try simp only [capsP, and_true] at hc); (try exact xfC)) | ((fail_if_success (with_reducible first | refine xgon ?_ | intro _)); (conv => whnf); (fail_if_success (fail_if_success (with_reducible first | refine xstp ?_ | refine Both.mk ?_ ?_ | refine xgon ?_ | intro _)))))
      refine ⟨⟨(i + 1, ck, M, c2), by simp only; omega, hM⟩, [0, 1, 2, 3, 4], by simp only; omega, ?_⟩
      (repeat' first | refine And.intro ?_ ?_ | exact xeC | fail)
    · skip
      refine xcal (σ := []) (nl := []) (cawake) ?_
      rintro v h' ⟨rfl, rfl⟩ hcaps
      refine rH50eF0 ?_
      repeat' (first | (fail_if_success (with_reducible refine xstp ?_)); first | ((with_reducible refine And.intro (fun (hb : _ = true) => ?_) (fun (hb : _ = false) => ?_)) <;> replace hb := xnC hb <;> (try first | exact xfC | exact bff hb (by assumption) | exact bff (by assumption) hb)) | (with_reducible refine Both.mk ?_ ?_) | ((with_reducible refine And.intro ?_ ?_); focus exact xoC) | ((with_reducible refine Or.inl ⟨?_, ?_, ?_⟩); (focus rfl); focus exact xaC) | ((with_reducible refine xwB ?_ ?_); focus exact xaC) | ((with_reducible refine xwC ?_ ?_); focus exact xaC) | ((with_reducible refine xwD ?_ ?_); focus exact xaC) | ((with_reducible refine xwE ?_ ?_); focus exact xaC) | (with_reducible intro hc; (try simp only [capsP, and_true] at hc); (try exact xfC)) | ((fail_if_success (with_reducible first | refine xgon ?_ | intro _)); (conv => whnf); (fail_if_success (fail_if_success (with_reducible first | refine xstp ?_ | refine Both.mk ?_ ?_ | refine xgon ?_ | intro _)))))
      refine FinK.mk ⟨[0], _, [.one .no], rfl, ?_⟩
      (repeat' first | refine And.intro ?_ ?_ | exact xeC | fail)
  · refine xcal (σ := []) (nl := []) (cNewPn hu ke hok) ?_
    rintro v h' ⟨rfl, rfl⟩ hcaps
    refine xret ?_
    repeat' (first | (fail_if_success (with_reducible refine xstp ?_)); first | ((with_reducible refine And.intro (fun (hb : _ = true) => ?_) (fun (hb : _ = false) => ?_)) <;> replace hb := xnC hb <;> (try first | exact xfC | exact bff hb (by assumption) | exact bff (by assumption) hb)) | (with_reducible refine Both.mk ?_ ?_) | ((with_reducible refine And.intro ?_ ?_); focus exact xoC) | ((with_reducible refine Or.inl ⟨?_, ?_, ?_⟩); (focus rfl); focus exact xaC) | ((with_reducible refine xwB ?_ ?_); focus exact xaC) | ((with_reducible refine xwC ?_ ?_); focus exact xaC) | ((with_reducible refine xwD ?_ ?_); focus exact xaC) | ((with_reducible refine xwE ?_ ?_); focus exact xaC) | (with_reducible intro hc; (try simp only [capsP, and_true] at hc); (try exact xfC)) | ((fail_if_success (with_reducible first | refine xgon ?_ | intro _)); (conv => whnf); (fail_if_success (fail_if_success (with_reducible first | refine xstp ?_ | refine Both.mk ?_ ?_ | refine xgon ?_ | intro _)))))
    rw [e1, e2]
    refine xcal (σ := []) (nl := []) (cNewR hu ke) ?_
    rw [if_neg hok]
    rintro v h' ⟨rfl, rfl⟩ hcaps
    refine xret ?_
    repeat' (first | (fail_if_success (with_reducible refine xstp ?_)); first | ((with_reducible refine And.intro (fun (hb : _ = true) => ?_) (fun (hb : _ = false) => ?_)) <;> replace hb := xnC hb <;> (try first | exact xfC | exact bff hb (by assumption) | exact bff (by assumption) hb)) | (with_reducible refine Both.mk ?_ ?_) | ((with_reducible refine And.intro ?_ ?_); focus exact xoC) | ((with_reducible refine Or.inl ⟨?_, ?_, ?_⟩); (focus rfl); focus exact xaC) | ((with_reducible refine xwB ?_ ?_); focus exact xaC) | ((with_reducible refine xwC ?_ ?_); focus exact xaC) | ((with_reducible refine xwD ?_ ?_); focus exact xaC) | ((with_reducible refine xwE ?_ ?_); focus exact xaC) | (with_reducible intro hc; (try simp only [capsP, and_true] at hc); (try exact xfC)) | ((fail_if_success (with_reducible first | refine xgon ?_ | intro _)); (conv => whnf); (fail_if_success (fail_if_success (with_reducible first | refine xstp ?_ | refine Both.mk ?_ ?_ | refine xgon ?_ | intro _)))))
    refine LoopK.mk' Unit (fun _ => ⟨[(2, .c (.sl 0 0 5 0 l.length c)), (8, .c (.i .i64 4)), (11, .c (.i .i64 0))], [.one (spR l c)]⟩) (fun _ => 0) ⟨(), [0], ?_⟩ ?_
    · (repeat' first | refine And.intro ?_ ?_ | exact xeC | fail)
    rintro ⟨⟩
    repeat' (first | (fail_if_success (with_reducible refine xstp ?_)); first | ((with_reducible refine And.intro (fun (hb : _ = true) => ?_) (fun (hb : _ = false) => ?_)) <;> replace hb := xnC hb <;> (try first | exact xfC | exact bff hb (by assumption) | exact bff (by assumption) hb)) | (with_reducible refine Both.mk ?_ ?_) | ((with_reducible refine And.intro ?_ ?_); focus exact xoC) | ((with_reducible refine Or.inl ⟨?_, ?_, ?_⟩); (focus rfl); focus exact xaC) | ((with_reducible refine xwB ?_ ?_); focus exact xaC) | ((with_reducible refine xwC ?_ ?_); focus exact xaC) | ((with_reducible refine xwD ?_ ?_); focus exact xaC) | ((with_reducible refine xwE ?_ ?_); focus exact xaC) | (with_reducible intro hc; (try simp only [capsP, and_true] at hc); (try exact xfC)) | ((fail_if_success (with_reducible first | refine xgon ?_ | intro _)); (conv => whnf); (fail_if_success (fail_if_success (with_reducible first | refine xstp ?_ | refine Both.mk ?_ ?_ | refine xgon ?_ | intro _)))))
    all_goals (
      refine xcal (σ := []) (nl := []) (cawake) ?_
      rintro v h' ⟨rfl, rfl⟩ hcaps
      refine rH50eF0 ?_
      repeat' (first | (fail_if_success (with_reducible refine xstp ?_)); first | ((with_reducible refine And.intro (fun (hb : _ = true) => ?_) (fun (hb : _ = false) => ?_)) <;> replace hb := xnC hb <;> (try first | exact xfC | exact bff hb (by assumption) | exact bff (by assumption) hb)) | (with_reducible refine Both.mk ?_ ?_) | ((with_reducible refine And.intro ?_ ?_); focus exact xoC) | ((with_reducible refine Or.inl ⟨?_, ?_, ?_⟩); (focus rfl); focus exact xaC) | ((with_reducible refine xwB ?_ ?_); focus exact xaC) | ((with_reducible refine xwC ?_ ?_); focus exact xaC) | ((with_reducible refine xwD ?_ ?_); focus exact xaC) | ((with_reducible refine xwE ?_ ?_); focus exact xaC) | (with_reducible intro hc; (try simp only [capsP, and_true] at hc); (try exact xfC)) | ((fail_if_success (with_reducible first | refine xgon ?_ | intro _)); (conv => whnf); (fail_if_success (fail_if_success (with_reducible first | refine xstp ?_ | refine Both.mk ?_ ?_ | refine xgon ?_ | intro _)))))
      refine FinK.mk ⟨[0], _, [.one .no], rfl, ?_⟩
      (repeat' first | refine And.intro ?_ ?_ | exact xeC | fail)
      skip)
end Go.Proofs.Ytjaccepmnjkbbaa

namespace Go.Proofs.Ytjaccepmnjkbbaa
open Go.X Go.RowKit
set_option linter.unusedVariables false
theorem one_read {β : Nm} {W : World} {ck : Ck} (h : ck.holds β W (β 0 0)) (ho : ck.owned = false) : Fits β [.one ck] W ∧ ∀ f x, (Go.X.get [.one ck] f x).owned = false := by
  have hno := get_ones_own (h := [ck]) (by intro q hq; rw [List.mem_singleton.1 hq]; exact ho)
  exact ⟨fits_read (get_ones (h := [ck]) (fun f q hf => by
    match f, hf with
    | 0, hf => cases hf; exact h
    | f + 1, hf => simp at hf)) hno, hno⟩
abbrev kSp : List K := [.i .u8, .i .i8, .i .i32, .i .i32, .i .i32]
theorem ft_Sp {l : List C} (h : FT kSp l) : ∃ x : Sp, l = encSp x ∧ x.ok := by
  obtain ⟨a, _, rfl, ha, h1⟩ := FT_i h
  obtain ⟨b, _, rfl, hb, h2⟩ := FT_i h1
  obtain ⟨c, _, rfl, hc, h3⟩ := FT_i h2
  obtain ⟨d, _, rfl, hd, h4⟩ := FT_i h3
  obtain ⟨e, _, rfl, he, h5⟩ := FT_i h4
  obtain rfl := FT_nil h5
  exact ⟨⟨a, b, c, d, e⟩, rfl, ha, hb, hc, hd, he⟩
theorem walk_SeparationPlays (W : World) (a0 : Int) (w0 : (Lit.int .u16 a0).wf = true) (a1 : Int) (w1 : (Lit.int .u16 a1).wf = true) (v2 : Value) (k2 : VK W (.sl kSp) v2) (e2 : ∀ a n c, v2 = .slice (some a) n c → a.spot = none) :
    Calls Try.prog 5 #[.int .u16 a0, .int .u16 a1, v2] W fun e W' => e = .returned (.bool true) ∧ Below W.heap.size W W' := by
  obtain ⟨A, n, c, g, hv, hh, hn, hc, hnc, hg⟩ := row_view (by rfl) k2 e2
  obtain ⟨l, hl, hge, hp⟩ := list_of encSp (Pr := Sp.ok) (fun i hi => ft_Sp (hg i hi))
  subst hl
  obtain ⟨hf, hno⟩ := one_read (β := nmL [A]) (W := W) (ck := spR l c) (holds_row_congr (hh _ _) hge) rfl
  have hv' : C.ren (nmL [A]) (C.sl 0 0 5 0 l.length c) = v2 := hv (nmL [A]) 0 0 rfl
  have := glue (cplays a0 a1 l c (wf_bounds w0) (wf_bounds w1) (by unfold maxLen at hn; omega) hp) hf hno
  simp only [List.map_cons, List.map_nil, T.ren, hv', show C.ren (nmL [A]) (.i .u16 a0) = .int .u16 a0 from rfl, show C.ren (nmL [A]) (.i .u16 a1) = .int .u16 a1 from rfl] at this
  exact this
end Go.Proofs.Ytjaccepmnjkbbaa
