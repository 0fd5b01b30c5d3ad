/- Part 1 of the texts that a walk of this program rests on: an abstract machine, its soundness, contracts of functions. No statement of the seat is proved in this file. -/
import Derived.Test.YtjaccepmnjkbbaaZ4
namespace Go.Proofs.Ytjaccepmnjkbbaa
open Go.X
set_option linter.unusedSimpArgs false
set_option linter.unusedVariables false
def encRp (e : Pn) : List C := [.i .i64 e.id, .i .i64 e.t, .i .i64 e.p.x, .i .i64 e.p.y]
abbrev refF (hu ke : Int) (f n c : Nat) : Ck := .cells true [.i .i64 hu, .i .i64 ke, .sl f 0 4 0 n c]
abbrev refC (hu ke : Int) (n c : Nat) : Ck := refF hu ke 1 n c
abbrev refR (R : List Pn) (c : Nat) : Ck := .row true false 75 4 R.length c (rowOf encRp R)
abbrev refB (hu ke : Int) (R : List Pn) (c : Nat) : List Fam := [.one (refC hu ke R.length c), .one (refR R c)]
def plc (R : List Pn) (id : Int) : Int := match fndP R id with | some i => (i : Nat) | none => -1
theorem plc_some {R : List Pn} {id : Int} {i : Nat} (h : fndP R id = some i) : plc R id = (i : Nat) := by unfold plc; rw [h]
theorem plc_none {R : List Pn} {id : Int} (h : fndP R id = none) : plc R id = -1 := by unfold plc; rw [h]
theorem fndP_first {M : List Pn} {id : Int} {i : Nat} (hi : i < M.length) (hk : (M.getD i default).id = id) (hn : ∀ j, j < i → (M.getD j default).id ≠ id) : fndP M id = some i := by
  unfold fndP
  rw [List.findIdx?_eq_some_iff_getElem]
  refine ⟨hi, by simp only [decide_eq_true_eq]; rw [← getD_at hi]; exact hk, fun j hj => ?_⟩
  have := hn j hj
  rw [getD_at (by omega)] at this
  simpa using this
set_option maxRecDepth 10000 in
theorem cNewR (hu ke : Int) :
    Ctr Try.prog 17 [.c (.i .i64 hu), .c (.i .i64 ke)] [] fun v h => v = (if okN hu ke then .t [.a [.i .i64 hu, .i .i64 ke, .nils], .c (.i .i64 0)] else .t [.a [.i .i64 0, .i .i64 0, .nils], .c (.i .i64 4)]) ∧ h = [] := by
  refine Ctr.mk' tbv mixed Try.func17 rfl rfl rfl (fun _ _ => by kernel_rfl) (by kernel_rfl) (by rfl) (by rfl) (by (repeat' first | refine And.intro ?_ ?_ | exact xeC | fail)) ?_
  repeat' (first | (fail_if_success (with_reducible refine xstp ?_)); first | ((with_reducible refine And.intro (fun (hb : _ = true) => ?_) (fun (hb : _ = false) => ?_)) <;> replace hb := xnC hb <;> (try first | exact xfC | exact bff hb (by assumption) | exact bff (by assumption) hb)) | (with_reducible refine Both.mk ?_ ?_) | ((with_reducible refine And.intro ?_ ?_); focus exact xoC) | ((with_reducible refine Or.inl ⟨?_, ?_, ?_⟩); (focus rfl); focus exact xaC) | ((with_reducible refine xwB ?_ ?_); focus exact xaC) | ((with_reducible refine xwC ?_ ?_); focus exact xaC) | ((with_reducible refine xwD ?_ ?_); focus exact xaC) | ((with_reducible refine xwE ?_ ?_); focus exact xaC) | (with_reducible intro hc; (try simp only [capsP, and_true] at hc); (try exact xfC)) | ((fail_if_success (with_reducible first | refine xgon ?_ | intro _)); (conv => whnf); (fail_if_success (fail_if_success (with_reducible first | refine xstp ?_ | refine Both.mk ?_ ?_ | refine xgon ?_ | intro _)))))
  all_goals first
    | (rw [if_pos (by unfold okN; omega)]
       refine FinK.mk ⟨[], _, _, ⟨rfl, rfl⟩, ?_⟩; (repeat' first | refine And.intro ?_ ?_ | exact xeC | fail)
       done)
    | (rw [if_neg (by unfold okN; omega)]
       refine FinK.mk ⟨[], _, _, ⟨rfl, rfl⟩, ?_⟩; (repeat' first | refine And.intro ?_ ?_ | exact xeC | fail)
       done)
set_option maxRecDepth 10000 in
theorem cplace (hu ke : Int) (R : List Pn) (c : Nat) (id : Int) (hR : R.length ≤ 8) :
    Ctr Try.prog 33 [.c (.p 0 0 0), .c (.i .i64 id)] (refB hu ke R c) fun v h => v = .c (.i .i64 (plc R id)) ∧ h = refB hu ke R c := by
  refine Ctr.mk' tbv mixed Try.func33 rfl rfl rfl (fun _ _ => by kernel_rfl) (by kernel_rfl) (by rfl) (by rfl) (by (repeat' first | refine And.intro ?_ ?_ | exact xeC | fail)) ?_
  repeat' (first | (fail_if_success (with_reducible refine xstp ?_)); first | ((with_reducible refine And.intro (fun (hb : _ = true) => ?_) (fun (hb : _ = false) => ?_)) <;> replace hb := xnC hb <;> (try first | exact xfC | exact bff hb (by assumption) | exact bff (by assumption) hb)) | (with_reducible refine Both.mk ?_ ?_) | ((with_reducible refine And.intro ?_ ?_); focus exact xoC) | ((with_reducible refine Or.inl ⟨?_, ?_, ?_⟩); (focus rfl); focus exact xaC) | ((with_reducible refine xwB ?_ ?_); focus exact xaC) | ((with_reducible refine xwC ?_ ?_); focus exact xaC) | ((with_reducible refine xwD ?_ ?_); focus exact xaC) | ((with_reducible refine xwE ?_ ?_); focus exact xaC) | (with_reducible intro hc; (try simp only [capsP, and_true] at hc); (try exact xfC)) | ((fail_if_success (with_reducible first | refine xgon ?_ | intro _)); (conv => whnf); (fail_if_success (fail_if_success (with_reducible first | refine xstp ?_ | refine Both.mk ?_ ?_ | refine xgon ?_ | intro _)))))
  refine LoopK.mk' {i : Nat // i ≤ R.length ∧ ∀ j, j < i → (R.getD j default).id ≠ id}
    (fun ⟨i, _⟩ => ⟨[(0, .c (.p 0 0 0)), (1, .c (.i .i64 id)), (5, .c (.i .i64 (i : Nat)))], refB hu ke R c⟩) (fun k => R.length - k.1)
    ⟨⟨0, Nat.zero_le _, by intro j h; omega⟩, [0, 1], ?_⟩ ?_
  · (repeat' first | refine And.intro ?_ ?_ | exact xeC | fail)
  rintro ⟨i, hi, hno⟩
  repeat' (first | (fail_if_success (with_reducible refine xstp ?_)); first | ((with_reducible refine And.intro (fun (hb : _ = true) => ?_) (fun (hb : _ = false) => ?_)) <;> replace hb := xnC hb <;> (try first | exact xfC | exact bff hb (by assumption) | exact bff (by assumption) hb)) | (with_reducible refine Both.mk ?_ ?_) | ((with_reducible refine And.intro ?_ ?_); focus exact xoC) | ((with_reducible refine Or.inl ⟨?_, ?_, ?_⟩); (focus rfl); focus exact xaC) | ((with_reducible refine xwB ?_ ?_); focus exact xaC) | ((with_reducible refine xwC ?_ ?_); focus exact xaC) | ((with_reducible refine xwD ?_ ?_); focus exact xaC) | ((with_reducible refine xwE ?_ ?_); focus exact xaC) | (with_reducible intro hc; (try simp only [capsP, and_true] at hc); (try exact xfC)) | ((fail_if_success (with_reducible first | refine xgon ?_ | intro _)); (conv => whnf); (fail_if_success (fail_if_success (with_reducible first | refine xstp ?_ | refine Both.mk ?_ ?_ | refine xgon ?_ | intro _)))))
  · rw [plc_some (fndP_first (by omega) hb hno)]
    refine FinK.mk ⟨[0, 1], _, _, ⟨rfl, rfl⟩, ?_⟩; (repeat' first | refine And.intro ?_ ?_ | exact xeC | fail)
  · refine ⟨⟨i + 1, by omega, fun j hj => ?_⟩, [0, 1], by simp only; omega, ?_⟩
    · rcases (by omega : j < i ∨ j = i) with h | rfl
      · exact hno j h
      · exact hb
    · (repeat' first | refine And.intro ?_ ?_ | exact xeC | fail)
  · rw [plc_none (fndP_none (fun j hj => hno j (by omega)))]
    refine FinK.mk ⟨[0, 1], _, _, ⟨rfl, rfl⟩, ?_⟩; (repeat' first | refine And.intro ?_ ?_ | exact xeC | fail)
set_option maxRecDepth 10000 in
theorem cAgeR (e : Pn) (t : Int) (ha : okT e.t) (ht : okT t) :
    Ctr Try.prog 34 [.a (encRp e), .c (.i .i64 t)] [] fun v h => v = .c (.i .i64 (age e.t t)) ∧ h = [] := by
  unfold okT at ha ht
  refine Ctr.mk' tbv mixed Try.func34 rfl rfl rfl (fun _ _ => by kernel_rfl) (by kernel_rfl) (by rfl) (by rfl) (by (repeat' first | refine And.intro ?_ ?_ | exact xeC | fail)) ?_
  repeat' (first | (fail_if_success (with_reducible refine xstp ?_)); first | ((with_reducible refine And.intro (fun (hb : _ = true) => ?_) (fun (hb : _ = false) => ?_)) <;> replace hb := xnC hb <;> (try first | exact xfC | exact bff hb (by assumption) | exact bff (by assumption) hb)) | (with_reducible refine Both.mk ?_ ?_) | ((with_reducible refine And.intro ?_ ?_); focus exact xoC) | ((with_reducible refine Or.inl ⟨?_, ?_, ?_⟩); (focus rfl); focus exact xaC) | ((with_reducible refine xwB ?_ ?_); focus exact xaC) | ((with_reducible refine xwC ?_ ?_); focus exact xaC) | ((with_reducible refine xwD ?_ ?_); focus exact xaC) | ((with_reducible refine xwE ?_ ?_); focus exact xaC) | (with_reducible intro hc; (try simp only [capsP, and_true] at hc); (try exact xfC)) | ((fail_if_success (with_reducible first | refine xgon ?_ | intro _)); (conv => whnf); (fail_if_success (fail_if_success (with_reducible first | refine xstp ?_ | refine Both.mk ?_ ?_ | refine xgon ?_ | intro _)))))
  · refine FinK.mk ⟨[], _, _, ⟨rfl, rfl⟩, ?_⟩; (repeat' first | refine And.intro ?_ ?_ | exact xeC | fail)
    all_goals (unfold age; omega)
  · refine FinK.mk ⟨[], _, _, ⟨rfl, rfl⟩, ?_⟩; (repeat' first | refine And.intro ?_ ?_ | exact xeC | fail)
    all_goals (unfold age; omega)
def slotR (R : List Pn) (id t : Int) (p : Pt) (n : Int) : List Pn := if n = id then [⟨0, id, t, p⟩] else match fndP R n with | some i => [R.getD i default] | none => []
def accR (R : List Pn) (id t : Int) (p : Pt) (k : Nat) : List Pn := (List.range k).flatMap fun i => slotR R id t p ((i : Nat) + 1 : Int)
theorem accR_succ (R : List Pn) (id t : Int) (p : Pt) (k : Nat) : accR R id t p (k + 1) = accR R id t p k ++ slotR R id t p ((k : Nat) + 1 : Int) := by
  unfold accR
  rw [List.range_succ, List.flatMap_append]
  simp
theorem slotR_le (R : List Pn) (id t : Int) (p : Pt) (n : Int) : (slotR R id t p n).length ≤ 1 := by
  unfold slotR
  split
  · exact Nat.le_refl _
  · split <;> simp
theorem accR_le (R : List Pn) (id t : Int) (p : Pt) : ∀ k, (accR R id t p k).length ≤ k
  | 0 => by simp [accR]
  | k + 1 => by
    rw [accR_succ, List.length_append]
    have := accR_le R id t p k
    have := slotR_le R id t p ((k : Nat) + 1 : Int)
    omega
def seeR (R : List Pn) (id t : Int) (p : Pt) : List Pn := if seeE R id t p ≠ 0 then R else accR R id t p 8
theorem rH50eA0 {σ : List Sg} {H h' : List Fam} {v : T} {K : T → List Fam → Prop} {H' : List Fam} {v' : T} {N : Nat} (hk : K v' H') (hN : H.length = N := by (try simp only [↓List.length_cons, ↓List.length_nil, Nat.reduceAdd]) <;> rfl) (h : givesF σ N H σ h' = some H' := by (try simp (maxSteps := 1000000) only [givesF, setF, updF, Fam.zeroth, Fam.rk, Ck.rk, C.rk, E.rk, T.rk, key, List.map_cons, List.map_nil, List.cons_append, List.nil_append, List.length_cons, List.length_nil, Option.map_some, Option.bind_some, Nat.reduceAdd, Nat.zero_add, Nat.add_zero, Nat.add_sub_cancel_left, Int.toNat_natCast, reps, List.all_cons, List.all_nil, C.flat, List.append_eq, Bool.not_true, Bool.and_true, Bool.or_false, Bool.or_self, Bool.not_false, List.append_nil, Bool.and_self, encPt]) <;> rfl) (hv : v.rk σ N = v' := by (try simp only [givesF, setF, updF, Fam.zeroth, Fam.rk, Ck.rk, C.rk, E.rk, T.rk, key, List.map_cons, List.map_nil, List.cons_append, List.nil_append, List.length_cons, List.length_nil, Option.map_some, Option.bind_some, Nat.reduceAdd, Nat.zero_add, Nat.add_zero, Nat.add_sub_cancel_left, Int.toNat_natCast, reps, List.all_cons, List.all_nil, C.flat, List.append_eq, Bool.not_true, Bool.and_true, Bool.or_false, Bool.or_self, Bool.not_false, List.append_nil, Bool.and_self, encPt]) <;> rfl) : RetG σ H h' v K := ret_mk3 hN h hv hk
set_option maxRecDepth 20000 in
set_option maxHeartbeats 1000000 in
theorem cSeeR (hu ke : Int) (R : List Pn) (c : Nat) (id t : Int) (p : Pt) (hR : R.length ≤ 8) :
    Ctr Try.prog 18 [.c (.p 0 0 0), .c (.i .i64 id), .c (.i .i64 t), .a (encPt p)] (refB hu ke R c)
      fun v h => ∃ c', v = .c (.i .i64 (seeE R id t p : Nat)) ∧ h = [.one (refF hu ke 2 (seeR R id t p).length c'), .one .no, .one (refR (seeR R id t p) c')] := by
  refine Ctr.mk' tbv mixed Try.func18 rfl rfl rfl (fun _ _ => by kernel_rfl) (by kernel_rfl) (by rfl) (by rfl) (by (repeat' first | refine And.intro ?_ ?_ | exact xeC | fail)) ?_
  repeat' (first | (fail_if_success (with_reducible refine xstp ?_)); first | ((with_reducible refine And.intro (fun (hb : _ = true) => ?_) (fun (hb : _ = false) => ?_)) <;> replace hb := xnC hb <;> (try first | exact xfC | exact bff hb (by assumption) | exact bff (by assumption) hb)) | (with_reducible refine Both.mk ?_ ?_) | ((with_reducible refine And.intro ?_ ?_); focus exact xoC) | ((with_reducible refine Or.inl ⟨?_, ?_, ?_⟩); (focus rfl); focus exact xaC) | ((with_reducible refine xwB ?_ ?_); focus exact xaC) | ((with_reducible refine xwC ?_ ?_); focus exact xaC) | ((with_reducible refine xwD ?_ ?_); focus exact xaC) | ((with_reducible refine xwE ?_ ?_); focus exact xaC) | (with_reducible intro hc; (try simp only [capsP, and_true] at hc); (try exact xfC)) | ((fail_if_success (with_reducible first | refine xgon ?_ | intro _)); (conv => whnf); (fail_if_success (fail_if_success (with_reducible first | refine xstp ?_ | refine Both.mk ?_ ?_ | refine xgon ?_ | intro _)))))
  · skip
    have hE : seeE R id t p = 4 := if_pos (fun h => by omega)
    have hM : seeR R id t p = R := if_pos (by rw [hE]; decide)
    rw [hE, hM]
    refine FinK.mk ⟨[0, 1, 1], _, _, ⟨c, rfl, rfl⟩, ?_⟩
    (repeat' first | refine And.intro ?_ ?_ | exact xeC | fail)
  · skip
    have hE : seeE R id t p = 4 := if_pos (fun h => by omega)
    have hM : seeR R id t p = R := if_pos (by rw [hE]; decide)
    rw [hE, hM]
    refine FinK.mk ⟨[0, 1, 1], _, _, ⟨c, rfl, rfl⟩, ?_⟩
    (repeat' first | refine And.intro ?_ ?_ | exact xeC | fail)
  refine xcal (σ := []) (nl := []) (cTimeR t) ?_
  rintro v h' ⟨rfl, rfl⟩ hcaps
  refine rH50eA0 ?_
  repeat' (first | (fail_if_success (with_reducible refine xstp ?_)); first | ((with_reducible refine And.intro (fun (hb : _ = true) => ?_) (fun (hb : _ = false) => ?_)) <;> replace hb := xnC hb <;> (try first | exact xfC | exact bff hb (by assumption) | exact bff (by assumption) hb)) | (with_reducible refine Both.mk ?_ ?_) | ((with_reducible refine And.intro ?_ ?_); focus exact xoC) | ((with_reducible refine Or.inl ⟨?_, ?_, ?_⟩); (focus rfl); focus exact xaC) | ((with_reducible refine xwB ?_ ?_); focus exact xaC) | ((with_reducible refine xwC ?_ ?_); focus exact xaC) | ((with_reducible refine xwD ?_ ?_); focus exact xaC) | ((with_reducible refine xwE ?_ ?_); focus exact xaC) | (with_reducible intro hc; (try simp only [capsP, and_true] at hc); (try exact xfC)) | ((fail_if_success (with_reducible first | refine xgon ?_ | intro _)); (conv => whnf); (fail_if_success (fail_if_success (with_reducible first | refine xstp ?_ | refine Both.mk ?_ ?_ | refine xgon ?_ | intro _)))))
  · skip
    have hE : seeE R id t p = 4 := if_pos (fun h => hb h.2.1)
    have hM : seeR R id t p = R := if_pos (by rw [hE]; decide)
    rw [hE, hM]
    refine FinK.mk ⟨[0, 1, 1], _, _, ⟨c, rfl, rfl⟩, ?_⟩
    (repeat' first | refine And.intro ?_ ?_ | exact xeC | fail)
  refine xcal (σ := []) (nl := []) (cReachesR p) ?_
  rintro v h' ⟨rfl, rfl⟩ hcaps
  refine rH50eA0 ?_
  repeat' (first | (fail_if_success (with_reducible refine xstp ?_)); first | ((with_reducible refine And.intro (fun (hb : _ = true) => ?_) (fun (hb : _ = false) => ?_)) <;> replace hb := xnC hb <;> (try first | exact xfC | exact bff hb (by assumption) | exact bff (by assumption) hb)) | (with_reducible refine Both.mk ?_ ?_) | ((with_reducible refine And.intro ?_ ?_); focus exact xoC) | ((with_reducible refine Or.inl ⟨?_, ?_, ?_⟩); (focus rfl); focus exact xaC) | ((with_reducible refine xwB ?_ ?_); focus exact xaC) | ((with_reducible refine xwC ?_ ?_); focus exact xaC) | ((with_reducible refine xwD ?_ ?_); focus exact xaC) | ((with_reducible refine xwE ?_ ?_); focus exact xaC) | (with_reducible intro hc; (try simp only [capsP, and_true] at hc); (try exact xfC)) | ((fail_if_success (with_reducible first | refine xgon ?_ | intro _)); (conv => whnf); (fail_if_success (fail_if_success (with_reducible first | refine xstp ?_ | refine Both.mk ?_ ?_ | refine xgon ?_ | intro _)))))
  · skip
    have hE : seeE R id t p = 4 := if_pos (fun h => hb h.2.2)
    have hM : seeR R id t p = R := if_pos (by rw [hE]; decide)
    rw [hE, hM]
    refine FinK.mk ⟨[0, 1, 1], _, _, ⟨c, rfl, rfl⟩, ?_⟩
    (repeat' first | refine And.intro ?_ ?_ | exact xeC | fail)
  have hok : (1 ≤ id ∧ id ≤ 8) ∧ okT t ∧ okP p := ⟨by omega, by assumption, by assumption⟩
  refine xcal (σ := [.whole 0, .whole 1]) (nl := []) (cplace hu ke R c id hR) ?_
  rintro v h' ⟨rfl, rfl⟩ hcaps
  rcases (by cases fndP R id <;> simp : (∃ i, fndP R id = some i) ∨ fndP R id = none) with ⟨i, hf⟩ | hf
  · have hil := (fndP_lt hf).1
    rw [plc_some hf]
    refine rH50eA0 ?_
    repeat' (first | (fail_if_success (with_reducible refine xstp ?_)); first | ((with_reducible refine And.intro (fun (hb : _ = true) => ?_) (fun (hb : _ = false) => ?_)) <;> replace hb := xnC hb <;> (try first | exact xfC | exact bff hb (by assumption) | exact bff (by assumption) hb)) | (with_reducible refine Both.mk ?_ ?_) | ((with_reducible refine And.intro ?_ ?_); focus exact xoC) | ((with_reducible refine Or.inl ⟨?_, ?_, ?_⟩); (focus rfl); focus exact xaC) | ((with_reducible refine xwB ?_ ?_); focus exact xaC) | ((with_reducible refine xwC ?_ ?_); focus exact xaC) | ((with_reducible refine xwD ?_ ?_); focus exact xaC) | ((with_reducible refine xwE ?_ ?_); focus exact xaC) | (with_reducible intro hc; (try simp only [capsP, and_true] at hc); (try exact xfC)) | ((fail_if_success (with_reducible first | refine xgon ?_ | intro _)); (conv => whnf); (fail_if_success (fail_if_success (with_reducible first | refine xstp ?_ | refine Both.mk ?_ ?_ | refine xgon ?_ | intro _)))))
    · have hE : seeE R id t p = 17 := by rw [see_in hok, hf]; exact if_pos (by simpa using hb)
      have hM : seeR R id t p = R := if_pos (by rw [hE]; decide)
      rw [hE, hM]
      refine FinK.mk ⟨[0, 1, 1], _, _, ⟨c, rfl, rfl⟩, ?_⟩
      (repeat' first | refine And.intro ?_ ?_ | exact xeC | fail)
    · have hE : seeE R id t p = 0 := by rw [see_in hok, hf]; exact if_neg (by omega)
      have hM : seeR R id t p = accR R id t p 8 := if_neg (by rw [hE]; decide)
      rw [hE, hM]
      refine LoopK.mk' {q : Nat × Nat // q.1 ≤ 8}
        (fun ⟨(k, c2), _⟩ => ⟨[(0, .c (.p 0 0 0)), (1, .c (.i .i64 id)), (2, .c (.i .i64 t)), (7, .c (.p 2 0 0)), (10, .c (.sl 3 0 4 0 (accR R id t p k).length c2)), (11, .c (.i .i64 ((k : Nat) + 1 : Int)))],
          [.one (refC hu ke R.length c), .one (refR R c), .one (.cells true (encPt p)), .one (refR (accR R id t p k) c2)]⟩) (fun q => 8 - q.1.1)
        ⟨⟨(0, 0), Nat.zero_le _⟩, [0, 1, 2, 99], ?_⟩ ?_
      · (repeat' first | refine And.intro ?_ ?_ | exact xeC | fail)
        all_goals (intro i hi; exact absurd hi (Nat.not_lt_zero i))
      rintro ⟨⟨k, c2⟩, hk⟩
      simp only at hk
      have hal := accR_le R id t p k
      have hac := accR_succ R id t p k
      repeat' (first | (fail_if_success (with_reducible refine xstp ?_)); first | ((with_reducible refine And.intro (fun (hb : _ = true) => ?_) (fun (hb : _ = false) => ?_)) <;> replace hb := xnC hb <;> (try first | exact xfC | exact bff hb (by assumption) | exact bff (by assumption) hb)) | (with_reducible refine Both.mk ?_ ?_) | ((with_reducible refine And.intro ?_ ?_); focus exact xoC) | ((with_reducible refine Or.inl ⟨?_, ?_, ?_⟩); (focus rfl); focus exact xaC) | ((with_reducible refine xwB ?_ ?_); focus exact xaC) | ((with_reducible refine xwC ?_ ?_); focus exact xaC) | ((with_reducible refine xwD ?_ ?_); focus exact xaC) | ((with_reducible refine xwE ?_ ?_); focus exact xaC) | (with_reducible intro hc; (try simp only [capsP, and_true] at hc); (try exact xfC)) | ((fail_if_success (with_reducible first | refine xgon ?_ | intro _)); (conv => whnf); (fail_if_success (fail_if_success (with_reducible first | refine xstp ?_ | refine Both.mk ?_ ?_ | refine xgon ?_ | intro _)))))
      · rename_i c3
        rw [show slotR R id t p ((k : Nat) + 1 : Int) = [⟨0, id, t, p⟩] from if_pos hb] at hac
        refine ⟨⟨(k + 1, c3), by simp only; omega⟩, [0, 1, 2, 5], by simp only; omega, ?_⟩
        (repeat' first | refine And.intro ?_ ?_ | exact xeC | fail)
        all_goals try rw [hac]
        all_goals first | omega | (simp only [List.length_append, List.length_singleton]; done) | (rw [List.length_append, List.length_singleton]; omega) | (intro i hi; (first | refine app_rowG _ _ _ _ ?_ i hi | refine app_row _ _ _ ?_ i hi); first | rfl | (simp only [Int.toNat_natCast, Nat.zero_add]; rfl))
      · have hneq := hb
        refine xcal (σ := [.whole 0, .whole 1]) (nl := []) (cplace hu ke R c ((k : Nat) + 1 : Int) hR) ?_
        rintro v h' ⟨rfl, rfl⟩ hcaps
        rcases (by cases fndP R ((k : Nat) + 1 : Int) <;> simp : (∃ i, fndP R ((k : Nat) + 1 : Int) = some i) ∨ fndP R ((k : Nat) + 1 : Int) = none) with ⟨j, hfj⟩ | hfj
        · have hjl := (fndP_lt hfj).1
          rw [plc_some hfj]
          rw [show slotR R id t p ((k : Nat) + 1 : Int) = [R.getD j default] by unfold slotR; rw [if_neg hneq, hfj]] at hac
          refine rH50eA0 ?_
          repeat' (first | (fail_if_success (with_reducible refine xstp ?_)); first | ((with_reducible refine And.intro (fun (hb : _ = true) => ?_) (fun (hb : _ = false) => ?_)) <;> replace hb := xnC hb <;> (try first | exact xfC | exact bff hb (by assumption) | exact bff (by assumption) hb)) | (with_reducible refine Both.mk ?_ ?_) | ((with_reducible refine And.intro ?_ ?_); focus exact xoC) | ((with_reducible refine Or.inl ⟨?_, ?_, ?_⟩); (focus rfl); focus exact xaC) | ((with_reducible refine xwB ?_ ?_); focus exact xaC) | ((with_reducible refine xwC ?_ ?_); focus exact xaC) | ((with_reducible refine xwD ?_ ?_); focus exact xaC) | ((with_reducible refine xwE ?_ ?_); focus exact xaC) | (with_reducible intro hc; (try simp only [capsP, and_true] at hc); (try exact xfC)) | ((fail_if_success (with_reducible first | refine xgon ?_ | intro _)); (conv => whnf); (fail_if_success (fail_if_success (with_reducible first | refine xstp ?_ | refine Both.mk ?_ ?_ | refine xgon ?_ | intro _)))))
          rename_i c3
          refine ⟨⟨(k + 1, c3), by simp only; omega⟩, [0, 1, 2, 5], by simp only; omega, ?_⟩
          (repeat' first | refine And.intro ?_ ?_ | exact xeC | fail)
          all_goals try rw [hac]
          all_goals first | omega | (simp only [List.length_append, List.length_singleton]; done) | (rw [List.length_append, List.length_singleton]; omega) | (intro i hi; (first | refine app_rowG _ _ _ _ ?_ i hi | refine app_row _ _ _ ?_ i hi); first | rfl | (simp only [Int.toNat_natCast, Nat.zero_add]; rfl))
        · rw [plc_none hfj]
          rw [show slotR R id t p ((k : Nat) + 1 : Int) = [] by unfold slotR; rw [if_neg hneq, hfj], List.append_nil] at hac
          refine rH50eA0 ?_
          repeat' (first | (fail_if_success (with_reducible refine xstp ?_)); first | ((with_reducible refine And.intro (fun (hb : _ = true) => ?_) (fun (hb : _ = false) => ?_)) <;> replace hb := xnC hb <;> (try first | exact xfC | exact bff hb (by assumption) | exact bff (by assumption) hb)) | (with_reducible refine Both.mk ?_ ?_) | ((with_reducible refine And.intro ?_ ?_); focus exact xoC) | ((with_reducible refine Or.inl ⟨?_, ?_, ?_⟩); (focus rfl); focus exact xaC) | ((with_reducible refine xwB ?_ ?_); focus exact xaC) | ((with_reducible refine xwC ?_ ?_); focus exact xaC) | ((with_reducible refine xwD ?_ ?_); focus exact xaC) | ((with_reducible refine xwE ?_ ?_); focus exact xaC) | (with_reducible intro hc; (try simp only [capsP, and_true] at hc); (try exact xfC)) | ((fail_if_success (with_reducible first | refine xgon ?_ | intro _)); (conv => whnf); (fail_if_success (fail_if_success (with_reducible first | refine xstp ?_ | refine Both.mk ?_ ?_ | refine xgon ?_ | intro _)))))
          refine ⟨⟨(k + 1, c2), by simp only; omega⟩, [0, 1, 2, 3], by simp only; omega, ?_⟩
          (repeat' first | refine And.intro ?_ ?_ | exact xeC | fail)
          all_goals first
            | (rw [hac]; done)
            | exact Nat.le_of_eq (congrArg List.length hac)
            | (intro q hq; rw [hac])
            | omega
      · obtain rfl : k = 8 := by omega
        refine FinK.mk ⟨[0, 1, 3], _, _, ⟨c2, rfl, rfl⟩, ?_⟩
        (repeat' first | refine And.intro ?_ ?_ | exact xeC | fail)
  · rw [plc_none hf]
    refine rH50eA0 ?_
    repeat' (first | (fail_if_success (with_reducible refine xstp ?_)); first | ((with_reducible refine And.intro (fun (hb : _ = true) => ?_) (fun (hb : _ = false) => ?_)) <;> replace hb := xnC hb <;> (try first | exact xfC | exact bff hb (by assumption) | exact bff (by assumption) hb)) | (with_reducible refine Both.mk ?_ ?_) | ((with_reducible refine And.intro ?_ ?_); focus exact xoC) | ((with_reducible refine Or.inl ⟨?_, ?_, ?_⟩); (focus rfl); focus exact xaC) | ((with_reducible refine xwB ?_ ?_); focus exact xaC) | ((with_reducible refine xwC ?_ ?_); focus exact xaC) | ((with_reducible refine xwD ?_ ?_); focus exact xaC) | ((with_reducible refine xwE ?_ ?_); focus exact xaC) | (with_reducible intro hc; (try simp only [capsP, and_true] at hc); (try exact xfC)) | ((fail_if_success (with_reducible first | refine xgon ?_ | intro _)); (conv => whnf); (fail_if_success (fail_if_success (with_reducible first | refine xstp ?_ | refine Both.mk ?_ ?_ | refine xgon ?_ | intro _)))))
    have hE : seeE R id t p = 0 := by rw [see_in hok, hf]
    have hM : seeR R id t p = accR R id t p 8 := if_neg (by rw [hE]; decide)
    rw [hE, hM]
    refine LoopK.mk' {q : Nat × Nat // q.1 ≤ 8}
      (fun ⟨(k, c2), _⟩ => ⟨[(0, .c (.p 0 0 0)), (1, .c (.i .i64 id)), (2, .c (.i .i64 t)), (7, .c (.p 2 0 0)), (10, .c (.sl 3 0 4 0 (accR R id t p k).length c2)), (11, .c (.i .i64 ((k : Nat) + 1 : Int)))],
        [.one (refC hu ke R.length c), .one (refR R c), .one (.cells true (encPt p)), .one (refR (accR R id t p k) c2)]⟩) (fun q => 8 - q.1.1)
      ⟨⟨(0, 0), Nat.zero_le _⟩, [0, 1, 2, 99], ?_⟩ ?_
    · (repeat' first | refine And.intro ?_ ?_ | exact xeC | fail)
      all_goals (intro i hi; exact absurd hi (Nat.not_lt_zero i))
    rintro ⟨⟨k, c2⟩, hk⟩
    simp only at hk
    have hal := accR_le R id t p k
    have hac := accR_succ R id t p k
    repeat' (first | (fail_if_success (with_reducible refine xstp ?_)); first | ((with_reducible refine And.intro (fun (hb : _ = true) => ?_) (fun (hb : _ = false) => ?_)) <;> replace hb := xnC hb <;> (try first | exact xfC | exact bff hb (by assumption) | exact bff (by assumption) hb)) | (with_reducible refine Both.mk ?_ ?_) | ((with_reducible refine And.intro ?_ ?_); focus exact xoC) | ((with_reducible refine Or.inl ⟨?_, ?_, ?_⟩); (focus rfl); focus exact xaC) | ((with_reducible refine xwB ?_ ?_); focus exact xaC) | ((with_reducible refine xwC ?_ ?_); focus exact xaC) | ((with_reducible refine xwD ?_ ?_); focus exact xaC) | ((with_reducible refine xwE ?_ ?_); focus exact xaC) | (with_reducible intro hc; (try simp only [capsP, and_true] at hc); (try exact xfC)) | ((fail_if_success (with_reducible first | refine xgon ?_ | intro _)); (conv => whnf); (fail_if_success (fail_if_success (with_reducible first | refine xstp ?_ | refine Both.mk ?_ ?_ | refine xgon ?_ | intro _)))))
    · rename_i c3
      rw [show slotR R id t p ((k : Nat) + 1 : Int) = [⟨0, id, t, p⟩] from if_pos hb] at hac
      refine ⟨⟨(k + 1, c3), by simp only; omega⟩, [0, 1, 2, 5], by simp only; omega, ?_⟩
      (repeat' first | refine And.intro ?_ ?_ | exact xeC | fail)
      all_goals try rw [hac]
      all_goals first | omega | (simp only [List.length_append, List.length_singleton]; done) | (rw [List.length_append, List.length_singleton]; omega) | (intro i hi; (first | refine app_rowG _ _ _ _ ?_ i hi | refine app_row _ _ _ ?_ i hi); first | rfl | (simp only [Int.toNat_natCast, Nat.zero_add]; rfl))
    · have hneq := hb
      refine xcal (σ := [.whole 0, .whole 1]) (nl := []) (cplace hu ke R c ((k : Nat) + 1 : Int) hR) ?_
      rintro v h' ⟨rfl, rfl⟩ hcaps
      rcases (by cases fndP R ((k : Nat) + 1 : Int) <;> simp : (∃ i, fndP R ((k : Nat) + 1 : Int) = some i) ∨ fndP R ((k : Nat) + 1 : Int) = none) with ⟨j, hfj⟩ | hfj
      · have hjl := (fndP_lt hfj).1
        rw [plc_some hfj]
        rw [show slotR R id t p ((k : Nat) + 1 : Int) = [R.getD j default] by unfold slotR; rw [if_neg hneq, hfj]] at hac
        refine rH50eA0 ?_
        repeat' (first | (fail_if_success (with_reducible refine xstp ?_)); first | ((with_reducible refine And.intro (fun (hb : _ = true) => ?_) (fun (hb : _ = false) => ?_)) <;> replace hb := xnC hb <;> (try first | exact xfC | exact bff hb (by assumption) | exact bff (by assumption) hb)) | (with_reducible refine Both.mk ?_ ?_) | ((with_reducible refine And.intro ?_ ?_); focus exact xoC) | ((with_reducible refine Or.inl ⟨?_, ?_, ?_⟩); (focus rfl); focus exact xaC) | ((with_reducible refine xwB ?_ ?_); focus exact xaC) | ((with_reducible refine xwC ?_ ?_); focus exact xaC) | ((with_reducible refine xwD ?_ ?_); focus exact xaC) | ((with_reducible refine xwE ?_ ?_); focus exact xaC) | (with_reducible intro hc; (try simp only [capsP, and_true] at hc); (try exact xfC)) | ((fail_if_success (with_reducible first | refine xgon ?_ | intro _)); (conv => whnf); (fail_if_success (fail_if_success (with_reducible first | refine xstp ?_ | refine Both.mk ?_ ?_ | refine xgon ?_ | intro _)))))
        rename_i c3
        refine ⟨⟨(k + 1, c3), by simp only; omega⟩, [0, 1, 2, 5], by simp only; omega, ?_⟩
        (repeat' first | refine And.intro ?_ ?_ | exact xeC | fail)
        all_goals try rw [hac]
        all_goals first | omega | (simp only [List.length_append, List.length_singleton]; done) | (rw [List.length_append, List.length_singleton]; omega) | (intro i hi; (first | refine app_rowG _ _ _ _ ?_ i hi | refine app_row _ _ _ ?_ i hi); first | rfl | (simp only [Int.toNat_natCast, Nat.zero_add]; rfl))
      · rw [plc_none hfj]
        rw [show slotR R id t p ((k : Nat) + 1 : Int) = [] by unfold slotR; rw [if_neg hneq, hfj], List.append_nil] at hac
        refine rH50eA0 ?_
        repeat' (first | (fail_if_success (with_reducible refine xstp ?_)); first | ((with_reducible refine And.intro (fun (hb : _ = true) => ?_) (fun (hb : _ = false) => ?_)) <;> replace hb := xnC hb <;> (try first | exact xfC | exact bff hb (by assumption) | exact bff (by assumption) hb)) | (with_reducible refine Both.mk ?_ ?_) | ((with_reducible refine And.intro ?_ ?_); focus exact xoC) | ((with_reducible refine Or.inl ⟨?_, ?_, ?_⟩); (focus rfl); focus exact xaC) | ((with_reducible refine xwB ?_ ?_); focus exact xaC) | ((with_reducible refine xwC ?_ ?_); focus exact xaC) | ((with_reducible refine xwD ?_ ?_); focus exact xaC) | ((with_reducible refine xwE ?_ ?_); focus exact xaC) | (with_reducible intro hc; (try simp only [capsP, and_true] at hc); (try exact xfC)) | ((fail_if_success (with_reducible first | refine xgon ?_ | intro _)); (conv => whnf); (fail_if_success (fail_if_success (with_reducible first | refine xstp ?_ | refine Both.mk ?_ ?_ | refine xgon ?_ | intro _)))))
        refine ⟨⟨(k + 1, c2), by simp only; omega⟩, [0, 1, 2, 3], by simp only; omega, ?_⟩
        (repeat' first | refine And.intro ?_ ?_ | exact xeC | fail)
        all_goals first
          | (rw [hac]; done)
          | exact Nat.le_of_eq (congrArg List.length hac)
          | (intro q hq; rw [hac])
          | omega
    · obtain rfl : k = 8 := by omega
      refine FinK.mk ⟨[0, 1, 3], _, _, ⟨c2, rfl, rfl⟩, ?_⟩
      (repeat' first | refine And.intro ?_ ?_ | exact xeC | fail)
end Go.Proofs.Ytjaccepmnjkbbaa

namespace Go.Proofs.Ytjaccepmnjkbbaa
open Go.X
set_option linter.unusedSimpArgs false
set_option linter.unusedVariables false
def accL (R : List Pn) (k i : Nat) : List Pn := if i ≤ k then R.take i else R.take k ++ (R.drop (k + 1)).take (i - (k + 1))
theorem accL_skip (R : List Pn) (k : Nat) : accL R k (k + 1) = accL R k k := by
  unfold accL
  rw [if_neg (by omega), if_pos (Nat.le_refl _)]
  simp
theorem accL_snoc {R : List Pn} {k i : Nat} (hi : i < R.length) (h : i ≠ k) : accL R k (i + 1) = accL R k i ++ [R.getD i default] := by
  unfold accL
  by_cases h1 : i < k
  · rw [if_pos (by omega), if_pos (by omega)]
    exact take_snocG R hi
  · rw [if_neg (by omega), if_neg (by omega), List.append_assoc]
    congr 1
    rw [show i + 1 - (k + 1) = (i - (k + 1)) + 1 by omega, take_snocG _ (by rw [List.length_drop]; omega)]
    congr 2
    simp only [List.getD, List.getElem?_drop]
    rw [show k + 1 + (i - (k + 1)) = i by omega]
theorem accL_end (R : List Pn) {k : Nat} (hk : k < R.length) : accL R k R.length = R.take k ++ R.drop (k + 1) := by
  unfold accL
  rw [if_neg (by omega), List.take_of_length_le (l := R.drop (k + 1)) (by rw [List.length_drop]; omega)]
theorem accL_le (R : List Pn) (k i : Nat) (hi : i ≤ R.length) : (accL R k i).length ≤ i := by
  unfold accL
  split
  · rw [List.length_take]; omega
  · simp only [List.length_append, List.length_take, List.length_drop]; omega
set_option maxRecDepth 20000 in
set_option maxHeartbeats 1000000 in
theorem cLeaveR (hu ke : Int) (R : List Pn) (c : Nat) (id t : Int) (hR : R.length ≤ 8) :
    Ctr Try.prog 19 [.c (.p 0 0 0), .c (.i .i64 id), .c (.i .i64 t)] (refB hu ke R c)
      fun v h => ∃ c', v = .c (.i .i64 (leaE R id t : Nat)) ∧ h = [.one (refF hu ke 2 (leaM R id t).length c'), .one .no, .one (refR (leaM R id t) c')] := by
  refine Ctr.mk' tbv mixed Try.func19 rfl rfl rfl (fun _ _ => by kernel_rfl) (by kernel_rfl) (by rfl) (by rfl) (by (repeat' first | refine And.intro ?_ ?_ | exact xeC | fail)) ?_
  repeat' (first | (fail_if_success (with_reducible refine xstp ?_)); first | ((with_reducible refine And.intro (fun (hb : _ = true) => ?_) (fun (hb : _ = false) => ?_)) <;> replace hb := xnC hb <;> (try first | exact xfC | exact bff hb (by assumption) | exact bff (by assumption) hb)) | (with_reducible refine Both.mk ?_ ?_) | ((with_reducible refine And.intro ?_ ?_); focus exact xoC) | ((with_reducible refine Or.inl ⟨?_, ?_, ?_⟩); (focus rfl); focus exact xaC) | ((with_reducible refine xwB ?_ ?_); focus exact xaC) | ((with_reducible refine xwC ?_ ?_); focus exact xaC) | ((with_reducible refine xwD ?_ ?_); focus exact xaC) | ((with_reducible refine xwE ?_ ?_); focus exact xaC) | (with_reducible intro hc; (try simp only [capsP, and_true] at hc); (try exact xfC)) | ((fail_if_success (with_reducible first | refine xgon ?_ | intro _)); (conv => whnf); (fail_if_success (fail_if_success (with_reducible first | refine xstp ?_ | refine Both.mk ?_ ?_ | refine xgon ?_ | intro _)))))
  refine xcal (σ := [.whole 0, .whole 1]) (nl := []) (cplace hu ke R c id hR) ?_
  rintro v h' ⟨rfl, rfl⟩ hcaps
  rcases (by cases fndP R id <;> simp : (∃ i, fndP R id = some i) ∨ fndP R id = none) with ⟨k, hf⟩ | hf
  · have hkl := (fndP_lt hf).1
    rw [plc_some hf]
    refine xret ?_
    repeat' (first | (fail_if_success (with_reducible refine xstp ?_)); first | ((with_reducible refine And.intro (fun (hb : _ = true) => ?_) (fun (hb : _ = false) => ?_)) <;> replace hb := xnC hb <;> (try first | exact xfC | exact bff hb (by assumption) | exact bff (by assumption) hb)) | (with_reducible refine Both.mk ?_ ?_) | ((with_reducible refine And.intro ?_ ?_); focus exact xoC) | ((with_reducible refine Or.inl ⟨?_, ?_, ?_⟩); (focus rfl); focus exact xaC) | ((with_reducible refine xwB ?_ ?_); focus exact xaC) | ((with_reducible refine xwC ?_ ?_); focus exact xaC) | ((with_reducible refine xwD ?_ ?_); focus exact xaC) | ((with_reducible refine xwE ?_ ?_); focus exact xaC) | (with_reducible intro hc; (try simp only [capsP, and_true] at hc); (try exact xfC)) | ((fail_if_success (with_reducible first | refine xgon ?_ | intro _)); (conv => whnf); (fail_if_success (fail_if_success (with_reducible first | refine xstp ?_ | refine Both.mk ?_ ?_ | refine xgon ?_ | intro _)))))
    refine xcal (σ := []) (nl := []) (cTimeR t) ?_
    rintro v h' ⟨rfl, rfl⟩ hcaps
    refine xret ?_
    repeat' (first | (fail_if_success (with_reducible refine xstp ?_)); first | ((with_reducible refine And.intro (fun (hb : _ = true) => ?_) (fun (hb : _ = false) => ?_)) <;> replace hb := xnC hb <;> (try first | exact xfC | exact bff hb (by assumption) | exact bff (by assumption) hb)) | (with_reducible refine Both.mk ?_ ?_) | ((with_reducible refine And.intro ?_ ?_); focus exact xoC) | ((with_reducible refine Or.inl ⟨?_, ?_, ?_⟩); (focus rfl); focus exact xaC) | ((with_reducible refine xwB ?_ ?_); focus exact xaC) | ((with_reducible refine xwC ?_ ?_); focus exact xaC) | ((with_reducible refine xwD ?_ ?_); focus exact xaC) | ((with_reducible refine xwE ?_ ?_); focus exact xaC) | (with_reducible intro hc; (try simp only [capsP, and_true] at hc); (try exact xfC)) | ((fail_if_success (with_reducible first | refine xgon ?_ | intro _)); (conv => whnf); (fail_if_success (fail_if_success (with_reducible first | refine xstp ?_ | refine Both.mk ?_ ?_ | refine xgon ?_ | intro _)))))
    · have hE : leaE R id t = 17 := by unfold leaE; rw [hf]; exact if_pos (Or.inl hb)
      have hM : leaM R id t = R := if_pos (by rw [hE]; decide)
      rw [hE, hM]
      refine FinK.mk ⟨[0, 1, 1], _, _, ⟨c, rfl, rfl⟩, ?_⟩
      (repeat' first | refine And.intro ?_ ?_ | exact xeC | fail)
    · have hE : leaE R id t = 17 := by unfold leaE; rw [hf]; exact if_pos (Or.inr (by simpa using hb))
      have hM : leaM R id t = R := if_pos (by rw [hE]; decide)
      rw [hE, hM]
      refine FinK.mk ⟨[0, 1, 1], _, _, ⟨c, rfl, rfl⟩, ?_⟩
      (repeat' first | refine And.intro ?_ ?_ | exact xeC | fail)
    · have hot : okT t := by assumption
      have hE : leaE R id t = 0 := by unfold leaE; rw [hf]; exact if_neg (by intro h; rcases h with h | h; exact h hot; omega)
      have hM : leaM R id t = R.take k ++ R.drop (k + 1) := by unfold leaM; rw [if_neg (by rw [hE]; decide), hf]
      rw [hE, hM, ← accL_end R hkl]
      refine LoopK.mk' {q : Nat × Nat // q.1 ≤ R.length}
        (fun ⟨(i, c2), _⟩ => ⟨[(0, .c (.p 0 0 0)), (7, .c (.i .i64 (k : Nat))), (8, .c (.sl 2 0 4 0 (accL R k i).length c2)), (9, .c (.i .i64 (i : Nat)))],
          [.one (refC hu ke R.length c), .one (refR R c), .one (refR (accL R k i) c2)]⟩) (fun q => R.length - q.1.1)
        ⟨⟨(0, 0), Nat.zero_le _⟩, [0, 1, 99], ?_⟩ ?_
      · (repeat' first | refine And.intro ?_ ?_ | exact xeC | fail)
        all_goals first | rfl | (intro i hi; exact absurd hi (Nat.not_lt_zero i)) | simp [accL]
      rintro ⟨⟨i, c2⟩, hi⟩
      simp only at hi
      have hal := accL_le R k i hi
      repeat' (first | (fail_if_success (with_reducible refine xstp ?_)); first | ((with_reducible refine And.intro (fun (hb : _ = true) => ?_) (fun (hb : _ = false) => ?_)) <;> replace hb := xnC hb <;> (try first | exact xfC | exact bff hb (by assumption) | exact bff (by assumption) hb)) | (with_reducible refine Both.mk ?_ ?_) | ((with_reducible refine And.intro ?_ ?_); focus exact xoC) | ((with_reducible refine Or.inl ⟨?_, ?_, ?_⟩); (focus rfl); focus exact xaC) | ((with_reducible refine xwB ?_ ?_); focus exact xaC) | ((with_reducible refine xwC ?_ ?_); focus exact xaC) | ((with_reducible refine xwD ?_ ?_); focus exact xaC) | ((with_reducible refine xwE ?_ ?_); focus exact xaC) | (with_reducible intro hc; (try simp only [capsP, and_true] at hc); (try exact xfC)) | ((fail_if_success (with_reducible first | refine xgon ?_ | intro _)); (conv => whnf); (fail_if_success (fail_if_success (with_reducible first | refine xstp ?_ | refine Both.mk ?_ ?_ | refine xgon ?_ | intro _)))))
      · have hac := accL_snoc (R := R) (k := k) (i := i) (by omega) (by omega)
        rename_i c3
        refine ⟨⟨(i + 1, c3), by simp only; omega⟩, [0, 1, 4], by simp only; omega, ?_⟩
        (repeat' first | refine And.intro ?_ ?_ | exact xeC | fail)
        all_goals try rw [hac]
        all_goals first | omega | (simp only [List.length_append, List.length_singleton]; done) | (rw [List.length_append, List.length_singleton]; omega) | (intro i hi; (first | refine app_rowG _ _ _ _ ?_ i hi | refine app_row _ _ _ ?_ i hi); first | rfl | (simp only [Int.toNat_natCast, Nat.zero_add]; rfl))
      · have hki : i = k := by omega
        have hac := accL_skip R k
        rw [← hki] at hac
        refine ⟨⟨(i + 1, c2), by simp only; omega⟩, [0, 1, 2], by simp only; omega, ?_⟩
        (repeat' first | refine And.intro ?_ ?_ | exact xeC | fail)
        all_goals first
          | (rw [← hki, hac]; done)
          | (rw [← hki]; exact Nat.le_of_eq (congrArg List.length hac))
          | (intro q hq; rw [← hki, hac])
          | omega
      · obtain rfl : i = R.length := by omega
        refine FinK.mk ⟨[0, 1, 2], _, _, ⟨c2, rfl, rfl⟩, ?_⟩
        (repeat' first | refine And.intro ?_ ?_ | exact xeC | fail)
  · rw [plc_none hf]
    refine xret ?_
    repeat' (first | (fail_if_success (with_reducible refine xstp ?_)); first | ((with_reducible refine And.intro (fun (hb : _ = true) => ?_) (fun (hb : _ = false) => ?_)) <;> replace hb := xnC hb <;> (try first | exact xfC | exact bff hb (by assumption) | exact bff (by assumption) hb)) | (with_reducible refine Both.mk ?_ ?_) | ((with_reducible refine And.intro ?_ ?_); focus exact xoC) | ((with_reducible refine Or.inl ⟨?_, ?_, ?_⟩); (focus rfl); focus exact xaC) | ((with_reducible refine xwB ?_ ?_); focus exact xaC) | ((with_reducible refine xwC ?_ ?_); focus exact xaC) | ((with_reducible refine xwD ?_ ?_); focus exact xaC) | ((with_reducible refine xwE ?_ ?_); focus exact xaC) | (with_reducible intro hc; (try simp only [capsP, and_true] at hc); (try exact xfC)) | ((fail_if_success (with_reducible first | refine xgon ?_ | intro _)); (conv => whnf); (fail_if_success (fail_if_success (with_reducible first | refine xstp ?_ | refine Both.mk ?_ ?_ | refine xgon ?_ | intro _)))))
    have hE : leaE R id t = 6 := by unfold leaE; rw [hf]
    have hM : leaM R id t = R := if_pos (by rw [hE]; decide)
    rw [hE, hM]
    refine FinK.mk ⟨[0, 1, 1], _, _, ⟨c, rfl, rfl⟩, ?_⟩
    (repeat' first | refine And.intro ?_ ?_ | exact xeC | fail)
end Go.Proofs.Ytjaccepmnjkbbaa

namespace Go.Proofs.Ytjaccepmnjkbbaa
open Go.X
set_option linter.unusedSimpArgs false
set_option linter.unusedVariables false
theorem rH50eC0 {σ : List Sg} {H h' : List Fam} {v : T} {K : T → List Fam → Prop} {H' : List Fam} {v' : T} {N : Nat} (hk : K v' H') (hN : H.length = N := by (try simp only [↓List.length_cons, ↓List.length_nil, Nat.reduceAdd]) <;> rfl) (h : givesF σ N H σ h' = some H' := by (try simp (maxSteps := 1000000) only [givesF, setF, updF, Fam.zeroth, Fam.rk, Ck.rk, C.rk, E.rk, T.rk, key, List.map_cons, List.map_nil, List.cons_append, List.nil_append, List.length_cons, List.length_nil, Option.map_some, Option.bind_some, Nat.reduceAdd, Nat.zero_add, Nat.add_zero, Nat.add_sub_cancel_left, Int.toNat_natCast, reps, List.all_cons, List.all_nil, C.flat, List.append_eq, Bool.not_true, Bool.and_true, Bool.or_false, Bool.or_self, Bool.not_false, List.append_nil, Bool.and_self, encPt]) <;> rfl) (hv : v.rk σ N = v' := by (try simp only [givesF, setF, updF, Fam.zeroth, Fam.rk, Ck.rk, C.rk, E.rk, T.rk, key, List.map_cons, List.map_nil, List.cons_append, List.nil_append, List.length_cons, List.length_nil, Option.map_some, Option.bind_some, Nat.reduceAdd, Nat.zero_add, Nat.add_zero, Nat.add_sub_cancel_left, Int.toNat_natCast, reps, List.all_cons, List.all_nil, C.flat, List.append_eq, Bool.not_true, Bool.and_true, Bool.or_false, Bool.or_self, Bool.not_false, List.append_nil, Bool.and_self, encPt]) <;> rfl) : RetG σ H h' v K := ret_mk3 hN h hv hk
set_option maxRecDepth 10000 in
theorem cReachRR (hu ke : Int) (R : List Pn) (c : Nat) (id t : Int) (hR : R.length ≤ 8) (hh : 0 ≤ hu ∧ hu ≤ 4096) (hT : ∀ e ∈ R, okT e.t) :
    Ctr Try.prog 22 [.c (.p 0 0 0), .c (.i .i64 id), .c (.i .i64 t)] (refB hu ke R c)
      fun v h => v = .t [.a (encPt (reaV hu R id t).1), .c (.i .i64 (reaV hu R id t).2.1), .c (.b (reaV hu R id t).2.2)] ∧ h = refB hu ke R c := by
  refine Ctr.mk' tbv mixed Try.func22 rfl rfl rfl (fun _ _ => by kernel_rfl) (by kernel_rfl) (by rfl) (by rfl) (by (repeat' first | refine And.intro ?_ ?_ | exact xeC | fail)) ?_
  repeat' (first | (fail_if_success (with_reducible refine xstp ?_)); first | ((with_reducible refine And.intro (fun (hb : _ = true) => ?_) (fun (hb : _ = false) => ?_)) <;> replace hb := xnC hb <;> (try first | exact xfC | exact bff hb (by assumption) | exact bff (by assumption) hb)) | (with_reducible refine Both.mk ?_ ?_) | ((with_reducible refine And.intro ?_ ?_); focus exact xoC) | ((with_reducible refine Or.inl ⟨?_, ?_, ?_⟩); (focus rfl); focus exact xaC) | ((with_reducible refine xwB ?_ ?_); focus exact xaC) | ((with_reducible refine xwC ?_ ?_); focus exact xaC) | ((with_reducible refine xwD ?_ ?_); focus exact xaC) | ((with_reducible refine xwE ?_ ?_); focus exact xaC) | (with_reducible intro hc; (try simp only [capsP, and_true] at hc); (try exact xfC)) | ((fail_if_success (with_reducible first | refine xgon ?_ | intro _)); (conv => whnf); (fail_if_success (fail_if_success (with_reducible first | refine xstp ?_ | refine Both.mk ?_ ?_ | refine xgon ?_ | intro _)))))
  refine xcal (σ := [.whole 0, .whole 1]) (nl := []) (cplace hu ke R c id hR) ?_
  rintro v h' ⟨rfl, rfl⟩ hcaps
  rcases (by cases fndP R id <;> simp : (∃ i, fndP R id = some i) ∨ fndP R id = none) with ⟨k, hf⟩ | hf
  · have hkl := (fndP_lt hf).1
    rw [plc_some hf]
    refine rH50eC0 ?_
    repeat' (first | (fail_if_success (with_reducible refine xstp ?_)); first | ((with_reducible refine And.intro (fun (hb : _ = true) => ?_) (fun (hb : _ = false) => ?_)) <;> replace hb := xnC hb <;> (try first | exact xfC | exact bff hb (by assumption) | exact bff (by assumption) hb)) | (with_reducible refine Both.mk ?_ ?_) | ((with_reducible refine And.intro ?_ ?_); focus exact xoC) | ((with_reducible refine Or.inl ⟨?_, ?_, ?_⟩); (focus rfl); focus exact xaC) | ((with_reducible refine xwB ?_ ?_); focus exact xaC) | ((with_reducible refine xwC ?_ ?_); focus exact xaC) | ((with_reducible refine xwD ?_ ?_); focus exact xaC) | ((with_reducible refine xwE ?_ ?_); focus exact xaC) | (with_reducible intro hc; (try simp only [capsP, and_true] at hc); (try exact xfC)) | ((fail_if_success (with_reducible first | refine xgon ?_ | intro _)); (conv => whnf); (fail_if_success (fail_if_success (with_reducible first | refine xstp ?_ | refine Both.mk ?_ ?_ | refine xgon ?_ | intro _)))))
    refine xcal (σ := []) (nl := []) (cTimeR t) ?_
    rintro v h' ⟨rfl, rfl⟩ hcaps
    refine rH50eC0 ?_
    repeat' (first | (fail_if_success (with_reducible refine xstp ?_)); first | ((with_reducible refine And.intro (fun (hb : _ = true) => ?_) (fun (hb : _ = false) => ?_)) <;> replace hb := xnC hb <;> (try first | exact xfC | exact bff hb (by assumption) | exact bff (by assumption) hb)) | (with_reducible refine Both.mk ?_ ?_) | ((with_reducible refine And.intro ?_ ?_); focus exact xoC) | ((with_reducible refine Or.inl ⟨?_, ?_, ?_⟩); (focus rfl); focus exact xaC) | ((with_reducible refine xwB ?_ ?_); focus exact xaC) | ((with_reducible refine xwC ?_ ?_); focus exact xaC) | ((with_reducible refine xwD ?_ ?_); focus exact xaC) | ((with_reducible refine xwE ?_ ?_); focus exact xaC) | (with_reducible intro hc; (try simp only [capsP, and_true] at hc); (try exact xfC)) | ((fail_if_success (with_reducible first | refine xgon ?_ | intro _)); (conv => whnf); (fail_if_success (fail_if_success (with_reducible first | refine xstp ?_ | refine Both.mk ?_ ?_ | refine xgon ?_ | intro _)))))
    · have hV : reaV hu R id t = (⟨0, 0⟩, 0, false) := by unfold reaV; rw [hf]; exact if_neg hb
      rw [hV]
      refine FinK.mk ⟨[0, 1], _, _, ⟨rfl, rfl⟩, ?_⟩; (repeat' first | refine And.intro ?_ ?_ | exact xeC | fail)
    · have hot := hb
      have hV : reaV hu R id t = ((R.getD k default).p, hu * age (R.getD k default).t t, true) := by unfold reaV; rw [hf]; exact if_pos hb
      have hti := hT (R.getD k default) (by rw [getD_at hkl]; exact List.getElem_mem _)
      have hua := hu_age hh hti hb
      refine xcal (σ := []) (nl := []) (cAgeR (R.getD k default) t hti hb) ?_
      rintro v h' ⟨rfl, rfl⟩ hcaps
      refine rH50eC0 ?_
      repeat' (first | (fail_if_success (with_reducible refine xstp ?_)); first | ((with_reducible refine And.intro (fun (hb : _ = true) => ?_) (fun (hb : _ = false) => ?_)) <;> replace hb := xnC hb <;> (try first | exact xfC | exact bff hb (by assumption) | exact bff (by assumption) hb)) | (with_reducible refine Both.mk ?_ ?_) | ((with_reducible refine And.intro ?_ ?_); focus exact xoC) | ((with_reducible refine Or.inl ⟨?_, ?_, ?_⟩); (focus rfl); focus exact xaC) | ((with_reducible refine xwB ?_ ?_); focus exact xaC) | ((with_reducible refine xwC ?_ ?_); focus exact xaC) | ((with_reducible refine xwD ?_ ?_); focus exact xaC) | ((with_reducible refine xwE ?_ ?_); focus exact xaC) | (with_reducible intro hc; (try simp only [capsP, and_true] at hc); (try exact xfC)) | ((fail_if_success (with_reducible first | refine xgon ?_ | intro _)); (conv => whnf); (fail_if_success (fail_if_success (with_reducible first | refine xstp ?_ | refine Both.mk ?_ ?_ | refine xgon ?_ | intro _)))))
      rw [hV]
      refine FinK.mk ⟨[0, 1], _, _, ⟨rfl, rfl⟩, ?_⟩; (repeat' first | refine And.intro ?_ ?_ | exact xeC | fail)
  · rw [plc_none hf]
    refine rH50eC0 ?_
    repeat' (first | (fail_if_success (with_reducible refine xstp ?_)); first | ((with_reducible refine And.intro (fun (hb : _ = true) => ?_) (fun (hb : _ = false) => ?_)) <;> replace hb := xnC hb <;> (try first | exact xfC | exact bff hb (by assumption) | exact bff (by assumption) hb)) | (with_reducible refine Both.mk ?_ ?_) | ((with_reducible refine And.intro ?_ ?_); focus exact xoC) | ((with_reducible refine Or.inl ⟨?_, ?_, ?_⟩); (focus rfl); focus exact xaC) | ((with_reducible refine xwB ?_ ?_); focus exact xaC) | ((with_reducible refine xwC ?_ ?_); focus exact xaC) | ((with_reducible refine xwD ?_ ?_); focus exact xaC) | ((with_reducible refine xwE ?_ ?_); focus exact xaC) | (with_reducible intro hc; (try simp only [capsP, and_true] at hc); (try exact xfC)) | ((fail_if_success (with_reducible first | refine xgon ?_ | intro _)); (conv => whnf); (fail_if_success (fail_if_success (with_reducible first | refine xstp ?_ | refine Both.mk ?_ ?_ | refine xgon ?_ | intro _)))))
    have hV : reaV hu R id t = (⟨0, 0⟩, 0, false) := by unfold reaV; rw [hf]
    rw [hV]
    refine FinK.mk ⟨[0, 1], _, _, ⟨rfl, rfl⟩, ?_⟩; (repeat' first | refine And.intro ?_ ?_ | exact xeC | fail)
set_option maxRecDepth 10000 in
theorem cListR (hu ke : Int) (R : List Pn) (c : Nat) (hR : R.length ≤ 8) :
    Ctr Try.prog 24 [.c (.p 0 0 0)] (refB hu ke R c)
      fun v h => ∃ c', v = .c (.sl 2 0 1 0 (R.map Pn.id).length c') ∧ h = refB hu ke R c ++ [.one (intR (R.map Pn.id) c')] := by
  refine Ctr.mk' tbv mixed Try.func24 rfl rfl rfl (fun _ _ => by kernel_rfl) (by kernel_rfl) (by rfl) (by rfl) (by (repeat' first | refine And.intro ?_ ?_ | exact xeC | fail)) ?_
  repeat' (first | (fail_if_success (with_reducible refine xstp ?_)); first | ((with_reducible refine And.intro (fun (hb : _ = true) => ?_) (fun (hb : _ = false) => ?_)) <;> replace hb := xnC hb <;> (try first | exact xfC | exact bff hb (by assumption) | exact bff (by assumption) hb)) | (with_reducible refine Both.mk ?_ ?_) | ((with_reducible refine And.intro ?_ ?_); focus exact xoC) | ((with_reducible refine Or.inl ⟨?_, ?_, ?_⟩); (focus rfl); focus exact xaC) | ((with_reducible refine xwB ?_ ?_); focus exact xaC) | ((with_reducible refine xwC ?_ ?_); focus exact xaC) | ((with_reducible refine xwD ?_ ?_); focus exact xaC) | ((with_reducible refine xwE ?_ ?_); focus exact xaC) | (with_reducible intro hc; (try simp only [capsP, and_true] at hc); (try exact xfC)) | ((fail_if_success (with_reducible first | refine xgon ?_ | intro _)); (conv => whnf); (fail_if_success (fail_if_success (with_reducible first | refine xstp ?_ | refine Both.mk ?_ ?_ | refine xgon ?_ | intro _)))))
  refine LoopK.mk' {q : Nat × Nat // q.1 ≤ R.length}
    (fun ⟨(i, c2), _⟩ => ⟨[(0, .c (.p 0 0 0)), (3, .c (.sl 2 0 1 0 ((R.take i).map Pn.id).length c2)), (4, .c (.i .i64 (i : Nat)))],
      [.one (refC hu ke R.length c), .one (refR R c), .one (intR ((R.take i).map Pn.id) c2)]⟩) (fun q => R.length - q.1.1)
    ⟨⟨(0, 0), Nat.zero_le _⟩, [0, 1, 99], ?_⟩ ?_
  · (repeat' first | refine And.intro ?_ ?_ | exact xeC | fail)
    all_goals (intro i hi; exact absurd hi (Nat.not_lt_zero i))
  rintro ⟨⟨i, c2⟩, hi⟩
  simp only at hi
  have hml : ((R.take i).map Pn.id).length = i := by rw [List.length_map, List.length_take]; omega
  repeat' (first | (fail_if_success (with_reducible refine xstp ?_)); first | ((with_reducible refine And.intro (fun (hb : _ = true) => ?_) (fun (hb : _ = false) => ?_)) <;> replace hb := xnC hb <;> (try first | exact xfC | exact bff hb (by assumption) | exact bff (by assumption) hb)) | (with_reducible refine Both.mk ?_ ?_) | ((with_reducible refine And.intro ?_ ?_); focus exact xoC) | ((with_reducible refine Or.inl ⟨?_, ?_, ?_⟩); (focus rfl); focus exact xaC) | ((with_reducible refine xwB ?_ ?_); focus exact xaC) | ((with_reducible refine xwC ?_ ?_); focus exact xaC) | ((with_reducible refine xwD ?_ ?_); focus exact xaC) | ((with_reducible refine xwE ?_ ?_); focus exact xaC) | (with_reducible intro hc; (try simp only [capsP, and_true] at hc); (try exact xfC)) | ((fail_if_success (with_reducible first | refine xgon ?_ | intro _)); (conv => whnf); (fail_if_success (fail_if_success (with_reducible first | refine xstp ?_ | refine Both.mk ?_ ?_ | refine xgon ?_ | intro _)))))
  · rename_i c3
    have hms : (R.take (i + 1)).map Pn.id = (R.take i).map Pn.id ++ [(R.getD i default).id] := by rw [take_snocG R (by omega), List.map_append]; rfl
    refine ⟨⟨(i + 1, c3), by simp only; omega⟩, [0, 1, 4], by simp only; omega, ?_⟩
    (repeat' first | refine And.intro ?_ ?_ | exact xeC | fail)
    all_goals try rw [hms]
    all_goals first | omega | (simp only [List.length_append, List.length_singleton]; done) | (rw [List.length_append, List.length_singleton]; omega) | (intro i hi; (first | refine app_rowG _ _ _ _ ?_ i hi | refine app_row _ _ _ ?_ i hi); first | rfl | (simp only [Int.toNat_natCast, Nat.zero_add]; rfl))
  · rw [List.take_of_length_le (by omega)]
    refine FinK.mk ⟨[0, 1, 2], _, _, ⟨c2, rfl, rfl⟩, ?_⟩
    (repeat' first | refine And.intro ?_ ?_ | exact xeC | fail)
def stepR (hu t : Int) (p : Pt) (b : Int) (e : Pn) : Int := if b < 0 ∨ gapD hu e t p < b then gapD hu e t p else b
def gapLR (hu : Int) (t : Int) (p : Pt) (l : List Pn) : Int := l.foldl (stepR hu t p) (-1)
def gapVR (hu : Int) (R : List Pn) (t : Int) (p : Pt) : Int × Bool := if R.length = 0 then (0, false) else if ¬ (okT t ∧ okP p) then (0, true) else (gapLR hu t p R, true)
theorem gapLR_snoc (hu t : Int) (p : Pt) (l : List Pn) {i : Nat} (h : i < l.length) : gapLR hu t p (l.take (i + 1)) = stepR hu t p (gapLR hu t p (l.take i)) (l.getD i default) := by
  unfold gapLR
  rw [take_snocG l h, List.foldl_append]
  rfl
set_option maxRecDepth 10000 in
theorem cGapR (hu ke : Int) (R : List Pn) (c : Nat) (t : Int) (p : Pt) (hR : R.length ≤ 8) (hh : 0 ≤ hu ∧ hu ≤ 4096) (hT : ∀ e ∈ R, okT e.t) (hP : ∀ e ∈ R, okP e.p) :
    Ctr Try.prog 20 [.c (.p 0 0 0), .c (.i .i64 t), .a (encPt p)] (refB hu ke R c)
      fun v h => v = .t [.c (.i .i64 (gapVR hu R t p).1), .c (.b (gapVR hu R t p).2)] ∧ h = refB hu ke R c := by
  refine Ctr.mk' tbv mixed Try.func20 rfl rfl rfl (fun _ _ => by kernel_rfl) (by kernel_rfl) (by rfl) (by rfl) (by (repeat' first | refine And.intro ?_ ?_ | exact xeC | fail)) ?_
  repeat' (first | (fail_if_success (with_reducible refine xstp ?_)); first | ((with_reducible refine And.intro (fun (hb : _ = true) => ?_) (fun (hb : _ = false) => ?_)) <;> replace hb := xnC hb <;> (try first | exact xfC | exact bff hb (by assumption) | exact bff (by assumption) hb)) | (with_reducible refine Both.mk ?_ ?_) | ((with_reducible refine And.intro ?_ ?_); focus exact xoC) | ((with_reducible refine Or.inl ⟨?_, ?_, ?_⟩); (focus rfl); focus exact xaC) | ((with_reducible refine xwB ?_ ?_); focus exact xaC) | ((with_reducible refine xwC ?_ ?_); focus exact xaC) | ((with_reducible refine xwD ?_ ?_); focus exact xaC) | ((with_reducible refine xwE ?_ ?_); focus exact xaC) | (with_reducible intro hc; (try simp only [capsP, and_true] at hc); (try exact xfC)) | ((fail_if_success (with_reducible first | refine xgon ?_ | intro _)); (conv => whnf); (fail_if_success (fail_if_success (with_reducible first | refine xstp ?_ | refine Both.mk ?_ ?_ | refine xgon ?_ | intro _)))))
  · rw [show gapVR hu R t p = (0, false) from if_pos (by omega)]
    refine FinK.mk ⟨[0, 1], _, _, ⟨rfl, rfl⟩, ?_⟩; (repeat' first | refine And.intro ?_ ?_ | exact xeC | fail)
  refine xcal (σ := []) (nl := []) (cTimeR t) ?_
  rintro v h' ⟨rfl, rfl⟩ hcaps
  refine rH50eC0 ?_
  repeat' (first | (fail_if_success (with_reducible refine xstp ?_)); first | ((with_reducible refine And.intro (fun (hb : _ = true) => ?_) (fun (hb : _ = false) => ?_)) <;> replace hb := xnC hb <;> (try first | exact xfC | exact bff hb (by assumption) | exact bff (by assumption) hb)) | (with_reducible refine Both.mk ?_ ?_) | ((with_reducible refine And.intro ?_ ?_); focus exact xoC) | ((with_reducible refine Or.inl ⟨?_, ?_, ?_⟩); (focus rfl); focus exact xaC) | ((with_reducible refine xwB ?_ ?_); focus exact xaC) | ((with_reducible refine xwC ?_ ?_); focus exact xaC) | ((with_reducible refine xwD ?_ ?_); focus exact xaC) | ((with_reducible refine xwE ?_ ?_); focus exact xaC) | (with_reducible intro hc; (try simp only [capsP, and_true] at hc); (try exact xfC)) | ((fail_if_success (with_reducible first | refine xgon ?_ | intro _)); (conv => whnf); (fail_if_success (fail_if_success (with_reducible first | refine xstp ?_ | refine Both.mk ?_ ?_ | refine xgon ?_ | intro _)))))
  · rw [show gapVR hu R t p = (0, true) by unfold gapVR; rw [if_neg (by omega), if_pos (fun h => hb h.1)]]
    refine FinK.mk ⟨[0, 1], _, _, ⟨rfl, rfl⟩, ?_⟩; (repeat' first | refine And.intro ?_ ?_ | exact xeC | fail)
  refine xcal (σ := []) (nl := []) (cReachesR p) ?_
  rintro v h' ⟨rfl, rfl⟩ hcaps
  refine rH50eC0 ?_
  repeat' (first | (fail_if_success (with_reducible refine xstp ?_)); first | ((with_reducible refine And.intro (fun (hb : _ = true) => ?_) (fun (hb : _ = false) => ?_)) <;> replace hb := xnC hb <;> (try first | exact xfC | exact bff hb (by assumption) | exact bff (by assumption) hb)) | (with_reducible refine Both.mk ?_ ?_) | ((with_reducible refine And.intro ?_ ?_); focus exact xoC) | ((with_reducible refine Or.inl ⟨?_, ?_, ?_⟩); (focus rfl); focus exact xaC) | ((with_reducible refine xwB ?_ ?_); focus exact xaC) | ((with_reducible refine xwC ?_ ?_); focus exact xaC) | ((with_reducible refine xwD ?_ ?_); focus exact xaC) | ((with_reducible refine xwE ?_ ?_); focus exact xaC) | (with_reducible intro hc; (try simp only [capsP, and_true] at hc); (try exact xfC)) | ((fail_if_success (with_reducible first | refine xgon ?_ | intro _)); (conv => whnf); (fail_if_success (fail_if_success (with_reducible first | refine xstp ?_ | refine Both.mk ?_ ?_ | refine xgon ?_ | intro _)))))
  · rw [show gapVR hu R t p = (0, true) by unfold gapVR; rw [if_neg (by omega), if_pos (fun h => hb h.2)]]
    refine FinK.mk ⟨[0, 1], _, _, ⟨rfl, rfl⟩, ?_⟩; (repeat' first | refine And.intro ?_ ?_ | exact xeC | fail)
  have hot : okT t := by assumption
  have hop : okP p := by assumption
  rw [show gapVR hu R t p = (gapLR hu t p R, true) by unfold gapVR; rw [if_neg (by omega), if_neg (by simp [hot, hop])]]
  refine LoopK.mk' {i : Nat // i ≤ R.length}
    (fun ⟨i, _⟩ => ⟨[(0, .c (.p 0 0 0)), (1, .c (.i .i64 t)), (5, .c (.p 2 0 0)), (8, .c (.i .i64 (gapLR hu t p (R.take i)))), (9, .c (.i .i64 (i : Nat)))],
      [.one (refC hu ke R.length c), .one (refR R c), .one (.cells true (encPt p))]⟩) (fun k => R.length - k.1)
    ⟨⟨0, Nat.zero_le _⟩, [0, 1, 2], ?_⟩ ?_
  · (repeat' first | refine And.intro ?_ ?_ | exact xeC | fail)
  rintro ⟨i, hi⟩
  repeat' (first | (fail_if_success (with_reducible refine xstp ?_)); first | ((with_reducible refine And.intro (fun (hb : _ = true) => ?_) (fun (hb : _ = false) => ?_)) <;> replace hb := xnC hb <;> (try first | exact xfC | exact bff hb (by assumption) | exact bff (by assumption) hb)) | (with_reducible refine Both.mk ?_ ?_) | ((with_reducible refine And.intro ?_ ?_); focus exact xoC) | ((with_reducible refine Or.inl ⟨?_, ?_, ?_⟩); (focus rfl); focus exact xaC) | ((with_reducible refine xwB ?_ ?_); focus exact xaC) | ((with_reducible refine xwC ?_ ?_); focus exact xaC) | ((with_reducible refine xwD ?_ ?_); focus exact xaC) | ((with_reducible refine xwE ?_ ?_); focus exact xaC) | (with_reducible intro hc; (try simp only [capsP, and_true] at hc); (try exact xfC)) | ((fail_if_success (with_reducible first | refine xgon ?_ | intro _)); (conv => whnf); (fail_if_success (fail_if_success (with_reducible first | refine xstp ?_ | refine Both.mk ?_ ?_ | refine xgon ?_ | intro _)))))
  · have hmj : R.getD i default ∈ R := by rw [getD_at (by omega)]; exact List.getElem_mem _
    have hti := hT _ hmj
    obtain ⟨s1, s2, s3⟩ := okP_sub hop (hP _ hmj)
    have hua := hu_age hh hti hot
    have hdl := isq_lt (sqP (p.sub (R.getD i default).p))
    have hst := gapLR_snoc hu t p R (i := i) (by omega)
    have hgd : gapD hu (R.getD i default) t p = max 0 ((dst p (R.getD i default).p : Int) - 1 - hu * age (R.getD i default).t t) := rfl
    have hdd : dst p (R.getD i default).p = isq (sqP (p.sub (R.getD i default).p)) := rfl
    unfold stepR at hst
    refine xcal (σ := []) (nl := []) (cDistanceR p (R.getD i default).p s1 s2 s3) ?_
    rintro v h' ⟨rfl, rfl⟩ hcaps
    refine rH50eC0 ?_
    repeat' (first | (fail_if_success (with_reducible refine xstp ?_)); first | ((with_reducible refine And.intro (fun (hb : _ = true) => ?_) (fun (hb : _ = false) => ?_)) <;> replace hb := xnC hb <;> (try first | exact xfC | exact bff hb (by assumption) | exact bff (by assumption) hb)) | (with_reducible refine Both.mk ?_ ?_) | ((with_reducible refine And.intro ?_ ?_); focus exact xoC) | ((with_reducible refine Or.inl ⟨?_, ?_, ?_⟩); (focus rfl); focus exact xaC) | ((with_reducible refine xwB ?_ ?_); focus exact xaC) | ((with_reducible refine xwC ?_ ?_); focus exact xaC) | ((with_reducible refine xwD ?_ ?_); focus exact xaC) | ((with_reducible refine xwE ?_ ?_); focus exact xaC) | (with_reducible intro hc; (try simp only [capsP, and_true] at hc); (try exact xfC)) | ((fail_if_success (with_reducible first | refine xgon ?_ | intro _)); (conv => whnf); (fail_if_success (fail_if_success (with_reducible first | refine xstp ?_ | refine Both.mk ?_ ?_ | refine xgon ?_ | intro _)))))
    refine xcal (σ := []) (nl := []) (cAgeR (R.getD i default) t hti hot) ?_
    rintro v h' ⟨rfl, rfl⟩ hcaps
    refine rH50eC0 ?_
    repeat' (first | (fail_if_success (with_reducible refine xstp ?_)); first | ((with_reducible refine And.intro (fun (hb : _ = true) => ?_) (fun (hb : _ = false) => ?_)) <;> replace hb := xnC hb <;> (try first | exact xfC | exact bff hb (by assumption) | exact bff (by assumption) hb)) | (with_reducible refine Both.mk ?_ ?_) | ((with_reducible refine And.intro ?_ ?_); focus exact xoC) | ((with_reducible refine Or.inl ⟨?_, ?_, ?_⟩); (focus rfl); focus exact xaC) | ((with_reducible refine xwB ?_ ?_); focus exact xaC) | ((with_reducible refine xwC ?_ ?_); focus exact xaC) | ((with_reducible refine xwD ?_ ?_); focus exact xaC) | ((with_reducible refine xwE ?_ ?_); focus exact xaC) | (with_reducible intro hc; (try simp only [capsP, and_true] at hc); (try exact xfC)) | ((fail_if_success (with_reducible first | refine xgon ?_ | intro _)); (conv => whnf); (fail_if_success (fail_if_success (with_reducible first | refine xstp ?_ | refine Both.mk ?_ ?_ | refine xgon ?_ | intro _)))))
    all_goals (
      rw [hgd] at hst
      refine ⟨⟨i + 1, by omega⟩, [0, 1, 2], by simp only; omega, ?_⟩
      (repeat' first | refine And.intro ?_ ?_ | exact xeC | fail)
      all_goals first
        | (rw [hst, if_pos (by omega)]; done)
        | (rw [hst, if_pos (by omega)]; omega)
        | (rw [hst, if_neg (by omega)]; done)
        | (rw [hst, if_neg (by omega)]; omega))
  · rw [List.take_of_length_le (by omega)]
    refine FinK.mk ⟨[0, 1], _, _, ⟨rfl, rfl⟩, ?_⟩; (repeat' first | refine And.intro ?_ ?_ | exact xeC | fail)
def staR (ke : Int) (R : List Pn) (t : Int) : List Int := (R.filter fun e => decide (¬ okT t ∨ ke < age e.t t)).map Pn.id
set_option maxRecDepth 10000 in
theorem cStaleR (hu ke : Int) (R : List Pn) (c : Nat) (t : Int) (hR : R.length ≤ 8) (hT : ∀ e ∈ R, okT e.t) :
    Ctr Try.prog 25 [.c (.p 0 0 0), .c (.i .i64 t)] (refB hu ke R c)
      fun v h => ∃ c', v = .c (.sl 2 0 1 0 (staR ke R t).length c') ∧ h = refB hu ke R c ++ [.one (intR (staR ke R t) c')] := by
  refine Ctr.mk' tbv mixed Try.func25 rfl rfl rfl (fun _ _ => by kernel_rfl) (by kernel_rfl) (by rfl) (by rfl) (by (repeat' first | refine And.intro ?_ ?_ | exact xeC | fail)) ?_
  repeat' (first | (fail_if_success (with_reducible refine xstp ?_)); first | ((with_reducible refine And.intro (fun (hb : _ = true) => ?_) (fun (hb : _ = false) => ?_)) <;> replace hb := xnC hb <;> (try first | exact xfC | exact bff hb (by assumption) | exact bff (by assumption) hb)) | (with_reducible refine Both.mk ?_ ?_) | ((with_reducible refine And.intro ?_ ?_); focus exact xoC) | ((with_reducible refine Or.inl ⟨?_, ?_, ?_⟩); (focus rfl); focus exact xaC) | ((with_reducible refine xwB ?_ ?_); focus exact xaC) | ((with_reducible refine xwC ?_ ?_); focus exact xaC) | ((with_reducible refine xwD ?_ ?_); focus exact xaC) | ((with_reducible refine xwE ?_ ?_); focus exact xaC) | (with_reducible intro hc; (try simp only [capsP, and_true] at hc); (try exact xfC)) | ((fail_if_success (with_reducible first | refine xgon ?_ | intro _)); (conv => whnf); (fail_if_success (fail_if_success (with_reducible first | refine xstp ?_ | refine Both.mk ?_ ?_ | refine xgon ?_ | intro _)))))
  refine LoopK.mk' {q : Nat × Nat // q.1 ≤ R.length}
    (fun ⟨(i, c2), _⟩ => ⟨[(0, .c (.p 0 0 0)), (1, .c (.i .i64 t)), (5, .c (.sl 2 0 1 0 (((R.take i).filter fun e => decide (¬ okT t ∨ ke < age e.t t)).map Pn.id).length c2)), (6, .c (.i .i64 (i : Nat)))],
      [.one (refC hu ke R.length c), .one (refR R c), .one (intR (((R.take i).filter fun e => decide (¬ okT t ∨ ke < age e.t t)).map Pn.id) c2)]⟩) (fun q => R.length - q.1.1)
    ⟨⟨(0, 0), Nat.zero_le _⟩, [0, 1, 99], ?_⟩ ?_
  · (repeat' first | refine And.intro ?_ ?_ | exact xeC | fail)
    all_goals (intro i hi; exact absurd hi (Nat.not_lt_zero i))
  rintro ⟨⟨i, c2⟩, hi⟩
  simp only at hi
  have hfl : (((R.take i).filter fun e => decide (¬ okT t ∨ ke < age e.t t)).map Pn.id).length ≤ i := by
    have h1 := List.length_filter_le (fun e : Pn => decide (¬ okT t ∨ ke < age e.t t)) (R.take i)
    rw [List.length_take] at h1
    rw [List.length_map]
    omega
  repeat' (first | (fail_if_success (with_reducible refine xstp ?_)); first | ((with_reducible refine And.intro (fun (hb : _ = true) => ?_) (fun (hb : _ = false) => ?_)) <;> replace hb := xnC hb <;> (try first | exact xfC | exact bff hb (by assumption) | exact bff (by assumption) hb)) | (with_reducible refine Both.mk ?_ ?_) | ((with_reducible refine And.intro ?_ ?_); focus exact xoC) | ((with_reducible refine Or.inl ⟨?_, ?_, ?_⟩); (focus rfl); focus exact xaC) | ((with_reducible refine xwB ?_ ?_); focus exact xaC) | ((with_reducible refine xwC ?_ ?_); focus exact xaC) | ((with_reducible refine xwD ?_ ?_); focus exact xaC) | ((with_reducible refine xwE ?_ ?_); focus exact xaC) | (with_reducible intro hc; (try simp only [capsP, and_true] at hc); (try exact xfC)) | ((fail_if_success (with_reducible first | refine xgon ?_ | intro _)); (conv => whnf); (fail_if_success (fail_if_success (with_reducible first | refine xstp ?_ | refine Both.mk ?_ ?_ | refine xgon ?_ | intro _)))))
  · have hfs := filter_snoc (fun e : Pn => decide (¬ okT t ∨ ke < age e.t t)) R (i := i) (by omega)
    have hti := hT (R.getD i default) (by rw [getD_at (by omega)]; exact List.getElem_mem _)
    refine xcal (σ := []) (nl := []) (cTimeR t) ?_
    rintro v h' ⟨rfl, rfl⟩ hcaps
    refine xret ?_
    repeat' (first | (fail_if_success (with_reducible refine xstp ?_)); first | ((with_reducible refine And.intro (fun (hb : _ = true) => ?_) (fun (hb : _ = false) => ?_)) <;> replace hb := xnC hb <;> (try first | exact xfC | exact bff hb (by assumption) | exact bff (by assumption) hb)) | (with_reducible refine Both.mk ?_ ?_) | ((with_reducible refine And.intro ?_ ?_); focus exact xoC) | ((with_reducible refine Or.inl ⟨?_, ?_, ?_⟩); (focus rfl); focus exact xaC) | ((with_reducible refine xwB ?_ ?_); focus exact xaC) | ((with_reducible refine xwC ?_ ?_); focus exact xaC) | ((with_reducible refine xwD ?_ ?_); focus exact xaC) | ((with_reducible refine xwE ?_ ?_); focus exact xaC) | (with_reducible intro hc; (try simp only [capsP, and_true] at hc); (try exact xfC)) | ((fail_if_success (with_reducible first | refine xgon ?_ | intro _)); (conv => whnf); (fail_if_success (fail_if_success (with_reducible first | refine xstp ?_ | refine Both.mk ?_ ?_ | refine xgon ?_ | intro _)))))
    · rw [if_pos (decide_eq_true (Or.inl hb))] at hfs
      rename_i c3
      have hms := congrArg (List.map Pn.id) hfs
      rw [List.map_append, show List.map Pn.id [R.getD i default] = [(R.getD i default).id] from rfl] at hms
      refine ⟨⟨(i + 1, c3), by simp only; omega⟩, [0, 1, 4], by simp only; omega, ?_⟩
      (repeat' first | refine And.intro ?_ ?_ | exact xeC | fail)
      all_goals try rw [hms]
      all_goals first | omega | (simp only [List.length_append, List.length_singleton]; done) | (rw [List.length_append, List.length_singleton]; omega) | (intro i hi; (first | refine app_rowG _ _ _ _ ?_ i hi | refine app_row _ _ _ ?_ i hi); first | rfl | (simp only [Int.toNat_natCast, Nat.zero_add]; rfl))
    · have hot : okT t := by assumption
      refine xcal (σ := []) (nl := []) (cAgeR (R.getD i default) t hti hot) ?_
      rintro v h' ⟨rfl, rfl⟩ hcaps
      refine xret ?_
      repeat' (first | (fail_if_success (with_reducible refine xstp ?_)); first | ((with_reducible refine And.intro (fun (hb : _ = true) => ?_) (fun (hb : _ = false) => ?_)) <;> replace hb := xnC hb <;> (try first | exact xfC | exact bff hb (by assumption) | exact bff (by assumption) hb)) | (with_reducible refine Both.mk ?_ ?_) | ((with_reducible refine And.intro ?_ ?_); focus exact xoC) | ((with_reducible refine Or.inl ⟨?_, ?_, ?_⟩); (focus rfl); focus exact xaC) | ((with_reducible refine xwB ?_ ?_); focus exact xaC) | ((with_reducible refine xwC ?_ ?_); focus exact xaC) | ((with_reducible refine xwD ?_ ?_); focus exact xaC) | ((with_reducible refine xwE ?_ ?_); focus exact xaC) | (with_reducible intro hc; (try simp only [capsP, and_true] at hc); (try exact xfC)) | ((fail_if_success (with_reducible first | refine xgon ?_ | intro _)); (conv => whnf); (fail_if_success (fail_if_success (with_reducible first | refine xstp ?_ | refine Both.mk ?_ ?_ | refine xgon ?_ | intro _)))))
      · rw [if_pos (decide_eq_true (Or.inr hb))] at hfs
        rename_i c3
        have hms := congrArg (List.map Pn.id) hfs
        rw [List.map_append, show List.map Pn.id [R.getD i default] = [(R.getD i default).id] from rfl] at hms
        refine ⟨⟨(i + 1, c3), by simp only; omega⟩, [0, 1, 4], by simp only; omega, ?_⟩
        (repeat' first | refine And.intro ?_ ?_ | exact xeC | fail)
        all_goals try rw [hms]
        all_goals first | omega | (simp only [List.length_append, List.length_singleton]; done) | (rw [List.length_append, List.length_singleton]; omega) | (intro i hi; (first | refine app_rowG _ _ _ _ ?_ i hi | refine app_row _ _ _ ?_ i hi); first | rfl | (simp only [Int.toNat_natCast, Nat.zero_add]; rfl))
      · rw [if_neg (show ¬ (decide (¬ okT t ∨ ke < age (R.getD i default).t t) = true) by
            rw [decide_eq_true_eq]; intro h; rcases h with h | h; exact h hot; omega), List.append_nil] at hfs
        have hms := congrArg (List.map Pn.id) hfs
        refine ⟨⟨(i + 1, c2), by simp only; omega⟩, [0, 1, 2], by simp only; omega, ?_⟩
        (repeat' first | refine And.intro ?_ ?_ | exact xeC | fail)
        all_goals first
          | (rw [hms]; done)
          | exact Nat.le_of_eq (congrArg List.length hms)
          | (intro j hj; rw [hms])
  · rw [List.take_of_length_le (by omega)]
    refine FinK.mk ⟨[0, 1, 2], _, _, ⟨c2, rfl, rfl⟩, ?_⟩
    (repeat' first | refine And.intro ?_ ?_ | exact xeC | fail)
end Go.Proofs.Ytjaccepmnjkbbaa

namespace Go.Proofs.Ytjaccepmnjkbbaa
open Go.X
set_option linter.unusedVariables false
set_option linter.unusedSimpArgs false
def strip (e : Pn) : Pn := ⟨0, e.id, e.t, e.p⟩
def refL (M : List Pn) : List Pn := (lst M).map fun id => strip (ent M id)
theorem mem_at {M : List Pn} {e : Pn} : e ∈ M ↔ ∃ i, i < M.length ∧ M.getD i default = e := by
  constructor
  · intro h
    obtain ⟨i, hi, rfl⟩ := List.mem_iff_getElem.1 h
    exact ⟨i, hi, getD_at hi⟩
  · rintro ⟨i, hi, rfl⟩
    rw [getD_at hi]; exact List.getElem_mem _
theorem sortedP_uniq : ∀ {l m : List Pn}, l.Pairwise (fun a b => a.id < b.id) → m.Pairwise (fun a b => a.id < b.id) → (∀ x, x ∈ l ↔ x ∈ m) → l = m
  | [], [], _, _, _ => rfl
  | [], b :: m, _, _, h => absurd ((h b).2 (List.mem_cons_self ..)) (by simp)
  | a :: l, [], _, _, h => absurd ((h a).1 (List.mem_cons_self ..)) (by simp)
  | a :: l, b :: m, hl, hm, h => by
    have hl' := List.pairwise_cons.1 hl
    have hm' := List.pairwise_cons.1 hm
    have hab : a = b := by
      rcases List.mem_cons.1 ((h a).1 (List.mem_cons_self ..)) with e | e
      · exact e
      · rcases List.mem_cons.1 ((h b).2 (List.mem_cons_self ..)) with e' | e'
        · exact e'.symm
        · have := hl'.1 b e'
          have := hm'.1 a e
          omega
    subst hab
    rw [sortedP_uniq hl'.2 hm'.2 fun x => ?_]
    constructor
    · intro hx
      rcases List.mem_cons.1 ((h x).1 (List.mem_cons_of_mem _ hx)) with e | e
      · have := hl'.1 x hx; rw [e] at this; omega
      · exact e
    · intro hx
      rcases List.mem_cons.1 ((h x).2 (List.mem_cons_of_mem _ hx)) with e | e
      · have := hm'.1 x hx; rw [e] at this; omega
      · exact e
theorem fndP_mem {M : List Pn} {id : Int} {i : Nat} (h : fndP M id = some i) : M.getD i default ∈ M ∧ (M.getD i default).id = id := by
  obtain ⟨h1, h2⟩ := fndP_lt h
  exact ⟨mem_at.2 ⟨i, h1, rfl⟩, h2⟩
theorem POk.inj {ck : Nat} {M : List Pn} (h : POk ck M) {a b : Pn} (ha : a ∈ M) (hb : b ∈ M) (e : a.id = b.id) : a = b := by
  obtain ⟨i, hi, rfl⟩ := mem_at.1 ha
  obtain ⟨j, hj, rfl⟩ := mem_at.1 hb
  rcases (by omega : i < j ∨ j < i ∨ i = j) with h1 | h1 | h1
  · exact absurd e (h.ne i j h1 hj)
  · exact absurd e.symm (h.ne j i h1 hi)
  · rw [h1]
theorem ent_of {ck : Nat} {M : List Pn} (h : POk ck M) {e : Pn} (he : e ∈ M) : ent M e.id = e := by
  obtain ⟨i, hi, rfl⟩ := mem_at.1 he
  exact ent_at (fndP_some h.ne hi rfl)
theorem mem_lstE {ck : Nat} {M : List Pn} (h : POk ck M) (x : Int) : x ∈ lst M ↔ ∃ e ∈ M, e.id = x := by
  rw [mem_lst h]
  constructor
  · rintro ⟨i, hi, e⟩; exact ⟨_, mem_at.2 ⟨i, hi, rfl⟩, e⟩
  · rintro ⟨e, he, rfl⟩
    obtain ⟨i, hi, rfl⟩ := mem_at.1 he
    exact ⟨i, hi, rfl⟩
theorem mem_refL {ck : Nat} {M : List Pn} (h : POk ck M) (x : Pn) : x ∈ refL M ↔ ∃ e ∈ M, x = strip e := by
  unfold refL
  rw [List.mem_map]
  constructor
  · rintro ⟨id, hid, rfl⟩
    obtain ⟨e, he, rfl⟩ := (mem_lstE h id).1 hid
    exact ⟨e, he, by rw [ent_of h he]⟩
  · rintro ⟨e, he, rfl⟩
    exact ⟨e.id, (mem_lstE h _).2 ⟨e, he, rfl⟩, by rw [ent_of h he]⟩
theorem refL_map {ck : Nat} {M : List Pn} (h : POk ck M) : (refL M).map Pn.id = lst M := by
  unfold refL
  rw [List.map_map]
  conv => rhs; rw [← List.map_id (lst M)]
  apply List.map_congr_left
  intro x hx
  obtain ⟨e, he, rfl⟩ := (mem_lstE h x).1 hx
  show (strip (ent M e.id)).id = e.id
  rw [ent_of h he]
  rfl
theorem refL_len (M : List Pn) : (refL M).length ≤ 8 := by
  unfold refL
  rw [List.length_map]
  exact lst_len M
theorem refL_pw {ck : Nat} {M : List Pn} (h : POk ck M) : (refL M).Pairwise (fun a b => a.id < b.id) := by
  have := lst_pw M
  rw [← refL_map h, List.pairwise_map] at this
  exact this
theorem refL_t {ck : Nat} {M : List Pn} (h : POk ck M) : ∀ e ∈ refL M, okT e.t := by
  intro e he
  obtain ⟨x, hx, rfl⟩ := (mem_refL h e).1 he
  exact h.t x hx
theorem refL_p {ck : Nat} {M : List Pn} (h : POk ck M) : ∀ e ∈ refL M, okP e.p := by
  intro e he
  obtain ⟨x, hx, rfl⟩ := (mem_refL h e).1 he
  exact h.p x hx
theorem fnd_ref {ck : Nat} {M : List Pn} (h : POk ck M) (id : Int) : (fndP (refL M) id = none ∧ fndP M id = none) ∨ (∃ k i, fndP (refL M) id = some k ∧ fndP M id = some i ∧ (refL M).getD k default = strip (M.getD i default)) := by
  cases hf : fndP M id with
  | none =>
    left
    refine ⟨fndP_none fun i hi e => ?_, rfl⟩
    have hm := (mem_refL h _).1 (mem_at.2 ⟨i, hi, rfl⟩)
    obtain ⟨x, hx, hxe⟩ := hm
    obtain ⟨j, hj, rfl⟩ := mem_at.1 hx
    rw [hxe] at e
    rw [fndP_some h.ne hj e] at hf
    cases hf
  | some i =>
    right
    obtain ⟨hm, hid⟩ := fndP_mem hf
    have hr := (mem_refL h _).2 ⟨_, hm, rfl⟩
    obtain ⟨k, hk, hke⟩ := mem_at.1 hr
    refine ⟨k, i, ?_, rfl, hke⟩
    refine fndP_some (fun a b hab hb => ?_) hk (by rw [hke]; exact hid)
    have := List.pairwise_iff_getElem.1 (refL_pw h) a b (by omega) hb hab
    rw [getD_at (by omega), getD_at hb]
    omega
theorem seeE_ref {ck : Nat} {M : List Pn} (h : POk ck M) (id t : Int) (p : Pt) : seeE (refL M) id t p = seeE M id t p := by
  unfold seeE
  rcases fnd_ref h id with ⟨h1, h2⟩ | ⟨k, i, h1, h2, h3⟩
  · rw [h1, h2]
  · rw [h1, h2]
    simp only [h3, strip]
theorem leaE_ref {ck : Nat} {M : List Pn} (h : POk ck M) (id t : Int) : leaE (refL M) id t = leaE M id t := by
  unfold leaE
  rcases fnd_ref h id with ⟨h1, h2⟩ | ⟨k, i, h1, h2, h3⟩
  · rw [h1, h2]
  · rw [h1, h2]
    simp only [h3, strip]
theorem reaV_ref {ck : Nat} {M : List Pn} (h : POk ck M) (hu id t : Int) : reaV hu (refL M) id t = reaV hu M id t := by
  unfold reaV
  rcases fnd_ref h id with ⟨h1, h2⟩ | ⟨k, i, h1, h2, h3⟩
  · rw [h1, h2]
  · rw [h1, h2]
    simp only [h3, strip]
theorem refL_nil {ck : Nat} {M : List Pn} (h : POk ck M) : (refL M).length = 0 ↔ M.length = 0 := by
  constructor
  · intro h0
    cases M with
    | nil => rfl
    | cons a l =>
      have := (mem_refL h _).2 ⟨a, List.mem_cons_self .., rfl⟩
      rw [List.length_eq_zero_iff.1 h0] at this
      cases this
  · intro h0
    rw [List.length_eq_zero_iff.1 h0]
    rfl
theorem gap_ref {ck : Nat} {M : List Pn} (h : POk ck M) (hu t : Int) (p : Pt) : gapVR hu (refL M) t p = gapV hu M t p := by
  have hg : gapLR hu t p (refL M) = gapL hu M t p (lst M) := by
    unfold gapLR gapL refL
    rw [List.foldl_map]
    rfl
  unfold gapVR gapV
  rw [hg]
  by_cases h0 : M.length = 0
  · rw [if_pos h0, if_pos ((refL_nil h).2 h0)]
  · rw [if_neg h0, if_neg (fun e => h0 ((refL_nil h).1 e))]
theorem sta_ref {ck : Nat} {M : List Pn} (h : POk ck M) (ke t : Int) : staR ke (refL M) t = staL ke M t := by
  unfold staR staL refL
  rw [List.filter_map, List.map_map]
  have e : ((fun e : Pn => decide (¬ okT t ∨ ke < age e.t t)) ∘ fun id => strip (ent M id)) = fun x => decide (¬ okT t ∨ ke < age (ent M x).t t) := rfl
  rw [e]
  conv => rhs; rw [← List.map_id (List.filter _ _)]
  apply List.map_congr_left
  intro x hx
  obtain ⟨e, he, rfl⟩ := (mem_lstE h x).1 (List.mem_filter.1 hx).1
  show (strip (ent M e.id)).id = e.id
  rw [ent_of h he]
  rfl
end Go.Proofs.Ytjaccepmnjkbbaa

namespace Go.Proofs.Ytjaccepmnjkbbaa
open Go.X
set_option linter.unusedVariables false
set_option linter.unusedSimpArgs false
theorem POk.mk' {ck : Nat} {M : List Pn} (h1 : ∀ e ∈ M, (1 ≤ e.id ∧ e.id ≤ 8) ∧ okT e.t ∧ okP e.p ∧ e.s < ck) (h2 : M.Pairwise fun a b => a.id ≠ b.id ∧ a.s ≠ b.s) : POk ck M := by
  refine ⟨fun e he => (h1 e he).1, fun e he => (h1 e he).2.1, fun e he => (h1 e he).2.2.1, fun a b hab hb => ?_, fun a b hab hb => ?_, fun e he => (h1 e he).2.2.2⟩
  · rw [getD_at (by omega), getD_at hb]
    exact (List.pairwise_iff_getElem.1 h2 a b (by omega) hb hab).1
  · rw [getD_at (by omega), getD_at hb]
    exact (List.pairwise_iff_getElem.1 h2 a b (by omega) hb hab).2
theorem POk.pw {ck : Nat} {M : List Pn} (h : POk ck M) : M.Pairwise fun a b => a.id ≠ b.id ∧ a.s ≠ b.s := by
  rw [List.pairwise_iff_getElem]
  intro i j hi hj hij
  have h1 := h.ne i j hij hj
  have h2 := h.st i j hij hj
  rw [getD_at hi, getD_at hj] at h1 h2
  exact ⟨h1, h2⟩
theorem POk.all {ck : Nat} {M : List Pn} (h : POk ck M) : ∀ e ∈ M, (1 ≤ e.id ∧ e.id ≤ 8) ∧ okT e.t ∧ okP e.p ∧ e.s < ck := fun e he => ⟨h.id e he, h.t e he, h.p e he, h.lt e he⟩
theorem see_cond {M : List Pn} {id t : Int} {p : Pt} (h : seeE M id t p = 0) : (1 ≤ id ∧ id ≤ 8) ∧ okT t ∧ okP p := by
  unfold seeE at h
  split at h
  · exact absurd h (by decide)
  · rename_i h1
    exact Decidable.of_not_not h1
/-- What lies in the record behind See. -/
theorem mem_seeM {ck : Nat} {M : List Pn} (h : POk ck M) {id t : Int} {p : Pt} (h0 : seeE M id t p = 0) : (∃ s, s < (seeM M ck id t p).2 ∧ ∀ x, x ∈ (seeM M ck id t p).1 ↔ x = ⟨s, id, t, p⟩ ∨ (x ∈ M ∧ x.id ≠ id)) ∧ POk (seeM M ck id t p).2 (seeM M ck id t p).1 := by
  have hc := see_cond h0
  unfold seeM
  rw [if_neg (by rw [h0]; decide)]
  cases hf : fndP M id with
  | none =>
    have hno : ∀ e ∈ M, e.id ≠ id := fun e he e1 => by
      obtain ⟨i, hi, rfl⟩ := mem_at.1 he
      rw [fndP_some h.ne hi e1] at hf
      cases hf
    refine ⟨⟨ck, Nat.lt_succ_self _, fun x => ?_⟩, ?_⟩
    · simp only [List.mem_append, List.mem_singleton]
      constructor
      · rintro (hx | hx)
        · exact Or.inr ⟨hx, hno x hx⟩
        · exact Or.inl hx
      · rintro (hx | hx)
        · exact Or.inr hx
        · exact Or.inl hx.1
    · refine POk.mk' (fun e he => ?_) ?_
      · rcases List.mem_append.1 he with he | he
        · have := h.all e he
          exact ⟨this.1, this.2.1, this.2.2.1, Nat.lt_succ_of_lt this.2.2.2⟩
        · rw [List.mem_singleton.1 he]
          exact ⟨hc.1, hc.2.1, hc.2.2, Nat.lt_succ_self _⟩
      · rw [List.pairwise_append]
        refine ⟨h.pw, by simp, fun a ha b hb => ?_⟩
        rw [List.mem_singleton.1 hb]
        have := h.lt a ha
        exact ⟨hno a ha, by show a.s ≠ ck; omega⟩
  | some i =>
    obtain ⟨hi, hid⟩ := fndP_lt hf
    have hmi : M.getD i default ∈ M := mem_at.2 ⟨i, hi, rfl⟩
    have hget : ∀ j, (M.set i ⟨(M.getD i default).s, id, t, p⟩).getD j default = if j = i then ⟨(M.getD i default).s, id, t, p⟩ else M.getD j default := by
      intro j
      by_cases hj : j = i
      · subst hj
        rw [if_pos rfl]
        simp [List.getD, hi]
      · rw [if_neg hj]
        simp only [List.getD, List.getElem?_set_ne (Ne.symm hj)]
    refine ⟨⟨(M.getD i default).s, h.lt _ hmi, fun x => ?_⟩, ?_⟩
    · rw [mem_at]
      constructor
      · rintro ⟨j, hj, rfl⟩
        rw [List.length_set] at hj
        rw [hget]
        by_cases hji : j = i
        · rw [if_pos hji]; exact Or.inl rfl
        · rw [if_neg hji]
          refine Or.inr ⟨mem_at.2 ⟨j, hj, rfl⟩, ?_⟩
          rw [← hid]
          rcases (by omega : j < i ∨ i < j) with h1 | h1
          · exact h.ne j i h1 hi
          · exact fun e => h.ne i j h1 hj e.symm
      · rintro (hx | ⟨hx, hxn⟩)
        · exact ⟨i, by rw [List.length_set]; exact hi, by rw [hget, if_pos rfl]; exact hx.symm⟩
        · obtain ⟨j, hj, rfl⟩ := mem_at.1 hx
          have hji : j ≠ i := fun e => hxn (by rw [e]; exact hid)
          exact ⟨j, by rw [List.length_set]; exact hj, by rw [hget, if_neg hji]⟩
    · refine ⟨?_, ?_, ?_, fun a b hab hb => ?_, fun a b hab hb => ?_, ?_⟩
      · intro e he
        obtain ⟨j, hj, rfl⟩ := mem_at.1 he
        rw [List.length_set] at hj
        rw [hget]
        split
        · exact hc.1
        · exact h.id _ (mem_at.2 ⟨j, hj, rfl⟩)
      · intro e he
        obtain ⟨j, hj, rfl⟩ := mem_at.1 he
        rw [List.length_set] at hj
        rw [hget]
        split
        · exact hc.2.1
        · exact h.t _ (mem_at.2 ⟨j, hj, rfl⟩)
      · intro e he
        obtain ⟨j, hj, rfl⟩ := mem_at.1 he
        rw [List.length_set] at hj
        rw [hget]
        split
        · exact hc.2.2
        · exact h.p _ (mem_at.2 ⟨j, hj, rfl⟩)
      · rw [List.length_set] at hb
        have hids : ∀ j, ((M.set i ⟨(M.getD i default).s, id, t, p⟩).getD j default).id = (M.getD j default).id := fun j => by
          rw [hget]; split
          · rename_i e; rw [e, hid]
          · rfl
        rw [hids, hids]
        exact h.ne a b hab hb
      · rw [List.length_set] at hb
        have hss : ∀ j, ((M.set i ⟨(M.getD i default).s, id, t, p⟩).getD j default).s = (M.getD j default).s := fun j => by
          rw [hget]; split
          · rename_i e; rw [e]
          · rfl
        rw [hss, hss]
        exact h.st a b hab hb
      · intro e he
        obtain ⟨j, hj, rfl⟩ := mem_at.1 he
        rw [List.length_set] at hj
        rw [hget]
        split
        · exact h.lt (M.getD i default) hmi
        · exact h.lt _ (mem_at.2 ⟨j, hj, rfl⟩)
theorem see_pok {ck : Nat} {M : List Pn} (h : POk ck M) (id t : Int) (p : Pt) : POk (seeM M ck id t p).2 (seeM M ck id t p).1 := by
  by_cases h0 : seeE M id t p = 0
  · exact (mem_seeM h h0).2
  · rw [show seeM M ck id t p = (M, ck) from if_pos h0]; exact h
theorem slot_id {R : List Pn} {id t : Int} {p : Pt} {n : Int} {x : Pn} (hx : x ∈ slotR R id t p n) : x.id = n := by
  unfold slotR at hx
  split at hx
  · rename_i h; rw [List.mem_singleton.1 hx]; exact h.symm
  · split at hx
    · rename_i h; rw [List.mem_singleton.1 hx]; exact (fndP_mem h).2
    · cases hx
theorem acc_id {R : List Pn} {id t : Int} {p : Pt} : ∀ (k : Nat) {x : Pn}, x ∈ accR R id t p k → 1 ≤ x.id ∧ x.id ≤ k ∧ x ∈ slotR R id t p x.id
  | 0, x, hx => by simp [accR] at hx
  | k + 1, x, hx => by
    rw [accR_succ, List.mem_append] at hx
    rcases hx with hx | hx
    · have := acc_id k hx
      exact ⟨this.1, by omega, this.2.2⟩
    · have := slot_id hx
      exact ⟨by omega, by omega, by rw [this]; exact hx⟩
theorem mem_acc {R : List Pn} {id t : Int} {p : Pt} {n : Nat} {x : Pn} (hx : x ∈ slotR R id t p ((n : Nat) + 1 : Int)) : ∀ {k : Nat}, n < k → x ∈ accR R id t p k
  | 0, h => absurd h (Nat.not_lt_zero _)
  | k + 1, h => by
    rw [accR_succ, List.mem_append]
    by_cases h1 : n = k
    · subst h1; exact Or.inr hx
    · exact Or.inl (mem_acc hx (by omega))
theorem acc_pw {R : List Pn} {id t : Int} {p : Pt} : ∀ k, (accR R id t p k).Pairwise fun a b => a.id < b.id
  | 0 => by simp [accR]
  | k + 1 => by
    rw [accR_succ, List.pairwise_append]
    refine ⟨acc_pw k, ?_, fun a ha b hb => ?_⟩
    · have := slotR_le R id t p ((k : Nat) + 1 : Int)
      match hS : slotR R id t p ((k : Nat) + 1 : Int) with
      | [] => exact List.Pairwise.nil
      | [a] => exact List.pairwise_singleton ..
      | a :: b :: l => rw [hS] at this; simp at this
    · have h1 := acc_id k ha
      have h2 := slot_id hb
      omega
theorem see_ref {ck : Nat} {M : List Pn} (h : POk ck M) (id t : Int) (p : Pt) : seeR (refL M) id t p = refL (seeM M ck id t p).1 := by
  unfold seeR
  rw [seeE_ref h]
  by_cases h0 : seeE M id t p = 0
  · rw [if_neg (by rw [h0]; decide)]
    obtain ⟨⟨s, hs, hmem⟩, hok⟩ := mem_seeM h h0
    have hc := see_cond h0
    refine sortedP_uniq (acc_pw 8) (refL_pw hok) fun x => ?_
    rw [mem_refL hok]
    constructor
    · intro hx
      obtain ⟨h1, h2, h3⟩ := acc_id 8 hx
      unfold slotR at h3
      split at h3
      · rw [List.mem_singleton.1 h3]
        exact ⟨⟨s, id, t, p⟩, (hmem _).2 (Or.inl rfl), rfl⟩
      · rename_i hne
        split at h3
        · rename_i j hj
          have hxm := (fndP_mem hj).1
          rw [← List.mem_singleton.1 h3] at hxm
          obtain ⟨e, he, hxe⟩ := (mem_refL h x).1 hxm
          exact ⟨e, (hmem e).2 (Or.inr ⟨he, fun e1 => hne (by rw [hxe]; exact e1)⟩), hxe⟩
        · cases h3
    · rintro ⟨e, he, rfl⟩
      rcases (hmem e).1 he with rfl | ⟨hm, hne⟩
      · refine mem_acc (n := id.toNat - 1) ?_ (by omega)
        rw [show ((id.toNat - 1 : Nat) : Int) + 1 = id by omega]
        unfold slotR
        rw [if_pos rfl]
        exact List.mem_singleton.2 rfl
      · have hid := h.id e hm
        refine mem_acc (n := e.id.toNat - 1) ?_ (by omega)
        rw [show ((e.id.toNat - 1 : Nat) : Int) + 1 = e.id by omega]
        unfold slotR
        rw [if_neg hne]
        have hr : strip e ∈ refL M := (mem_refL h _).2 ⟨e, hm, rfl⟩
        obtain ⟨k, hk, hke⟩ := mem_at.1 hr
        rcases fnd_ref h e.id with ⟨h1, h2⟩ | ⟨k', i, h1, h2, h3⟩
        · exfalso
          obtain ⟨j, hj, hje⟩ := mem_at.1 hm
          rw [fndP_some h.ne hj (by rw [hje])] at h2
          cases h2
        · rw [h1]
          have h4 := fndP_mem h2
          rw [h.inj h4.1 hm h4.2] at h3
          show strip e ∈ [(refL M).getD k' default]
          rw [h3]
          exact List.mem_singleton.2 rfl
  · rw [if_pos h0, show seeM M ck id t p = (M, ck) from if_pos h0]
theorem cut_sub (R : List Pn) (k : Nat) : (R.take k ++ R.drop (k + 1)).Sublist R := by
  conv => rhs; rw [← List.take_append_drop k R]
  exact List.Sublist.append_left (by rw [← List.drop_drop]; exact List.drop_sublist _ _) _
theorem mem_cut {R : List Pn} (hn : R.Pairwise fun a b => a.id ≠ b.id) {k : Nat} (hk : k < R.length) (x : Pn) : x ∈ R.take k ++ R.drop (k + 1) ↔ x ∈ R ∧ x.id ≠ (R.getD k default).id := by
  have hd := List.pairwise_iff_getElem.1 hn
  constructor
  · intro hx
    refine ⟨(cut_sub R k).subset hx, ?_⟩
    rw [getD_at hk]
    rcases List.mem_append.1 hx with hx | hx
    · obtain ⟨j, hj, rfl⟩ := List.mem_iff_getElem.1 hx
      rw [List.length_take] at hj
      rw [List.getElem_take]
      exact hd j k (by omega) hk (by omega)
    · obtain ⟨j, hj, rfl⟩ := List.mem_iff_getElem.1 hx
      rw [List.length_drop] at hj
      rw [List.getElem_drop]
      exact fun e => hd k (k + 1 + j) hk (by omega) (by omega) e.symm
  · rintro ⟨hx, hne⟩
    obtain ⟨j, hj, rfl⟩ := List.mem_iff_getElem.1 hx
    rw [getD_at hk] at hne
    rcases (by omega : j < k ∨ k < j ∨ j = k) with h | h | h
    · refine List.mem_append_left _ (List.mem_iff_getElem.2 ⟨j, by rw [List.length_take]; omega, ?_⟩)
      rw [List.getElem_take]
    · refine List.mem_append_right _ (List.mem_iff_getElem.2 ⟨j - (k + 1), by rw [List.length_drop]; omega, ?_⟩)
      rw [List.getElem_drop]
      congr 1
      omega
    · exact absurd (by subst h; rfl) hne
theorem lea_pok {ck : Nat} {M : List Pn} (h : POk ck M) (id t : Int) : POk ck (leaM M id t) := by
  unfold leaM
  split
  · exact h
  · split
    · rename_i i hf
      have hs := cut_sub M i
      exact POk.mk' (fun e he => h.all e (hs.subset he)) (h.pw.sublist hs)
    · exact h
theorem lea_ref {ck : Nat} {M : List Pn} (h : POk ck M) (id t : Int) : leaM (refL M) id t = refL (leaM M id t) := by
  have hok := lea_pok h id t
  unfold leaM at hok ⊢
  rw [leaE_ref h]
  by_cases h0 : leaE M id t = 0
  · rw [if_neg (by rw [h0]; decide)] at hok ⊢
    rw [if_neg (by rw [h0]; decide)]
    rcases fnd_ref h id with ⟨h1, h2⟩ | ⟨k, i, h1, h2, h3⟩
    · rw [h1, h2]
    · rw [h2] at hok
      rw [h1, h2]
      have hkl := (fndP_lt h1).1
      have hil := (fndP_lt h2).1
      have hpn : (refL M).Pairwise fun a b => a.id ≠ b.id := (refL_pw h).imp fun h => by omega
      refine sortedP_uniq ((refL_pw h).sublist (cut_sub _ _)) (refL_pw hok) fun x => ?_
      rw [mem_refL hok, mem_cut hpn hkl, mem_refL h, (fndP_lt h1).2]
      constructor
      · rintro ⟨⟨e, he, rfl⟩, hne⟩
        exact ⟨e, (mem_cut (h.pw.imp fun h => h.1) hil e).2 ⟨he, by rw [(fndP_lt h2).2]; exact hne⟩, rfl⟩
      · rintro ⟨e, he, rfl⟩
        have := (mem_cut (h.pw.imp fun h => h.1) hil e).1 he
        exact ⟨⟨e, this.1, rfl⟩, by have h5 := this.2; rw [(fndP_lt h2).2] at h5; exact h5⟩
  · rw [if_pos h0, if_pos h0]
end Go.Proofs.Ytjaccepmnjkbbaa

namespace Go.Proofs.Ytjaccepmnjkbbaa
open Go.X
set_option linter.unusedSimpArgs false
set_option linter.unusedVariables false
structure Wk where
  (x y : Int) (S : List (Int × Int)) (sn : Int)
deriving Inhabited
def encWk (mm : C) (w : Wk) : List C := [.i .i16 w.x, .i .i16 w.y, mm, .i .u8 w.sn]
def encSt (p : Int × Int) : List C := [.i .i16 p.1, .i .i16 p.2]
abbrev stR (S : List (Int × Int)) (c : Nat) : Ck := .row false false 24 2 S.length c (rowOf encSt S)
def i16 (x : Int) : Prop := -32768 ≤ x ∧ x ≤ 32767
structure Wk.ok (w : Wk) : Prop where
  x : i16 w.x
  y : i16 w.y
  S : ∀ p ∈ w.S, i16 p.1 ∧ i16 p.2
  sn : 0 ≤ w.sn ∧ w.sn ≤ 255
def half (hu : Int) : Int := hu.tdiv 2 + 1
def aft (hu : Int) (w : Wk) : Nat → Pt
  | 0 => ⟨w.x, w.y⟩
  | n + 1 => if n < w.S.length then ⟨(aft hu w n).x + (w.S.getD n default).1.tmod (half hu), (aft hu w n).y + (w.S.getD n default).2.tmod (half hu)⟩ else aft hu w n
theorem tmod_le {a h : Int} (hh : 0 < h) : -(h - 1) ≤ a.tmod h ∧ a.tmod h ≤ h - 1 := by
  have h1 : a.tmod h < h := Int.tmod_lt_of_pos a hh
  have h2 : (-a).tmod h < h := Int.tmod_lt_of_pos (-a) hh
  rw [Int.neg_tmod] at h2
  omega
theorem half_le {hu : Int} (h : 0 ≤ hu ∧ hu ≤ 255) : half hu = hu / 2 + 1 ∧ 1 ≤ half hu ∧ half hu ≤ 128 := by
  unfold half
  rw [Int.tdiv_eq_ediv_of_nonneg h.1]
  omega
theorem aft_step {hu : Int} (h : 0 ≤ hu ∧ hu ≤ 255) (w : Wk) (n : Nat) : (-(hu / 2) ≤ (aft hu w (n + 1)).x - (aft hu w n).x ∧ (aft hu w (n + 1)).x - (aft hu w n).x ≤ hu / 2) ∧ (-(hu / 2) ≤ (aft hu w (n + 1)).y - (aft hu w n).y ∧ (aft hu w (n + 1)).y - (aft hu w n).y ≤ hu / 2) := by
  obtain ⟨h1, h2, h3⟩ := half_le h
  rw [aft]
  split
  · have a := tmod_le (a := (w.S.getD n default).1) (h := half hu) (by omega)
    have b := tmod_le (a := (w.S.getD n default).2) (h := half hu) (by omega)
    simp only
    omega
  · omega
/-- Persons move at most so far. -/
theorem aft_far {hu : Int} (h : 0 ≤ hu ∧ hu ≤ 255) (w : Wk) (n : Nat) : ∀ k : Nat, (-(k * (hu / 2)) ≤ (aft hu w (n + k)).x - (aft hu w n).x ∧ (aft hu w (n + k)).x - (aft hu w n).x ≤ k * (hu / 2)) ∧ (-(k * (hu / 2)) ≤ (aft hu w (n + k)).y - (aft hu w n).y ∧ (aft hu w (n + k)).y - (aft hu w n).y ≤ k * (hu / 2))
  | 0 => by simp
  | k + 1 => by
    have a := aft_far h w n k
    have b := aft_step h w (n + k)
    rw [← Nat.add_assoc]
    have e : ((k + 1 : Nat) : Int) * (hu / 2) = k * (hu / 2) + hu / 2 := by push_cast; rw [Int.add_mul, Int.one_mul]
    rw [e]
    omega
theorem aft_near {hu : Int} (h : 0 ≤ hu ∧ hu ≤ 255) {w : Wk} (hw : w.ok) (n : Nat) (hn : n ≤ 1000) : (-200000 ≤ (aft hu w n).x ∧ (aft hu w n).x ≤ 200000) ∧ (-200000 ≤ (aft hu w n).y ∧ (aft hu w n).y ≤ 200000) := by
  have a := aft_far h w 0 n
  have hx := hw.x
  have hy := hw.y
  unfold i16 at hx hy
  rw [Nat.zero_add] at a
  have e0 : aft hu w 0 = ⟨w.x, w.y⟩ := rfl
  rw [e0] at a
  simp only at a
  have hm : (n : Int) * (hu / 2) ≤ 1000 * 127 := by
    have h1 : (n : Int) * (hu / 2) ≤ n * 127 := Int.mul_le_mul_of_nonneg_left (by omega) (by omega)
    omega
  omega
set_option maxRecDepth 10000 in
theorem cafter (hu : Int) (w : Wk) (n : Nat) (c : Nat) (h : 0 ≤ hu ∧ hu ≤ 255) (hw : w.ok) (hn : n ≤ 1000) (hS : w.S.length ≤ 1000) :
    Ctr Try.prog 9 [.a (encWk (.sl 0 0 2 0 w.S.length c) w), .c (.i .i64 (n : Nat)), .c (.i .i64 hu)] [.one (stR w.S c)] fun v h => v = .a (encPt (aft hu w n)) ∧ h = [.one (stR w.S c)] := by
  have hx := hw.x
  have hy := hw.y
  unfold i16 at hx hy
  have wx : IntKind.i64.wrap w.x = w.x := by rw [IntKind.wrap_i64]; omega
  have wy : IntKind.i64.wrap w.y = w.y := by rw [IntKind.wrap_i64]; omega
  refine Ctr.mk' tbv mixed Try.func9 rfl rfl rfl (fun _ _ => by kernel_rfl) (by kernel_rfl) (by rfl) (by rfl) (by (repeat' first | refine And.intro ?_ ?_ | exact xeC | fail)) ?_
  repeat' (first | (fail_if_success (with_reducible refine xstp ?_)); first | ((with_reducible refine And.intro (fun (hb : _ = true) => ?_) (fun (hb : _ = false) => ?_)) <;> replace hb := xnC hb <;> (try first | exact xfC | exact bff hb (by assumption) | exact bff (by assumption) hb)) | (with_reducible refine Both.mk ?_ ?_) | ((with_reducible refine And.intro ?_ ?_); focus exact xoC) | ((with_reducible refine Or.inl ⟨?_, ?_, ?_⟩); (focus rfl); focus exact xaC) | ((with_reducible refine xwB ?_ ?_); focus exact xaC) | ((with_reducible refine xwC ?_ ?_); focus exact xaC) | ((with_reducible refine xwD ?_ ?_); focus exact xaC) | ((with_reducible refine xwE ?_ ?_); focus exact xaC) | (with_reducible intro hc; (try simp only [capsP, and_true] at hc); (try exact xfC)) | ((fail_if_success (with_reducible first | refine xgon ?_ | intro _)); (conv => whnf); (fail_if_success (fail_if_success (with_reducible first | refine xstp ?_ | refine Both.mk ?_ ?_ | refine xgon ?_ | intro _)))))
  refine LoopK.mk' {i : Nat // i ≤ n}
    (fun ⟨i, _⟩ => ⟨[(1, .c (.i .i64 (n : Nat))), (2, .c (.i .i64 hu)), (3, .c (.p 1 0 0)), (6, .c (.p 2 0 0)), (7, .c (.p 3 0 0)), (8, .c (.i .i64 (i : Nat)))],
      [.one (stR w.S c), .one (.cells true (encWk (.sl 0 0 2 0 w.S.length c) w)), .one (.cells true [.i .i64 0, .i .i64 0]), .one (.cells true (encPt (aft hu w i)))]⟩) (fun k => n - k.1)
    ⟨⟨0, Nat.zero_le _⟩, [0, 1, 2, 3], ?_⟩ ?_
  · (repeat' first | refine And.intro ?_ ?_ | exact xeC | fail)
    all_goals first | exact wx | exact wy
  rintro ⟨i, hi⟩
  have htd : hu.tdiv 2 = hu / 2 := Int.tdiv_eq_ediv_of_nonneg h.1
  have htd2 : 0 ≤ hu.tdiv 2 ∧ hu.tdiv 2 ≤ 127 := by omega
  have hne := aft_near h hw i (by omega)
  obtain ⟨g1, g2, g3⟩ := half_le h
  have hst := aft_step h w i
  repeat' (first | (fail_if_success (with_reducible refine xstp ?_)); first | ((with_reducible refine And.intro (fun (hb : _ = true) => ?_) (fun (hb : _ = false) => ?_)) <;> replace hb := xnC hb <;> (try first | exact xfC | exact bff hb (by assumption) | exact bff (by assumption) hb)) | (with_reducible refine Both.mk ?_ ?_) | ((with_reducible refine And.intro ?_ ?_); focus exact xoC) | ((with_reducible refine Or.inl ⟨?_, ?_, ?_⟩); (focus rfl); focus exact xaC) | ((with_reducible refine xwB ?_ ?_); focus exact xaC) | ((with_reducible refine xwC ?_ ?_); focus exact xaC) | ((with_reducible refine xwD ?_ ?_); focus exact xaC) | ((with_reducible refine xwE ?_ ?_); focus exact xaC) | (with_reducible intro hc; (try simp only [capsP, and_true] at hc); (try exact xfC)) | ((fail_if_success (with_reducible first | refine xgon ?_ | intro _)); (conv => whnf); (fail_if_success (fail_if_success (with_reducible first | refine xstp ?_ | refine Both.mk ?_ ?_ | refine xgon ?_ | intro _)))))
  · have hlt : i < w.S.length := by omega
    have hp := hw.S (w.S.getD i default) (by rw [getD_at hlt]; exact List.getElem_mem _)
    unfold i16 at hp
    have w1 : IntKind.i64.wrap (w.S.getD i default).1 = (w.S.getD i default).1 := by rw [IntKind.wrap_i64]; omega
    have w2 : IntKind.i64.wrap (w.S.getD i default).2 = (w.S.getD i default).2 := by rw [IntKind.wrap_i64]; omega
    have t1 := tmod_le (a := (w.S.getD i default).1) (h := half hu) (by omega)
    have t2 := tmod_le (a := (w.S.getD i default).2) (h := half hu) (by omega)
    have ha : aft hu w (i + 1) = ⟨(aft hu w i).x + (w.S.getD i default).1.tmod (hu.tdiv 2 + 1), (aft hu w i).y + (w.S.getD i default).2.tmod (hu.tdiv 2 + 1)⟩ := by
      rw [aft, if_pos hlt]
      rfl
    unfold half at t1 t2 g2 g3
    rw [show ((0 : Nat) + ((i : Nat) : Int).toNat) = i by omega, w1, w2]
    repeat' (first | (fail_if_success (with_reducible refine xstp ?_)); first | ((with_reducible refine And.intro (fun (hb : _ = true) => ?_) (fun (hb : _ = false) => ?_)) <;> replace hb := xnC hb <;> (try first | exact xfC | exact bff hb (by assumption) | exact bff (by assumption) hb)) | (with_reducible refine Both.mk ?_ ?_) | ((with_reducible refine And.intro ?_ ?_); focus exact xoC) | ((with_reducible refine Or.inl ⟨?_, ?_, ?_⟩); (focus rfl); focus exact xaC) | ((with_reducible refine xwB ?_ ?_); focus exact xaC) | ((with_reducible refine xwC ?_ ?_); focus exact xaC) | ((with_reducible refine xwD ?_ ?_); focus exact xaC) | ((with_reducible refine xwE ?_ ?_); focus exact xaC) | (with_reducible intro hc; (try simp only [capsP, and_true] at hc); (try exact xfC)) | ((fail_if_success (with_reducible first | refine xgon ?_ | intro _)); (conv => whnf); (fail_if_success (fail_if_success (with_reducible first | refine xstp ?_ | refine Both.mk ?_ ?_ | refine xgon ?_ | intro _)))))
    refine ⟨⟨i + 1, by omega⟩, [0, 1, 2, 3], by simp only; omega, ?_⟩
    (repeat' first | refine And.intro ?_ ?_ | exact xeC | fail)
    all_goals (rw [ha])
  · have hall : ∀ k, aft hu w (i + k) = aft hu w i := by
      intro k
      induction k with
      | zero => rfl
      | succ k ih => rw [← Nat.add_assoc, aft, if_neg (by omega), ih]
    have := hall (n - i)
    rw [show i + (n - i) = n by omega] at this
    rw [this]
    refine FinK.mk ⟨[0], _, _, ⟨rfl, rfl⟩, ?_⟩; (repeat' first | refine And.intro ?_ ?_ | exact xeC | fail)
  · obtain rfl : i = n := by omega
    refine FinK.mk ⟨[0], _, _, ⟨rfl, rfl⟩, ?_⟩; (repeat' first | refine And.intro ?_ ?_ | exact xeC | fail)
end Go.Proofs.Ytjaccepmnjkbbaa

namespace Go.Proofs.Ytjaccepmnjkbbaa
open Go.X
set_option linter.unusedVariables false
theorem abs_le_of_sq {x : Int} {r : Nat} (h : x * x < ((r : Int) + 1) * ((r : Int) + 1)) : -(r : Int) ≤ x ∧ x ≤ r := by
  have h1 : x * x = ((x.natAbs * x.natAbs : Nat) : Int) := by rw [Int.natAbs_mul_self]
  have h2 : ((r : Int) + 1) * ((r : Int) + 1) = (((r + 1) * (r + 1) : Nat) : Int) := by push_cast; rfl
  have h3 : x.natAbs * x.natAbs < (r + 1) * (r + 1) := by omega
  have h4 : x.natAbs < r + 1 := by
    apply Decidable.byContradiction
    intro hn
    have := Nat.mul_le_mul (show r + 1 ≤ x.natAbs by omega) (show r + 1 ≤ x.natAbs by omega)
    omega
  omega
theorem sq_nn (x : Int) : 0 ≤ x * x := by
  rw [← Int.natAbs_mul_self]
  exact Int.natCast_nonneg _
theorem mul_le_abs {x y : Int} {a b : Nat} (hx : -(a : Int) ≤ x ∧ x ≤ a) (hy : -(b : Int) ≤ y ∧ y ≤ b) : x * y ≤ (a * b : Nat) := by
  have h1 : x * y ≤ ((x * y).natAbs : Nat) := Int.le_natAbs
  have h2 : (x * y).natAbs = x.natAbs * y.natAbs := Int.natAbs_mul x y
  have h3 : x.natAbs * y.natAbs ≤ a * b := Nat.mul_le_mul (by omega) (by omega)
  omega
theorem dst_near {a p q : Pt} {D hk : Nat} (hsp : (a.sub p).sm) (hsq : (a.sub q).sm) (hx : -(D : Int) ≤ q.x - p.x ∧ q.x - p.x ≤ D) (hy : -(D : Int) ≤ q.y - p.y ∧ q.y - p.y ≤ D) (hD : 2 * D ≤ hk) : dst a p ≤ dst a q + hk := by
  obtain ⟨eA, lA⟩ := sqP_eq hsp
  obtain ⟨eB, lB⟩ := sqP_eq hsq
  obtain ⟨sA, _⟩ := isq_spec (n := sqP (a.sub p)) (by omega)
  obtain ⟨_, sB⟩ := isq_spec (n := sqP (a.sub q)) (by omega)
  unfold dst
  generalize hr : isq (sqP (a.sub q)) = r at *
  generalize hs : isq (sqP (a.sub p)) = s at *
  obtain ⟨vx, hvx⟩ : ∃ v, v = a.x - q.x := ⟨_, rfl⟩
  obtain ⟨vy, hvy⟩ : ∃ v, v = a.y - q.y := ⟨_, rfl⟩
  obtain ⟨wx, hwx⟩ : ∃ v, v = q.x - p.x := ⟨_, rfl⟩
  obtain ⟨wy, hwy⟩ : ∃ v, v = q.y - p.y := ⟨_, rfl⟩
  have e1 : (a.sub p).x = vx + wx := by show a.x - p.x = _; omega
  have e2 : (a.sub p).y = vy + wy := by show a.y - p.y = _; omega
  have e3 : (a.sub q).x = vx := hvx.symm
  have e4 : (a.sub q).y = vy := hvy.symm
  rw [e1, e2] at eA
  rw [e3, e4] at eB
  rw [← hwx] at hx
  rw [← hwy] at hy
  have nB : ((r : Int) + 1) * ((r : Int) + 1) = (((r + 1) * (r + 1) : Nat) : Int) := by push_cast; rfl
  have q1 : 0 ≤ vx * vx := sq_nn _
  have q2 : 0 ≤ vy * vy := sq_nn _
  have bx := abs_le_of_sq (x := vx) (r := r) (by omega)
  have bY := abs_le_of_sq (x := vy) (r := r) (by omega)
  have m1 := mul_le_abs bx hx
  have m2 := mul_le_abs bY hy
  have m3 := mul_le_abs hx hx
  have m4 := mul_le_abs hy hy
  have eA2 : (vx + wx) * (vx + wx) + (vy + wy) * (vy + wy) = vx * vx + vy * vy + 2 * (vx * wx) + 2 * (vy * wy) + wx * wx + wy * wy := by
    rw [Int.add_mul, Int.mul_add, Int.mul_add, Int.add_mul, Int.mul_add, Int.mul_add, Int.mul_comm wx vx, Int.mul_comm wy vy]
    omega
  rw [eA2, eB] at eA
  have c1 : 2 * (r * D) + 2 * (r * D) ≤ 2 * (r * hk) := by
    have := Nat.mul_le_mul_left r hD
    rw [← Nat.mul_assoc, Nat.mul_comm r 2, Nat.mul_assoc] at this
    omega
  have c2 : D * D + D * D ≤ hk * hk := by
    have h1 := Nat.mul_le_mul hD hD
    have h2 : 2 * D * (2 * D) = 4 * (D * D) := by
      rw [Nat.mul_mul_mul_comm]
    omega
  have hlt : s * s < (r + hk + 1) * (r + hk + 1) := by
    have e5 : (r + hk + 1) * (r + hk + 1) = (r + 1) * (r + 1) + 2 * (r * hk) + 2 * hk + hk * hk := by
      simp only [Nat.add_mul, Nat.mul_add, Nat.one_mul, Nat.mul_one, Nat.mul_comm hk r]
      omega
    omega
  apply Decidable.byContradiction
  intro hn
  have := Nat.mul_le_mul (show r + hk + 1 ≤ s by omega) (show r + hk + 1 ≤ s by omega)
  omega
end Go.Proofs.Ytjaccepmnjkbbaa

namespace Go.Proofs.Ytjaccepmnjkbbaa
open Go.X
set_option linter.unusedVariables false
theorem stepG_le {hu t : Int} {M : List Pn} {p : Pt} {b : Int} {x : Int} (hn : 0 ≤ gapD hu (ent M x) t p) : 0 ≤ stepG hu M t p b x ∧ stepG hu M t p b x ≤ gapD hu (ent M x) t p ∧ (0 ≤ b → stepG hu M t p b x ≤ b) := by
  unfold stepG
  split <;> omega
theorem gapD_nn (hu : Int) (e : Pn) (t : Int) (p : Pt) : 0 ≤ gapD hu e t p := by unfold gapD; omega
theorem foldG_le {hu t : Int} {M : List Pn} {p : Pt} : ∀ (l : List Int) (b : Int), (0 ≤ b → l.foldl (stepG hu M t p) b ≤ b) ∧ ((l ≠ [] ∨ 0 ≤ b) → 0 ≤ l.foldl (stepG hu M t p) b) ∧ ∀ x ∈ l, l.foldl (stepG hu M t p) b ≤ gapD hu (ent M x) t p
  | [], b => ⟨fun h => Int.le_refl _, fun h => by rcases h with h | h; exact absurd rfl h; exact h, fun x hx => by cases hx⟩
  | y :: l, b => by
    obtain ⟨s1, s2, s3⟩ := stepG_le (hu := hu) (t := t) (M := M) (p := p) (b := b) (x := y) (gapD_nn hu (ent M y) t p)
    obtain ⟨i1, i2, i3⟩ := foldG_le (hu := hu) (t := t) (M := M) (p := p) l (stepG hu M t p b y)
    rw [List.foldl_cons]
    refine ⟨fun h => ?_, fun _ => i2 (Or.inr s1), fun x hx => ?_⟩
    · have := i1 s1; have := s3 h; omega
    · rcases List.mem_cons.1 hx with rfl | hx
      · have := i1 s1; omega
      · exact i3 x hx
/-- The gap is at most what each person tells. -/
theorem gap_sound {ck : Nat} {M : List Pn} (h : POk ck M) {hu t : Int} {p : Pt} (ht : okT t) (hp : okP p) (h0 : M ≠ []) : (gapV hu M t p).2 = true ∧ 0 ≤ (gapV hu M t p).1 ∧ ∀ e ∈ M, (gapV hu M t p).1 ≤ gapD hu e t p := by
  have hl : M.length ≠ 0 := fun e => h0 (List.length_eq_zero_iff.1 e)
  unfold gapV
  rw [if_neg hl, if_neg (by simp [ht, hp])]
  obtain ⟨_, i2, i3⟩ := foldG_le (hu := hu) (t := t) (M := M) (p := p) (lst M) (-1)
  refine ⟨rfl, i2 (Or.inl fun e => ?_), fun e he => ?_⟩
  · cases M with
    | nil => exact h0 rfl
    | cons a l =>
      have := (mem_lstE h a.id).2 ⟨a, List.mem_cons_self .., rfl⟩
      rw [e] at this
      cases this
  · have := i3 e.id ((mem_lstE h _).2 ⟨e, he, rfl⟩)
    rw [ent_of h he] at this
    exact this
end Go.Proofs.Ytjaccepmnjkbbaa

namespace Go.Proofs.Ytjaccepmnjkbbaa
open Go.X
set_option linter.unusedVariables false
def seenAt (w : Wk) : Nat := (w.sn % 41).toNat
def obsE (hu : Int) (l : List Wk) (j : Nat) : Pn := ⟨j, (j : Nat) + 1, (seenAt (l.getD j default) : Nat), aft hu (l.getD j default) (seenAt (l.getD j default))⟩
def obs (hu : Int) (l : List Wk) (i : Nat) : List Pn := (List.range i).map (obsE hu l)
theorem mem_obs {hu : Int} {l : List Wk} {i : Nat} {e : Pn} : e ∈ obs hu l i ↔ ∃ j, j < i ∧ e = obsE hu l j := by
  unfold obs
  rw [List.mem_map]
  constructor
  · rintro ⟨j, hj, rfl⟩; exact ⟨j, List.mem_range.1 hj, rfl⟩
  · rintro ⟨j, hj, rfl⟩; exact ⟨j, List.mem_range.2 hj, rfl⟩
theorem obs_ok {hu : Int} (h : 0 ≤ hu ∧ hu ≤ 255) {l : List Wk} (hl : ∀ w ∈ l, w.ok) {i : Nat} (hi : i ≤ l.length) (h8 : i ≤ 8) : POk i (obs hu l i) := by
  refine POk.mk' (fun e he => ?_) ?_
  · obtain ⟨j, hj, rfl⟩ := mem_obs.1 he
    have hw := hl (l.getD j default) (by rw [getD_at (by omega)]; exact List.getElem_mem _)
    have hs : seenAt (l.getD j default) ≤ 40 := by unfold seenAt; omega
    have hn := aft_near h hw (seenAt (l.getD j default)) (by omega)
    refine ⟨⟨?_, ?_⟩, ?_, ?_, hj⟩
    · show 1 ≤ ((j : Nat) : Int) + 1; omega
    · show ((j : Nat) : Int) + 1 ≤ 8; omega
    · show okT ((seenAt (l.getD j default) : Nat) : Int); unfold okT; omega
    · show okP (aft hu (l.getD j default) (seenAt (l.getD j default))); unfold okP; omega
  · unfold obs
    rw [List.pairwise_map]
    refine (List.pairwise_lt_range (n := i)).imp ?_
    intro a b hab
    refine ⟨?_, ?_⟩
    · show ((a : Nat) : Int) + 1 ≠ (b : Nat) + 1; omega
    · show a ≠ b; omega
theorem obs_see {hu : Int} (h : 0 ≤ hu ∧ hu ≤ 255) {l : List Wk} (hl : ∀ w ∈ l, w.ok) {i : Nat} (hi : i < l.length) (h8 : i < 8) :
    seeE (obs hu l i) ((i : Nat) + 1) (seenAt (l.getD i default) : Nat) (aft hu (l.getD i default) (seenAt (l.getD i default))) = 0 ∧ seeM (obs hu l i) i ((i : Nat) + 1) (seenAt (l.getD i default) : Nat) (aft hu (l.getD i default) (seenAt (l.getD i default))) = (obs hu l (i + 1), i + 1) := by
  have hok := obs_ok h hl (i := i + 1) (by omega) (by omega)
  have hm := mem_obs (hu := hu) (l := l) (i := i + 1) (e := obsE hu l i) |>.2 ⟨i, Nat.lt_succ_self i, rfl⟩
  have hf : fndP (obs hu l i) (((i : Nat) : Int) + 1) = none := fndP_none fun q hq e => by
    have hq2 : q < i := by simpa [obs] using hq
    have : (obs hu l i).getD q default = obsE hu l q := by simp [obs, List.getD, hq2]
    rw [this] at e
    have e2 : ((q : Nat) : Int) + 1 = (i : Nat) + 1 := e
    omega
  have hc : (1 ≤ ((i : Nat) : Int) + 1 ∧ ((i : Nat) : Int) + 1 ≤ 8) ∧ okT (seenAt (l.getD i default) : Nat) ∧ okP (aft hu (l.getD i default) (seenAt (l.getD i default))) := ⟨hok.id _ hm, hok.t _ hm, hok.p _ hm⟩
  have hE : seeE (obs hu l i) ((i : Nat) + 1) (seenAt (l.getD i default) : Nat) (aft hu (l.getD i default) (seenAt (l.getD i default))) = 0 := by rw [see_in hc, hf]
  refine ⟨hE, ?_⟩
  unfold seeM
  rw [if_neg (by rw [hE]; decide), hf]
  unfold obs
  rw [List.range_succ, List.map_append]
  rfl
end Go.Proofs.Ytjaccepmnjkbbaa

namespace Go.Proofs.Ytjaccepmnjkbbaa
open Go.X
set_option linter.unusedVariables false
theorem aft_two {hu : Int} (h : 0 ≤ hu ∧ hu ≤ 255) (w : Wk) (s t : Nat) (d : Nat) (hd : d = (t - s) + (s - t)) :
    (-(d * (hu / 2)) ≤ (aft hu w t).x - (aft hu w s).x ∧ (aft hu w t).x - (aft hu w s).x ≤ d * (hu / 2)) ∧ (-(d * (hu / 2)) ≤ (aft hu w t).y - (aft hu w s).y ∧ (aft hu w t).y - (aft hu w s).y ≤ d * (hu / 2)) := by
  rcases Nat.le_total s t with hst | hst
  · have := aft_far h w s (t - s)
    rw [show s + (t - s) = t by omega] at this
    rw [show d = t - s by omega]
    exact this
  · have := aft_far h w t (s - t)
    rw [show t + (s - t) = s by omega] at this
    rw [show d = s - t by omega]
    omega
theorem gapD_true {hu : Int} (h : 0 ≤ hu ∧ hu ≤ 255) {l : List Wk} (hl : ∀ w ∈ l, w.ok) {j : Nat} (hj : j < l.length) {t : Nat} (ht : t ≤ 45) {a : Pt} (ha : i16 a.x ∧ i16 a.y) :
    gapD hu (obsE hu l j) t a ≤ (dst a (aft hu (l.getD j default) t) : Nat) := by
  have hw := hl (l.getD j default) (by rw [getD_at hj]; exact List.getElem_mem _)
  obtain ⟨w, hwe⟩ : ∃ w, w = l.getD j default := ⟨_, rfl⟩
  have hs40 : seenAt w ≤ 40 := by unfold seenAt; omega
  rw [← hwe] at hw ⊢
  have n1 := aft_near h hw (seenAt w) (by omega)
  have n2 := aft_near h hw t (by omega)
  unfold i16 at ha
  obtain ⟨d, hd⟩ : ∃ d : Nat, d = (t - seenAt w) + (seenAt w - t) := ⟨_, rfl⟩
  obtain ⟨f1, f2⟩ := aft_two h w (seenAt w) t d hd
  obtain ⟨H, hH⟩ : ∃ H : Nat, (H : Int) = hu / 2 := ⟨(hu / 2).toNat, by omega⟩
  obtain ⟨U, hU⟩ : ∃ U : Nat, (U : Int) = hu := ⟨hu.toNat, by omega⟩
  have eH : (d : Int) * (hu / 2) = ((d * H : Nat) : Int) := by rw [← hH]; push_cast; rfl
  rw [eH] at f1 f2
  have hDk : 2 * (d * H) ≤ U * d := by
    have h1 : 2 * H ≤ U := by omega
    have := Nat.mul_le_mul_left d h1
    rw [← Nat.mul_assoc, Nat.mul_comm d 2, Nat.mul_assoc, Nat.mul_comm d U] at this
    exact this
  have hn := dst_near (a := a) (p := aft hu w (seenAt w)) (q := aft hu w t) (D := d * H) (hk := U * d)
    (by unfold Pt.sm Pt.sub; simp only; omega) (by unfold Pt.sm Pt.sub; simp only; omega) f1 f2 hDk
  have hage : hu * age (seenAt w : Nat) (t : Nat) = ((U * d : Nat) : Int) := by
    have : age (seenAt w : Nat) (t : Nat) = (d : Nat) := by unfold age; omega
    rw [this, ← hU]
    push_cast
    rfl
  have hp : (obsE hu l j).p = aft hu w (seenAt w) := by rw [hwe]; rfl
  have htt : (obsE hu l j).t = (seenAt w : Nat) := by rw [hwe]; rfl
  unfold gapD
  rw [hp, htt, hage]
  omega
end Go.Proofs.Ytjaccepmnjkbbaa

namespace Go.Proofs.Ytjaccepmnjkbbaa
open Go.X
set_option linter.unusedSimpArgs false
set_option linter.unusedVariables false
abbrev wkR (l : List Wk) (cs : Nat → Nat) (c : Nat) : Ck := .row false true 32 4 l.length c fun i => encWk (.sl 1 i 2 0 (l.getD i default).S.length (cs i)) (l.getD i default)
def wkM (l : List Wk) (cs : Nat → Nat) (x : Nat) : Ck := if x < l.length then stR (l.getD x default).S (cs x) else .no
theorem wkM_bel {n : Nat} {l : List Wk} {cs : Nat → Nat} {x : Nat} : (wkM l cs x).belK n True := by
  unfold wkM
  split
  · trivial
  · trivial
theorem wkM_rk (σ : List Sg) (N : Nat) (l : List Wk) (cs : Nat → Nat) (x : Nat) : (wkM l cs x).rk σ N = wkM l cs x := by
  unfold wkM
  split <;> rfl
theorem wkM_le {σ : List Sg} {N N' : Nat} {l : List Wk} {cs : Nat → Nat} {x : Nat} : (wkM l cs x).leK N ((wkM l cs x).rk σ N') True := by
  rw [wkM_rk]
  unfold wkM
  split
  · (repeat' first | refine And.intro ?_ ?_ | exact xeC | fail)
  · trivial
theorem wkM_two {l : List Wk} {cs : Nat → Nat} {i x : Nat} {q : Ck} (h : wkM l cs i = q) : (if x = i then q else if x = i then q else wkM l cs x) = wkM l cs x := by
  by_cases hx : x = i
  · rw [if_pos hx, hx, h]
  · rw [if_neg hx, if_neg hx]
theorem gap_all {hu : Int} (hh : 0 ≤ hu ∧ hu ≤ 255) {l : List Wk} (hl : ∀ w ∈ l, w.ok) (h8 : l.length ≤ 8) {t : Nat} (px py : Int) (hp : i16 px ∧ i16 py) (ht : t ≤ 45) :
    (gapV hu (obs hu l l.length) (t : Nat) ⟨px, py⟩).2 = decide (0 < (l.length : Int)) ∧ 0 ≤ (gapV hu (obs hu l l.length) (t : Nat) ⟨px, py⟩).1 ∧ ∀ i, i < l.length → (gapV hu (obs hu l l.length) (t : Nat) ⟨px, py⟩).1 ≤ (dst ⟨px, py⟩ (aft hu (l.getD i default) t) : Nat) := by
  by_cases h0 : l.length = 0
  · have : (obs hu l l.length).length = 0 := by simp [obs, h0]
    unfold gapV
    rw [if_pos this]
    refine ⟨by simp [h0], Int.le_refl _, fun i hi => by omega⟩
  · have hne : obs hu l l.length ≠ [] := by
      intro e
      have := congrArg List.length e
      simp [obs] at this
      simp [this] at h0
    unfold i16 at hp
    obtain ⟨g1, g2, g3⟩ := gap_sound (hu := hu) (t := (t : Nat)) (p := ⟨px, py⟩) (obs_ok hh hl (Nat.le_refl l.length) h8) (by unfold okT; omega) (by unfold okP; simp only; omega) hne
    refine ⟨by rw [g1]; symm; rw [decide_eq_true_iff]; omega, g2, fun i hi => ?_⟩
    exact Int.le_trans (g3 _ (mem_obs.2 ⟨i, hi, rfl⟩)) (gapD_true hh hl hi ht (by unfold i16; exact hp))
theorem rH50fF0 {σ : List Sg} {H h' : List Fam} {v : T} {K : T → List Fam → Prop} {H' : List Fam} {v' : T} {N : Nat} (hk : K v' H') (hN : H.length = N := by (try simp only [↓List.length_cons, ↓List.length_nil, Nat.reduceAdd]) <;> rfl) (h : givesF σ N H σ h' = some H' := by (try simp (maxSteps := 1000000) only [givesF, setF, updF, Fam.zeroth, Fam.rk, Ck.rk, C.rk, E.rk, T.rk, key, List.map_cons, List.map_nil, List.cons_append, List.nil_append, List.length_cons, List.length_nil, Option.map_some, Option.bind_some, Nat.reduceAdd, Nat.zero_add, Nat.add_zero, Nat.add_sub_cancel_left, Int.toNat_natCast, reps, List.all_cons, List.all_nil, C.flat, List.append_eq, Bool.not_true, Bool.and_true, Bool.or_false, Bool.or_self, Bool.not_false, List.append_nil, Bool.and_self, encPt]) <;> rfl) (hv : v.rk σ N = v' := by (try simp only [givesF, setF, updF, Fam.zeroth, Fam.rk, Ck.rk, C.rk, E.rk, T.rk, key, List.map_cons, List.map_nil, List.cons_append, List.nil_append, List.length_cons, List.length_nil, Option.map_some, Option.bind_some, Nat.reduceAdd, Nat.zero_add, Nat.add_zero, Nat.add_sub_cancel_left, Int.toNat_natCast, reps, List.all_cons, List.all_nil, C.flat, List.append_eq, Bool.not_true, Bool.and_true, Bool.or_false, Bool.or_self, Bool.not_false, List.append_nil, Bool.and_self, encPt]) <;> rfl) : RetG σ H h' v K := ret_mk3 hN h hv hk
set_option maxRecDepth 20000 in
set_option maxHeartbeats 4000000 in
theorem csound (hu : Int) (l : List Wk) (cs : Nat → Nat) (c : Nat) (px py : Int) (hh : 0 ≤ hu ∧ hu ≤ 255) (hl : ∀ w ∈ l, w.ok) (hp : i16 px ∧ i16 py) (hn : l.length ≤ 9223372036854775807) (hS : ∀ w ∈ l, w.S.length ≤ 9223372036854775807) :
    Ctr Try.prog 3 [.c (.i .u8 hu), .c (.sl 0 0 4 0 l.length c), .a [.i .i16 px, .i .i16 py]] [.one (wkR l cs c), .many (wkM l cs)] fun v _ => v = .c .tt := by
  have hok : okN hu 1000 := by unfold okN; omega
  have e1 : IntKind.i64.wrap hu = hu := by rw [IntKind.wrap_i64]; omega
  refine Ctr.mk' tbv mixed Try.func3 rfl rfl rfl (fun _ _ => by kernel_rfl) (by kernel_rfl) (by rfl) (by rfl) (by (repeat' first | refine And.intro ?_ ?_ | exact xeC | fail) <;> exact fun x => wkM_bel) ?_
  repeat' (first | (fail_if_success (with_reducible refine xstp ?_)); first | ((with_reducible refine And.intro (fun (hb : _ = true) => ?_) (fun (hb : _ = false) => ?_)) <;> replace hb := xnC hb <;> (try first | exact xfC | exact bff hb (by assumption) | exact bff (by assumption) hb)) | (with_reducible refine Both.mk ?_ ?_) | ((with_reducible refine And.intro ?_ ?_); focus exact xoC) | ((with_reducible refine Or.inl ⟨?_, ?_, ?_⟩); (focus rfl); focus exact xaC) | ((with_reducible refine xwB ?_ ?_); focus exact xaC) | ((with_reducible refine xwC ?_ ?_); focus exact xaC) | ((with_reducible refine xwD ?_ ?_); focus exact xaC) | ((with_reducible refine xwE ?_ ?_); focus exact xaC) | (with_reducible intro hc; (try simp only [capsP, and_true] at hc); (try exact xfC)) | ((fail_if_success (with_reducible first | refine xgon ?_ | intro _)); (conv => whnf); (fail_if_success (fail_if_success (with_reducible first | refine xstp ?_ | refine Both.mk ?_ ?_ | refine xgon ?_ | intro _)))))
  · skip
    refine xcal (σ := []) (nl := []) (cawake) ?_
    rintro v h' ⟨rfl, rfl⟩ hcaps
    refine rH50fF0 ?_
    repeat' (first | (fail_if_success (with_reducible refine xstp ?_)); first | ((with_reducible refine And.intro (fun (hb : _ = true) => ?_) (fun (hb : _ = false) => ?_)) <;> replace hb := xnC hb <;> (try first | exact xfC | exact bff hb (by assumption) | exact bff (by assumption) hb)) | (with_reducible refine Both.mk ?_ ?_) | ((with_reducible refine And.intro ?_ ?_); focus exact xoC) | ((with_reducible refine Or.inl ⟨?_, ?_, ?_⟩); (focus rfl); focus exact xaC) | ((with_reducible refine xwB ?_ ?_); focus exact xaC) | ((with_reducible refine xwC ?_ ?_); focus exact xaC) | ((with_reducible refine xwD ?_ ?_); focus exact xaC) | ((with_reducible refine xwE ?_ ?_); focus exact xaC) | (with_reducible intro hc; (try simp only [capsP, and_true] at hc); (try exact xfC)) | ((fail_if_success (with_reducible first | refine xgon ?_ | intro _)); (conv => whnf); (fail_if_success (fail_if_success (with_reducible first | refine xstp ?_ | refine Both.mk ?_ ?_ | refine xgon ?_ | intro _)))))
    refine FinK.mk ⟨[0, 1], _, [.one .no, .many fun _ => .no], rfl, ?_⟩
    (repeat' first | refine And.intro ?_ ?_ | exact xeC | fail)
    all_goals first | exact fun _ => trivial | skip
  rw [e1]
  refine xcal (σ := []) (nl := []) (cNewP hu 1000 hok) ?_
  rintro v h' ⟨rfl, rfl⟩ hcaps
  refine rH50fF0 ?_
  repeat' (first | (fail_if_success (with_reducible refine xstp ?_)); first | ((with_reducible refine And.intro (fun (hb : _ = true) => ?_) (fun (hb : _ = false) => ?_)) <;> replace hb := xnC hb <;> (try first | exact xfC | exact bff hb (by assumption) | exact bff (by assumption) hb)) | (with_reducible refine Both.mk ?_ ?_) | ((with_reducible refine And.intro ?_ ?_); focus exact xoC) | ((with_reducible refine Or.inl ⟨?_, ?_, ?_⟩); (focus rfl); focus exact xaC) | ((with_reducible refine xwB ?_ ?_); focus exact xaC) | ((with_reducible refine xwC ?_ ?_); focus exact xaC) | ((with_reducible refine xwD ?_ ?_); focus exact xaC) | ((with_reducible refine xwE ?_ ?_); focus exact xaC) | (with_reducible intro hc; (try simp only [capsP, and_true] at hc); (try exact xfC)) | ((fail_if_success (with_reducible first | refine xgon ?_ | intro _)); (conv => whnf); (fail_if_success (fail_if_success (with_reducible first | refine xstp ?_ | refine Both.mk ?_ ?_ | refine xgon ?_ | intro _)))))
  refine LoopK.mk' {i : Nat // i ≤ l.length ∧ ∀ j, j < i → (l.getD j default).S.length ≤ 40}
    (fun ⟨i, _⟩ => ⟨[(0, .c (.i .u8 hu)), (1, .c (.sl 0 0 4 0 l.length c)), (5, .c (.pe 2 0 1 0 0)), (7, .c (.p 3 0 0)), (9, .c (.i .i64 (i : Nat)))],
      [.one (wkR l cs c), .many (wkM l cs), .one (.row true false 24 1 2 2 (chunkOf 1 [.i .i16 px, .i .i16 py])), .one (.cells true [.i .i64 hu, .i .i64 1000, .mp 4 0]), .one (mapC i (obs hu l i))]⟩) (fun k => l.length - k.1)
    ⟨⟨0, Nat.zero_le _, by intro j h; omega⟩, [0, 1, 2, 3, 4], ?_⟩ ?_
  · (repeat' first | refine And.intro ?_ ?_ | exact xeC | fail)
    all_goals first | exact fun x => wkM_le | exact fun x => wkM_bel | (intro i hi; exact absurd hi (Nat.not_lt_zero i))
  rintro ⟨i, hi, hst⟩
  repeat' (first | (fail_if_success (with_reducible refine xstp ?_)); first | ((with_reducible refine And.intro (fun (hb : _ = true) => ?_) (fun (hb : _ = false) => ?_)) <;> replace hb := xnC hb <;> (try first | exact xfC | exact bff hb (by assumption) | exact bff (by assumption) hb)) | (with_reducible refine Both.mk ?_ ?_) | ((with_reducible refine And.intro ?_ ?_); focus exact xoC) | ((with_reducible refine Or.inl ⟨?_, ?_, ?_⟩); (focus rfl); focus exact xaC) | ((with_reducible refine xwB ?_ ?_); focus exact xaC) | ((with_reducible refine xwC ?_ ?_); focus exact xaC) | ((with_reducible refine xwD ?_ ?_); focus exact xaC) | ((with_reducible refine xwE ?_ ?_); focus exact xaC) | (with_reducible intro hc; (try simp only [capsP, and_true] at hc); (try exact xfC)) | ((fail_if_success (with_reducible first | refine xgon ?_ | intro _)); (conv => whnf); (fail_if_success (fail_if_success (with_reducible first | refine xstp ?_ | refine Both.mk ?_ ?_ | refine xgon ?_ | intro _)))))
  · skip
    refine xcal (σ := []) (nl := []) (cawake) ?_
    rintro v h' ⟨rfl, rfl⟩ hcaps
    refine rH50fF0 ?_
    repeat' (first | (fail_if_success (with_reducible refine xstp ?_)); first | ((with_reducible refine And.intro (fun (hb : _ = true) => ?_) (fun (hb : _ = false) => ?_)) <;> replace hb := xnC hb <;> (try first | exact xfC | exact bff hb (by assumption) | exact bff (by assumption) hb)) | (with_reducible refine Both.mk ?_ ?_) | ((with_reducible refine And.intro ?_ ?_); focus exact xoC) | ((with_reducible refine Or.inl ⟨?_, ?_, ?_⟩); (focus rfl); focus exact xaC) | ((with_reducible refine xwB ?_ ?_); focus exact xaC) | ((with_reducible refine xwC ?_ ?_); focus exact xaC) | ((with_reducible refine xwD ?_ ?_); focus exact xaC) | ((with_reducible refine xwE ?_ ?_); focus exact xaC) | (with_reducible intro hc; (try simp only [capsP, and_true] at hc); (try exact xfC)) | ((fail_if_success (with_reducible first | refine xgon ?_ | intro _)); (conv => whnf); (fail_if_success (fail_if_success (with_reducible first | refine xstp ?_ | refine Both.mk ?_ ?_ | refine xgon ?_ | intro _)))))
    refine FinK.mk ⟨[0, 1], _, [.one .no, .many fun _ => .no], rfl, ?_⟩
    (repeat' first | refine And.intro ?_ ?_ | exact xeC | fail)
    all_goals first | exact fun _ => trivial | skip
  · have hlt : i < l.length := by omega
    have hw := hl (l.getD i default) (by rw [getD_at hlt]; exact List.getElem_mem _)
    have hsn := hw.sn
    have hse : IntKind.i64.wrap ((l.getD (0 + ((i : Nat) : Int).toNat) default).sn.tmod 41) = (seenAt (l.getD i default) : Nat) := by
      rw [Int.toNat_natCast, Nat.zero_add, Int.tmod_eq_emod_of_nonneg hsn.1, IntKind.wrap_i64]
      unfold seenAt
      omega
    have hs40 : seenAt (l.getD i default) ≤ 40 := by unfold seenAt; omega
    have hmem : wkM l cs i = stR (l.getD i default).S (cs i) := by unfold wkM; rw [if_pos hlt]
    rw [hse, e1]
    refine xcal (σ := [.mem 1 i]) (nl := []) (cafter hu (l.getD i default) (seenAt (l.getD i default)) (cs i) hh hw (by omega) (by omega)) ?_ (hle := by (repeat' first | refine And.intro ?_ ?_ | exact xeC | fail) <;> (refine ManyK.mk ⟨_, hmem, ?_⟩ <;> (repeat' first | refine And.intro ?_ ?_ | exact xeC | fail)))
    rintro v h' ⟨rfl, rfl⟩ hcaps
    refine rH50fF0 ?_
    repeat' (first | (fail_if_success (with_reducible refine xstp ?_)); first | ((with_reducible refine And.intro (fun (hb : _ = true) => ?_) (fun (hb : _ = false) => ?_)) <;> replace hb := xnC hb <;> (try first | exact xfC | exact bff hb (by assumption) | exact bff (by assumption) hb)) | (with_reducible refine Both.mk ?_ ?_) | ((with_reducible refine And.intro ?_ ?_); focus exact xoC) | ((with_reducible refine Or.inl ⟨?_, ?_, ?_⟩); (focus rfl); focus exact xaC) | ((with_reducible refine xwB ?_ ?_); focus exact xaC) | ((with_reducible refine xwC ?_ ?_); focus exact xaC) | ((with_reducible refine xwD ?_ ?_); focus exact xaC) | ((with_reducible refine xwE ?_ ?_); focus exact xaC) | (with_reducible intro hc; (try simp only [capsP, and_true] at hc); (try exact xfC)) | ((fail_if_success (with_reducible first | refine xgon ?_ | intro _)); (conv => whnf); (fail_if_success (fail_if_success (with_reducible first | refine xstp ?_ | refine Both.mk ?_ ?_ | refine xgon ?_ | intro _)))))
    obtain ⟨o1, o2⟩ := obs_see hh hl hlt (by omega)
    refine xcal (σ := [.whole 3, .whole 4]) (nl := []) (cSee hu 1000 i (obs hu l i) ((i : Nat) + 1) (seenAt (l.getD i default) : Nat) (aft hu (l.getD i default) (seenAt (l.getD i default))) (obs_ok hh hl (by omega) (by omega)).ne) ?_
    rw [o1, o2]
    rintro v h' ⟨rfl, rfl⟩ hcaps
    refine rH50fF0 ?_
    repeat' (first | (fail_if_success (with_reducible refine xstp ?_)); first | ((with_reducible refine And.intro (fun (hb : _ = true) => ?_) (fun (hb : _ = false) => ?_)) <;> replace hb := xnC hb <;> (try first | exact xfC | exact bff hb (by assumption) | exact bff (by assumption) hb)) | (with_reducible refine Both.mk ?_ ?_) | ((with_reducible refine And.intro ?_ ?_); focus exact xoC) | ((with_reducible refine Or.inl ⟨?_, ?_, ?_⟩); (focus rfl); focus exact xaC) | ((with_reducible refine xwB ?_ ?_); focus exact xaC) | ((with_reducible refine xwC ?_ ?_); focus exact xaC) | ((with_reducible refine xwD ?_ ?_); focus exact xaC) | ((with_reducible refine xwE ?_ ?_); focus exact xaC) | (with_reducible intro hc; (try simp only [capsP, and_true] at hc); (try exact xfC)) | ((fail_if_success (with_reducible first | refine xgon ?_ | intro _)); (conv => whnf); (fail_if_success (fail_if_success (with_reducible first | refine xstp ?_ | refine Both.mk ?_ ?_ | refine xgon ?_ | intro _)))))
    refine ⟨⟨i + 1, by omega, fun j hj => ?_⟩, [0, 1, 2, 3, 4], by simp only; omega, ?_⟩
    · rcases (by omega : j < i ∨ j = i) with h | rfl
      · exact hst j h
      · omega
    (repeat' first | refine And.intro ?_ ?_ | exact xeC | fail)
    all_goals first
      | exact fun x => wkM_bel
      | (intro x
         show Ck.leK _ (if x = i then _ else if x = i then _ else wkM l cs x) _ True
         rw [wkM_two hmem]
         exact wkM_le)
  · obtain rfl : i = l.length := by omega
    have hpx : IntKind.i64.wrap px = px := by unfold i16 at hp; rw [IntKind.wrap_i64]; omega
    have hpy : IntKind.i64.wrap py = py := by unfold i16 at hp; rw [IntKind.wrap_i64]; omega
    rw [hpx, hpy]
    have hpo := obs_ok hh hl (Nat.le_refl l.length) (by omega)
    refine LoopK.mk' {t : Nat // t ≤ 46}
      (fun ⟨t, _⟩ => ⟨[(0, .c (.i .u8 hu)), (1, .c (.sl 0 0 4 0 l.length c)), (7, .c (.p 3 0 0)), (11, .c (.p 5 0 0)), (12, .c (.i .i64 (t : Nat)))],
        [.one (wkR l cs c), .many (wkM l cs), .one .no, .one (.cells true [.i .i64 hu, .i .i64 1000, .mp 4 0]), .one (mapC l.length (obs hu l l.length)), .one (.cells true (encPt ⟨px, py⟩))]⟩) (fun k => 46 - k.1)
      ⟨⟨0, by omega⟩, [0, 1, 2, 3, 4, 5], ?_⟩ ?_
    · (repeat' first | refine And.intro ?_ ?_ | exact xeC | fail)
      all_goals first | exact fun x => wkM_le | exact fun x => wkM_bel
    rintro ⟨t, ht⟩
    have hg := gap_all hh hl (by omega) (t := t) px py hp
    repeat' (first | (fail_if_success (with_reducible refine xstp ?_)); first | ((with_reducible refine And.intro (fun (hb : _ = true) => ?_) (fun (hb : _ = false) => ?_)) <;> replace hb := xnC hb <;> (try first | exact xfC | exact bff hb (by assumption) | exact bff (by assumption) hb)) | (with_reducible refine Both.mk ?_ ?_) | ((with_reducible refine And.intro ?_ ?_); focus exact xoC) | ((with_reducible refine Or.inl ⟨?_, ?_, ?_⟩); (focus rfl); focus exact xaC) | ((with_reducible refine xwB ?_ ?_); focus exact xaC) | ((with_reducible refine xwC ?_ ?_); focus exact xaC) | ((with_reducible refine xwD ?_ ?_); focus exact xaC) | ((with_reducible refine xwE ?_ ?_); focus exact xaC) | (with_reducible intro hc; (try simp only [capsP, and_true] at hc); (try exact xfC)) | ((fail_if_success (with_reducible first | refine xgon ?_ | intro _)); (conv => whnf); (fail_if_success (fail_if_success (with_reducible first | refine xstp ?_ | refine Both.mk ?_ ?_ | refine xgon ?_ | intro _)))))
    · have hg := hg (by omega)
      refine xcal (σ := [.whole 3, .whole 4]) (nl := []) (cGap hu 1000 l.length (obs hu l l.length) (t : Nat) ⟨px, py⟩ hpo (by omega)) ?_
      rintro v h' ⟨rfl, rfl⟩ hcaps
      refine rH50fF0 ?_
      repeat' (first | (fail_if_success (with_reducible refine xstp ?_)); first | ((with_reducible refine And.intro (fun (hb : _ = true) => ?_) (fun (hb : _ = false) => ?_)) <;> replace hb := xnC hb <;> (try first | exact xfC | exact bff hb (by assumption) | exact bff (by assumption) hb)) | (with_reducible refine Both.mk ?_ ?_) | ((with_reducible refine And.intro ?_ ?_); focus exact xoC) | ((with_reducible refine Or.inl ⟨?_, ?_, ?_⟩); (focus rfl); focus exact xaC) | ((with_reducible refine xwB ?_ ?_); focus exact xaC) | ((with_reducible refine xwC ?_ ?_); focus exact xaC) | ((with_reducible refine xwD ?_ ?_); focus exact xaC) | ((with_reducible refine xwE ?_ ?_); focus exact xaC) | (with_reducible intro hc; (try simp only [capsP, and_true] at hc); (try exact xfC)) | ((fail_if_success (with_reducible first | refine xgon ?_ | intro _)); (conv => whnf); (fail_if_success (fail_if_success (with_reducible first | refine xstp ?_ | refine Both.mk ?_ ?_ | refine xgon ?_ | intro _)))))
      · exfalso
        rw [hg.1] at hb
        simp at hb
      refine LoopK.mk' {i : Nat // i ≤ l.length}
        (fun ⟨i, _⟩ => ⟨[(0, .c (.i .u8 hu)), (1, .c (.sl 0 0 4 0 l.length c)), (7, .c (.p 3 0 0)), (11, .c (.p 5 0 0)), (12, .c (.i .i64 (t : Nat))), (13, .c (.i .i64 (gapV hu (obs hu l l.length) (t : Nat) ⟨px, py⟩).1)), (15, .c (.i .i64 (i : Nat)))],
          [.one (wkR l cs c), .many (wkM l cs), .one .no, .one (.cells true [.i .i64 hu, .i .i64 1000, .mp 4 0]), .one (mapC l.length (obs hu l l.length)), .one (.cells true (encPt ⟨px, py⟩))]⟩) (fun k => l.length - k.1)
        ⟨⟨0, Nat.zero_le _⟩, [0, 1, 2, 3, 4, 5], ?_⟩ ?_
      · (repeat' first | refine And.intro ?_ ?_ | exact xeC | fail)
        all_goals first | exact fun x => wkM_le | exact fun x => wkM_bel
      rintro ⟨i, hi⟩
      repeat' (first | (fail_if_success (with_reducible refine xstp ?_)); first | ((with_reducible refine And.intro (fun (hb : _ = true) => ?_) (fun (hb : _ = false) => ?_)) <;> replace hb := xnC hb <;> (try first | exact xfC | exact bff hb (by assumption) | exact bff (by assumption) hb)) | (with_reducible refine Both.mk ?_ ?_) | ((with_reducible refine And.intro ?_ ?_); focus exact xoC) | ((with_reducible refine Or.inl ⟨?_, ?_, ?_⟩); (focus rfl); focus exact xaC) | ((with_reducible refine xwB ?_ ?_); focus exact xaC) | ((with_reducible refine xwC ?_ ?_); focus exact xaC) | ((with_reducible refine xwD ?_ ?_); focus exact xaC) | ((with_reducible refine xwE ?_ ?_); focus exact xaC) | (with_reducible intro hc; (try simp only [capsP, and_true] at hc); (try exact xfC)) | ((fail_if_success (with_reducible first | refine xgon ?_ | intro _)); (conv => whnf); (fail_if_success (fail_if_success (with_reducible first | refine xstp ?_ | refine Both.mk ?_ ?_ | refine xgon ?_ | intro _)))))
      · have hlt : i < l.length := by omega
        have hw := hl (l.getD i default) (by rw [getD_at hlt]; exact List.getElem_mem _)
        have hmem : wkM l cs i = stR (l.getD i default).S (cs i) := by unfold wkM; rw [if_pos hlt]
        have hst2 := hst i hlt
        rw [e1]
        refine xcal (σ := [.mem 1 i]) (nl := []) (cafter hu (l.getD i default) t (cs i) hh hw (by omega) (by omega)) ?_ (hle := by (repeat' first | refine And.intro ?_ ?_ | exact xeC | fail) <;> (refine ManyK.mk ⟨_, hmem, ?_⟩ <;> (repeat' first | refine And.intro ?_ ?_ | exact xeC | fail)))
        rintro v h' ⟨rfl, rfl⟩ hcaps
        refine rH50fF0 ?_
        repeat' (first | (fail_if_success (with_reducible refine xstp ?_)); first | ((with_reducible refine And.intro (fun (hb : _ = true) => ?_) (fun (hb : _ = false) => ?_)) <;> replace hb := xnC hb <;> (try first | exact xfC | exact bff hb (by assumption) | exact bff (by assumption) hb)) | (with_reducible refine Both.mk ?_ ?_) | ((with_reducible refine And.intro ?_ ?_); focus exact xoC) | ((with_reducible refine Or.inl ⟨?_, ?_, ?_⟩); (focus rfl); focus exact xaC) | ((with_reducible refine xwB ?_ ?_); focus exact xaC) | ((with_reducible refine xwC ?_ ?_); focus exact xaC) | ((with_reducible refine xwD ?_ ?_); focus exact xaC) | ((with_reducible refine xwE ?_ ?_); focus exact xaC) | (with_reducible intro hc; (try simp only [capsP, and_true] at hc); (try exact xfC)) | ((fail_if_success (with_reducible first | refine xgon ?_ | intro _)); (conv => whnf); (fail_if_success (fail_if_success (with_reducible first | refine xstp ?_ | refine Both.mk ?_ ?_ | refine xgon ?_ | intro _)))))
        have hnear := aft_near hh hw t (by omega)
        have hq := hg.2.2 i hlt
        unfold i16 at hp
        refine xcal (σ := []) (nl := []) (cDistanceR ⟨px, py⟩ (aft hu (l.getD i default) t) (by unfold Pt.sm; simp only; omega) (by unfold Pt.sm; omega) (by unfold Pt.sm Pt.sub; simp only; omega)) ?_
        rintro v h' ⟨rfl, rfl⟩ hcaps
        refine rH50fF0 ?_
        repeat' (first | (fail_if_success (with_reducible refine xstp ?_)); first | ((with_reducible refine And.intro (fun (hb : _ = true) => ?_) (fun (hb : _ = false) => ?_)) <;> replace hb := xnC hb <;> (try first | exact xfC | exact bff hb (by assumption) | exact bff (by assumption) hb)) | (with_reducible refine Both.mk ?_ ?_) | ((with_reducible refine And.intro ?_ ?_); focus exact xoC) | ((with_reducible refine Or.inl ⟨?_, ?_, ?_⟩); (focus rfl); focus exact xaC) | ((with_reducible refine xwB ?_ ?_); focus exact xaC) | ((with_reducible refine xwC ?_ ?_); focus exact xaC) | ((with_reducible refine xwD ?_ ?_); focus exact xaC) | ((with_reducible refine xwE ?_ ?_); focus exact xaC) | (with_reducible intro hc; (try simp only [capsP, and_true] at hc); (try exact xfC)) | ((fail_if_success (with_reducible first | refine xgon ?_ | intro _)); (conv => whnf); (fail_if_success (fail_if_success (with_reducible first | refine xstp ?_ | refine Both.mk ?_ ?_ | refine xgon ?_ | intro _)))))
        refine ⟨⟨i + 1, by omega⟩, [0, 1, 2, 3, 4, 5], by simp only; omega, ?_⟩
        (repeat' first | refine And.intro ?_ ?_ | exact xeC | fail)
        all_goals first
          | exact fun x => wkM_bel
          | (intro x
             show Ck.leK _ (if x = i then _ else if x = i then _ else wkM l cs x) _ True
             rw [wkM_two hmem]
             exact wkM_le)
      · refine ⟨⟨t + 1, by omega⟩, [0, 1, 2, 3, 4, 5], by simp only; omega, ?_⟩
        (repeat' first | refine And.intro ?_ ?_ | exact xeC | fail)
        all_goals first | exact fun x => wkM_le | exact fun x => wkM_bel
    · skip
      refine xcal (σ := []) (nl := []) (cawake) ?_
      rintro v h' ⟨rfl, rfl⟩ hcaps
      refine rH50fF0 ?_
      repeat' (first | (fail_if_success (with_reducible refine xstp ?_)); first | ((with_reducible refine And.intro (fun (hb : _ = true) => ?_) (fun (hb : _ = false) => ?_)) <;> replace hb := xnC hb <;> (try first | exact xfC | exact bff hb (by assumption) | exact bff (by assumption) hb)) | (with_reducible refine Both.mk ?_ ?_) | ((with_reducible refine And.intro ?_ ?_); focus exact xoC) | ((with_reducible refine Or.inl ⟨?_, ?_, ?_⟩); (focus rfl); focus exact xaC) | ((with_reducible refine xwB ?_ ?_); focus exact xaC) | ((with_reducible refine xwC ?_ ?_); focus exact xaC) | ((with_reducible refine xwD ?_ ?_); focus exact xaC) | ((with_reducible refine xwE ?_ ?_); focus exact xaC) | (with_reducible intro hc; (try simp only [capsP, and_true] at hc); (try exact xfC)) | ((fail_if_success (with_reducible first | refine xgon ?_ | intro _)); (conv => whnf); (fail_if_success (fail_if_success (with_reducible first | refine xstp ?_ | refine Both.mk ?_ ?_ | refine xgon ?_ | intro _)))))
      refine FinK.mk ⟨[0, 1], _, [.one .no, .many fun _ => .no], rfl, ?_⟩
      (repeat' first | refine And.intro ?_ ?_ | exact xeC | fail)
      all_goals first | exact fun _ => trivial | skip
end Go.Proofs.Ytjaccepmnjkbbaa

namespace Go.Proofs.Ytjaccepmnjkbbaa
open Go.X Go.RowKit
set_option linter.unusedVariables false
abbrev kWk : List K := [.i .i16, .i .i16, .sl [.i .i16, .i .i16], .i .u8]
theorem ft_St {l : List C} (h : FT [.i .i16, .i .i16] l) : ∃ x : Int × Int, l = encSt x ∧ (i16 x.1 ∧ i16 x.2) := by
  obtain ⟨a, _, rfl, ha, h1⟩ := FT_i h
  obtain ⟨b, _, rfl, hb, h2⟩ := FT_i h1
  obtain rfl := FT_nil h2
  exact ⟨(a, b), rfl, ha, hb⟩
theorem ft_Wk {W : World} {B : Nat → Nat × Nat × Fl} {D : List DC} (h : FD W B 0 kWk D) :
    ∃ (x : Wk × Nat), (∀ F i, layD F i 0 D = encWk (.sl (F 2) i 2 0 x.1.S.length x.2) x.1) ∧ (∀ β e, (Ck.row false false e 2 x.1.S.length x.2 (rowOf encSt x.1.S)).holds β W (B 2)) ∧ x.1.S.length ≤ maxLen ∧ x.1.ok := by
  obtain ⟨a, _, rfl, ha, h1⟩ := FD_i h
  obtain ⟨b, _, rfl, hb, h2⟩ := FD_i h1
  obtain ⟨n, c, R, _, rfl, hnc, hn, hh, hg, h3⟩ := FD_n h2
  obtain ⟨s, _, rfl, hs, h4⟩ := FD_i h3
  obtain rfl := FD_nil h4
  obtain ⟨m, hl, hge, hm⟩ := list_of encSt (Pr := fun x => i16 x.1 ∧ i16 x.2) (fun i hi => ft_St (hg i hi))
  subst hl
  exact ⟨(⟨a, b, m, s⟩, c), fun F i => rfl, fun β e => holds_row_congr (hh β e) hge, hn, ⟨ha, hb, hm, hs⟩⟩
theorem walk_SeparationSound (W : World) (a0 : Int) (w0 : (Lit.int .u8 a0).wf = true) (v1 : Value) (k1 : VK W (.sl kWk) v1) (e1 : ∀ a n c, v1 = .slice (some a) n c → a.spot = none) (c2 : Array Value) (k2 : VKs W [.i .i16, .i .i16] c2.toList) :
    Calls Try.prog 3 #[.int .u8 a0, v1, .agg c2] W fun e W' => e = .returned (.bool true) ∧ Below W.heap.size W W' := by
  obtain ⟨n, c, D, B, hv, hh, hn, _, _, hD⟩ := nest_view (by rfl) k1
  obtain ⟨L, hL, hx⟩ := list_ix (n := n) (fun i hi => ft_Wk (hD i hi))
  subst hL
  obtain ⟨l, hl⟩ : ∃ l : List Wk, l = L.map Prod.fst := ⟨_, rfl⟩
  obtain ⟨cs, hcs⟩ : ∃ cs : Nat → Nat, cs = fun i => (L.getD i default).2 := ⟨_, rfl⟩
  have hll : l.length = L.length := by rw [hl, List.length_map]
  have hlg : ∀ i, i < L.length → l.getD i default = (L.getD i default).1 := fun i hi => by
    rw [hl, getD_at (by rw [List.length_map]; exact hi), List.getElem_map, getD_at hi]
  have hall : ∀ w ∈ l, w.ok ∧ w.S.length ≤ maxLen := by
    intro w hw
    obtain ⟨i, hi, rfl⟩ := List.getElem_of_mem hw
    rw [← getD_at hi, hlg i (by omega)]
    have := hx i (by omega)
    exact ⟨this.2.2.2, this.2.2.1⟩
  obtain ⟨l2, f2, r2, _, _⟩ := flat_view (by rfl) k2
  obtain ⟨⟨px, py⟩, rfl, hp⟩ := ft_St f2
  have hrow := hh (nmQ (nameOf v1) B 2) (Fq 2) 32 (fun i y _ _ => nmQ_at _ B 2 i y)
  obtain ⟨hf, hno⟩ := fits_nest (β := nmQ (nameOf v1) B 2) (W := W) (ck := wkR l cs c) (g := wkM l cs) (by
    have := holds_rowK_congr hrow (g' := fun i => encWk (.sl 1 i 2 0 (l.getD i default).S.length (cs i)) (l.getD i default)) (fun i hi => by rw [(hx i hi).1, hlg i hi, hcs]; rfl)
    show (Ck.row false true 32 4 l.length c _).holds _ W _
    rw [hll]
    exact this) rfl (fun x => by
    unfold wkM
    split
    · rename_i hxl
      have := (hx x (by omega)).2.1 (nmQ (nameOf v1) B 2) 24
      rw [hlg x (by omega), hcs]
      exact this
    · trivial) (fun x => by unfold wkM; split <;> rfl)
  have hv' : C.ren (nmQ (nameOf v1) B 2) (C.sl 0 0 4 0 l.length c) = v1 := by rw [hll]; exact hv _ 0 0 4 rfl
  have hm : maxLen ≤ 9223372036854775807 := by unfold maxLen; omega
  have := glue (csound a0 l cs c px py (wf_bounds w0) (fun w hw => (hall w hw).1) hp (by omega) (fun w hw => by have := (hall w hw).2; omega)) hf hno
  have e0 : renL (nmQ (nameOf v1) B 2) [.i .i16 px, .i .i16 py] = c2 := by
    apply Array.toList_inj.1
    rw [← r2 (nmQ (nameOf v1) B 2)]; rfl
  simp only [List.map_cons, List.map_nil, T.ren, hv', e0, show C.ren (nmQ (nameOf v1) B 2) (.i .u8 a0) = .int .u8 a0 from rfl] at this
  exact this
end Go.Proofs.Ytjaccepmnjkbbaa
