/- Part 5 of the texts that a walk of this program rests on: an abstract machine, its soundness, contracts of functions. No statement of the seat is proved in this file. -/
import Derived.Test.YtgaodeffbgppmaaT4
namespace Go.Proofs.Ytgaodeffbgppmaa
open Go.X
set_option linter.unusedSimpArgs false
set_option linter.unusedVariables false
structure Fg where
  (id ix ct : Int) (d : List UInt8)
deriving Inhabited, DecidableEq
def encG (f : Fg) : List C := [.i .i64 f.id, .i .i64 f.ix, .i .i64 f.ct, .s (mkS f.d)]
def okF (f : Fg) : Prop := (0 ≤ f.id ∧ f.id ≤ 1099511627776) ∧ (1 ≤ f.ct ∧ f.ct ≤ 64) ∧ (0 ≤ f.ix ∧ f.ix < f.ct) ∧ f.d.length ≤ 4000
instance (f : Fg) : Decidable (okF f) := by unfold okF; infer_instance
/-- An incomplete string. -/
structure Tx where
  (id : Nat) (fr i ct : Int) (M : List (Nat × Int × List UInt8)) (ck : Nat)
deriving Inhabited
def txD (fm y : Nat) (t : Tx) : Ck := .cells true [.i .i64 t.fr, .i .i64 t.i, .i .i64 t.ct, .mp fm y]
def paC (t : Tx) : Ck := .map true false t.ck t.M.length fun i => ((t.M.getD i default).1, .i (t.M.getD i default).2.1, .c (.s (mkS (t.M.getD i default).2.2)))
def txG (fm y : Nat) (L : List Tx) (x : Nat) : Ck := match L.find? fun t => t.id == x with | none => .no | some t => txD fm y t
abbrev txO (fm : Nat) (L : List Tx) (x : Nat) : Ck := txG fm x L x
def paO (L : List Tx) (x : Nat) : Ck := match L.find? fun t => t.id == x with | none => .no | some t => paC t
def encId (F : Nat) (x : Nat) : List C := [.p F x 0]
def encK (p : Int × Int) : List C := [.i .i64 p.1, .i .i64 p.2]
abbrev asm (mo : Int) (fo fd : Nat) (o n c nd cd : Nat) : Ck := .cells true [.i .i64 mo, .sl fo 0 1 o n c, .sl fd 0 2 0 nd cd]
abbrev opnR (F : Nat) (l : List Nat) (c : Nat) : Ck := .row true true 84 1 l.length c (rowOf (encId F) l)
abbrev donR (l : List (Int × Int)) (c : Nat) : Ck := .row true false 83 2 l.length c (rowOf encK l)
def idsOf (L : List Tx) : List Nat := L.map Tx.id
/-- A whole assembler: J names what was dropped at the front. -/
abbrev asmB (mo : Int) (J : List Nat) (L : List Tx) (dn : List (Int × Int)) (c cd : Nat) : List Fam :=
  [.one (asm mo 1 2 J.length L.length c dn.length cd), .one (opnR 3 (J ++ idsOf L) (J.length + c)), .one (donR dn cd), .many (txO 4 L), .many (paO L)]

abbrev keyR (p : Int × Int) : Ck := .row true false 83 1 2 2 (chunkOf 1 (encK p))

theorem mtO_bel {n fm y : Nat} {L : List Tx} {x : Nat} (h : Nat.blt fm n = true) : (txG fm y L x).belK n True := by
  unfold txG
  split
  · trivial
  · show ifB _ True
    simp [C.belB, h, ifB]
theorem winO_bel {n : Nat} {L : List Tx} {x : Nat} : (paO L x).belK n True := by
  unfold paO
  split
  · trivial
  · exact ⟨fun i hi => rfl, trivial⟩
theorem mtG_rk (σ : List Sg) (N fm y : Nat) (L : List Tx) (x : Nat) : (txG fm y L x).rk σ N = txG (key σ N fm y).1 (key σ N fm y).2 L x := by
  unfold txG
  split
  · rfl
  · simp [txD, Ck.rk, C.rk]
theorem mtO_rk {σ : List Sg} {N fm fm' x : Nat} {L : List Tx} (h : key σ N fm x = (fm', x)) : (txO fm L x).rk σ N = txO fm' L x := by
  rw [mtG_rk, h]
theorem map_rk_id (σ : List Sg) (N F : Nat) (l : List Nat) (i : Nat) : List.map (C.rk σ N) (rowOf (encId F) l i) = [.p (key σ N F (l.getD i default)).1 (key σ N F (l.getD i default)).2 0] := rfl
theorem winO_rk (σ : List Sg) (N : Nat) (L : List Tx) (x : Nat) : (paO L x).rk σ N = paO L x := by
  unfold paO
  split <;> rfl
theorem mtR_bel {σ : List Sg} {n N fm fm' x : Nat} {L : List Tx} (hk : key σ N fm x = (fm', x)) (h : Nat.blt fm' n = true) : ((txO fm L x).rk σ N).belK n True := by
  rw [mtO_rk hk]; exact mtO_bel h
theorem winR_bel {σ : List Sg} {n N : Nat} {L : List Tx} {x : Nat} : ((paO L x).rk σ N).belK n True := by
  rw [winO_rk]; exact winO_bel
theorem mtO_le {σ : List Sg} {N N' fm fm' x : Nat} {L : List Tx} (h : key σ N' fm x = (fm', x)) : (txO fm' L x).leK N ((txO fm L x).rk σ N') True := by
  rw [mtO_rk h]
  unfold txO txG
  split
  · trivial
  · simp [txD, Ck.leK, sameB, eqL, C.eqK, sameK, ifB, kNat]
theorem winO_le {σ : List Sg} {N N' : Nat} {L : List Tx} {x : Nat} : (paO L x).leK N ((paO L x).rk σ N') True := by
  rw [winO_rk]
  unfold paO
  split
  · trivial
  · exact ⟨rfl, rfl, rfl, rfl, fun _ _ => rfl, trivial⟩

theorem xmC {p : Prop} (h : p := by first | exact fun _ => trivial | exact fun x => mtO_le rfl | exact fun x => winO_le | exact fun x => mtO_bel rfl | exact fun x => winO_bel | exact fun x => mtR_bel rfl rfl | exact fun x => winR_bel | fail) : p := h

theorem rH15qA0 {σ : List Sg} {H h' : List Fam} {v : T} {K : T → List Fam → Prop} {H' : List Fam} {v' : T} {N : Nat} (hk : K v' H') (hN : H.length = N := by (try simp only [↓List.length_cons, ↓List.length_nil, Nat.reduceAdd]) <;> rfl) (h : givesF σ N H σ h' = some H' := by (try simp (maxSteps := 1000000) only [givesF, setF, updF, Fam.zeroth, Fam.rk, Ck.rk, C.rk, E.rk, T.rk, key, List.map_cons, List.map_nil, List.cons_append, List.nil_append, List.length_cons, List.length_nil, Option.map_some, Option.bind_some, Nat.reduceAdd, Nat.zero_add, Nat.add_zero, Nat.add_sub_cancel_left, Int.toNat_natCast, reps, List.all_cons, List.all_nil, C.flat, List.append_eq, Bool.not_true, Bool.and_true, Bool.or_false, Bool.or_self, Bool.not_false, List.append_nil, Bool.and_self, encG]) <;> rfl) (hv : v.rk σ N = v' := by (try simp only [givesF, setF, updF, Fam.zeroth, Fam.rk, Ck.rk, C.rk, E.rk, T.rk, key, List.map_cons, List.map_nil, List.cons_append, List.nil_append, List.length_cons, List.length_nil, Option.map_some, Option.bind_some, Nat.reduceAdd, Nat.zero_add, Nat.add_zero, Nat.add_sub_cancel_left, Int.toNat_natCast, reps, List.all_cons, List.all_nil, C.flat, List.append_eq, Bool.not_true, Bool.and_true, Bool.or_false, Bool.or_self, Bool.not_false, List.append_nil, Bool.and_self, encG]) <;> rfl) : RetG σ H h' v K := ret_mk3 hN h hv hk
set_option maxRecDepth 10000 in
theorem cvalid (f : Fg) :
    Ctr Try.prog 35 [.a (encG f)] [] fun v h => v = .c (.b (decide (okF f))) ∧ h = [] := by
  have hz : (mkS f.d).size = f.d.length := rfl
  refine Ctr.mk' tbv mixed Try.func35 rfl rfl rfl (fun _ _ => by kernel_rfl) (by kernel_rfl) (by rfl) (by rfl) (by (repeat' first | refine And.intro ?_ ?_ | exact xeC | fail)) ?_
  repeat' (first | (fail_if_success (with_reducible refine xstp ?_)); first | ((with_reducible refine And.intro (fun (hb : _ = true) => ?_) (fun (hb : _ = false) => ?_)) <;> replace hb := xnC hb <;> (try first | exact xfC | exact bff hb (by assumption) | exact bff (by assumption) hb)) | (with_reducible refine Both.mk ?_ ?_) | ((with_reducible refine And.intro ?_ ?_); focus exact xoC) | ((with_reducible refine Or.inl ⟨?_, ?_, ?_⟩); (focus rfl); focus exact xaC) | ((with_reducible refine xwB ?_ ?_); focus exact xaC) | ((with_reducible refine xwC ?_ ?_); focus exact xaC) | ((with_reducible refine xwD ?_ ?_); focus exact xaC) | ((with_reducible refine xwE ?_ ?_); focus exact xaC) | (with_reducible intro hc; (try simp only [capsP, and_true] at hc); (try exact xfC)) | ((fail_if_success (with_reducible first | refine xgon ?_ | intro _)); (conv => whnf); (fail_if_success (fail_if_success (with_reducible first | refine xstp ?_ | refine Both.mk ?_ ?_ | refine xgon ?_ | intro _)))))
  refine xcal (σ := []) (nl := []) (cwithin (f.id) (0) (1099511627776)) ?_
  rintro v h' ⟨rfl, rfl⟩ hcaps
  refine rH15qA0 ?_
  repeat' (first | (fail_if_success (with_reducible refine xstp ?_)); first | ((with_reducible refine And.intro (fun (hb : _ = true) => ?_) (fun (hb : _ = false) => ?_)) <;> replace hb := xnC hb <;> (try first | exact xfC | exact bff hb (by assumption) | exact bff (by assumption) hb)) | (with_reducible refine Both.mk ?_ ?_) | ((with_reducible refine And.intro ?_ ?_); focus exact xoC) | ((with_reducible refine Or.inl ⟨?_, ?_, ?_⟩); (focus rfl); focus exact xaC) | ((with_reducible refine xwB ?_ ?_); focus exact xaC) | ((with_reducible refine xwC ?_ ?_); focus exact xaC) | ((with_reducible refine xwD ?_ ?_); focus exact xaC) | ((with_reducible refine xwE ?_ ?_); focus exact xaC) | (with_reducible intro hc; (try simp only [capsP, and_true] at hc); (try exact xfC)) | ((fail_if_success (with_reducible first | refine xgon ?_ | intro _)); (conv => whnf); (fail_if_success (fail_if_success (with_reducible first | refine xstp ?_ | refine Both.mk ?_ ?_ | refine xgon ?_ | intro _)))))
  all_goals first
    | (refine FinK.mk ⟨[], _, _, ⟨rfl, rfl⟩, ?_⟩; (repeat' first | refine And.intro ?_ ?_ | exact xeC | fail)
       all_goals (first | exact decide_eq_true (by unfold okF; omega) | exact decide_eq_false (by unfold okF; omega) | exact (decide_eq_true (by unfold okF; omega)).symm | exact (decide_eq_false (by unfold okF; omega)).symm | exact decide_eq_decide.2 (by unfold okF; omega))
       done)
    | skip
  refine xcal (σ := []) (nl := []) (cwithin (f.ct) (1) (64)) ?_
  rintro v h' ⟨rfl, rfl⟩ hcaps
  refine rH15qA0 ?_
  repeat' (first | (fail_if_success (with_reducible refine xstp ?_)); first | ((with_reducible refine And.intro (fun (hb : _ = true) => ?_) (fun (hb : _ = false) => ?_)) <;> replace hb := xnC hb <;> (try first | exact xfC | exact bff hb (by assumption) | exact bff (by assumption) hb)) | (with_reducible refine Both.mk ?_ ?_) | ((with_reducible refine And.intro ?_ ?_); focus exact xoC) | ((with_reducible refine Or.inl ⟨?_, ?_, ?_⟩); (focus rfl); focus exact xaC) | ((with_reducible refine xwB ?_ ?_); focus exact xaC) | ((with_reducible refine xwC ?_ ?_); focus exact xaC) | ((with_reducible refine xwD ?_ ?_); focus exact xaC) | ((with_reducible refine xwE ?_ ?_); focus exact xaC) | (with_reducible intro hc; (try simp only [capsP, and_true] at hc); (try exact xfC)) | ((fail_if_success (with_reducible first | refine xgon ?_ | intro _)); (conv => whnf); (fail_if_success (fail_if_success (with_reducible first | refine xstp ?_ | refine Both.mk ?_ ?_ | refine xgon ?_ | intro _)))))
  all_goals first
    | (refine FinK.mk ⟨[], _, _, ⟨rfl, rfl⟩, ?_⟩; (repeat' first | refine And.intro ?_ ?_ | exact xeC | fail)
       all_goals (first | exact decide_eq_true (by unfold okF; omega) | exact decide_eq_false (by unfold okF; omega) | exact (decide_eq_true (by unfold okF; omega)).symm | exact (decide_eq_false (by unfold okF; omega)).symm | exact decide_eq_decide.2 (by unfold okF; omega))
       done)
    | skip
  refine xcal (σ := []) (nl := []) (cwithin (f.ix) (0) (f.ct - 1)) ?_
  rintro v h' ⟨rfl, rfl⟩ hcaps
  refine rH15qA0 ?_
  repeat' (first | (fail_if_success (with_reducible refine xstp ?_)); first | ((with_reducible refine And.intro (fun (hb : _ = true) => ?_) (fun (hb : _ = false) => ?_)) <;> replace hb := xnC hb <;> (try first | exact xfC | exact bff hb (by assumption) | exact bff (by assumption) hb)) | (with_reducible refine Both.mk ?_ ?_) | ((with_reducible refine And.intro ?_ ?_); focus exact xoC) | ((with_reducible refine Or.inl ⟨?_, ?_, ?_⟩); (focus rfl); focus exact xaC) | ((with_reducible refine xwB ?_ ?_); focus exact xaC) | ((with_reducible refine xwC ?_ ?_); focus exact xaC) | ((with_reducible refine xwD ?_ ?_); focus exact xaC) | ((with_reducible refine xwE ?_ ?_); focus exact xaC) | (with_reducible intro hc; (try simp only [capsP, and_true] at hc); (try exact xfC)) | ((fail_if_success (with_reducible first | refine xgon ?_ | intro _)); (conv => whnf); (fail_if_success (fail_if_success (with_reducible first | refine xstp ?_ | refine Both.mk ?_ ?_ | refine xgon ?_ | intro _)))))
  all_goals first
    | (refine FinK.mk ⟨[], _, _, ⟨rfl, rfl⟩, ?_⟩; (repeat' first | refine And.intro ?_ ?_ | exact xeC | fail)
       all_goals (first | exact decide_eq_true (by unfold okF; omega) | exact decide_eq_false (by unfold okF; omega) | exact (decide_eq_true (by unfold okF; omega)).symm | exact (decide_eq_false (by unfold okF; omega)).symm | exact decide_eq_decide.2 (by unfold okF; omega))
       done)
    | skip

set_option maxRecDepth 10000 in
theorem cNewA (n : Int) :
    Ctr Try.prog 11 [.c (.i .i64 n)] [] fun v h => v = .c (.p 0 0 0) ∧ h = asmB (max 1 (min 256 n)) [] [] [] 0 0 := by
  refine Ctr.mk' tbv mixed Try.func11 rfl rfl rfl (fun _ _ => by kernel_rfl) (by kernel_rfl) (by rfl) (by rfl) (by (repeat' first | refine And.intro ?_ ?_ | exact xeC | fail)) ?_
  repeat' (first | (fail_if_success (with_reducible refine xstp ?_)); first | ((with_reducible refine And.intro (fun (hb : _ = true) => ?_) (fun (hb : _ = false) => ?_)) <;> replace hb := xnC hb <;> (try first | exact xfC | exact bff hb (by assumption) | exact bff (by assumption) hb)) | (with_reducible refine Both.mk ?_ ?_) | ((with_reducible refine And.intro ?_ ?_); focus exact xoC) | ((with_reducible refine Or.inl ⟨?_, ?_, ?_⟩); (focus rfl); focus exact xaC) | ((with_reducible refine xwB ?_ ?_); focus exact xaC) | ((with_reducible refine xwC ?_ ?_); focus exact xaC) | ((with_reducible refine xwD ?_ ?_); focus exact xaC) | ((with_reducible refine xwE ?_ ?_); focus exact xaC) | (with_reducible intro hc; (try simp only [capsP, and_true] at hc); (try exact xfC)) | ((fail_if_success (with_reducible first | refine xgon ?_ | intro _)); (conv => whnf); (fail_if_success (fail_if_success (with_reducible first | refine xstp ?_ | refine Both.mk ?_ ?_ | refine xgon ?_ | intro _)))))
  refine FinK.mk ⟨[0, 99, 98, 97, 96], _, _, ⟨rfl, rfl⟩, ?_⟩
  (repeat' first | refine And.intro ?_ ?_ | exact xeC | fail)
  all_goals first | exact fun _ => rfl | exact fun _ => trivial | (exact xmC)

set_option maxRecDepth 10000 in
theorem cOpenA (mo : Int) (J : List Nat) (L : List Tx) (dn : List (Int × Int)) (c cd : Nat) :
    Ctr Try.prog 15 [.c (.p 0 0 0)] [.one (asm mo 1 2 J.length L.length c dn.length cd), .one .no, .one .no] fun v h => v = .c (.i .i64 L.length) ∧ h = [.one (asm mo 1 2 J.length L.length c dn.length cd), .one .no, .one .no] := by
  refine Ctr.mk' tbv mixed Try.func15 rfl rfl rfl (fun _ _ => by kernel_rfl) (by kernel_rfl) (by rfl) (by rfl) (by (repeat' first | refine And.intro ?_ ?_ | exact xeC | fail)) ?_
  repeat' (first | (fail_if_success (with_reducible refine xstp ?_)); first | ((with_reducible refine And.intro (fun (hb : _ = true) => ?_) (fun (hb : _ = false) => ?_)) <;> replace hb := xnC hb <;> (try first | exact xfC | exact bff hb (by assumption) | exact bff (by assumption) hb)) | (with_reducible refine Both.mk ?_ ?_) | ((with_reducible refine And.intro ?_ ?_); focus exact xoC) | ((with_reducible refine Or.inl ⟨?_, ?_, ?_⟩); (focus rfl); focus exact xaC) | ((with_reducible refine xwB ?_ ?_); focus exact xaC) | ((with_reducible refine xwC ?_ ?_); focus exact xaC) | ((with_reducible refine xwD ?_ ?_); focus exact xaC) | ((with_reducible refine xwE ?_ ?_); focus exact xaC) | (with_reducible intro hc; (try simp only [capsP, and_true] at hc); (try exact xfC)) | ((fail_if_success (with_reducible first | refine xgon ?_ | intro _)); (conv => whnf); (fail_if_success (fail_if_success (with_reducible first | refine xstp ?_ | refine Both.mk ?_ ?_ | refine xgon ?_ | intro _)))))
  refine FinK.mk ⟨[0, 1, 2], _, _, ⟨rfl, rfl⟩, ?_⟩; (repeat' first | refine And.intro ?_ ?_ | exact xeC | fail)

set_option maxRecDepth 10000 in
theorem ccompleted (mo : Int) (n nn c : Nat) (dn : List (Int × Int)) (cd : Nat) (p : Int × Int) (hdn : dn.length ≤ 1000000) :
    Ctr Try.prog 37 [.c (.p 0 0 0), .a (encK p)] [.one (asm mo 1 2 n nn c dn.length cd), .one .no, .one (donR dn cd)] fun v h => v = .c (.b (decide (p ∈ dn))) ∧ h = [.one (asm mo 1 2 n nn c dn.length cd), .one .no, .one (donR dn cd)] := by
  refine Ctr.mk' tbv mixed Try.func37 rfl rfl rfl (fun _ _ => by kernel_rfl) (by kernel_rfl) (by rfl) (by rfl) (by (repeat' first | refine And.intro ?_ ?_ | exact xeC | fail)) ?_
  repeat' (first | (fail_if_success (with_reducible refine xstp ?_)); first | ((with_reducible refine And.intro (fun (hb : _ = true) => ?_) (fun (hb : _ = false) => ?_)) <;> replace hb := xnC hb <;> (try first | exact xfC | exact bff hb (by assumption) | exact bff (by assumption) hb)) | (with_reducible refine Both.mk ?_ ?_) | ((with_reducible refine And.intro ?_ ?_); focus exact xoC) | ((with_reducible refine Or.inl ⟨?_, ?_, ?_⟩); (focus rfl); focus exact xaC) | ((with_reducible refine xwB ?_ ?_); focus exact xaC) | ((with_reducible refine xwC ?_ ?_); focus exact xaC) | ((with_reducible refine xwD ?_ ?_); focus exact xaC) | ((with_reducible refine xwE ?_ ?_); focus exact xaC) | (with_reducible intro hc; (try simp only [capsP, and_true] at hc); (try exact xfC)) | ((fail_if_success (with_reducible first | refine xgon ?_ | intro _)); (conv => whnf); (fail_if_success (fail_if_success (with_reducible first | refine xstp ?_ | refine Both.mk ?_ ?_ | refine xgon ?_ | intro _)))))
  refine LoopK.mk' {i : Nat // i ≤ dn.length ∧ p ∉ dn.take i}
    (fun ⟨i, _⟩ => ⟨[(3, .c (.pe 3 0 1 0 0)), (10, .c (.sl 2 0 2 0 dn.length cd)), (11, .c (.i .i64 (dn.length : Nat))), (12, .c (.i .i64 (i : Nat)))], [.one (asm mo 1 2 n nn c dn.length cd), .one .no, .one (donR dn cd), .one (keyR p)]⟩) (fun k => dn.length - k.1)
    ⟨⟨0, Nat.zero_le _, by simp⟩, [0, 1, 2, 3], ?_⟩ ?_
  · (repeat' first | refine And.intro ?_ ?_ | exact xeC | fail)
  rintro ⟨i, hi, hno⟩
  repeat' (first | (fail_if_success (with_reducible refine xstp ?_)); first | ((with_reducible refine And.intro (fun (hb : _ = true) => ?_) (fun (hb : _ = false) => ?_)) <;> replace hb := xnC hb <;> (try first | exact xfC | exact bff hb (by assumption) | exact bff (by assumption) hb)) | (with_reducible refine Both.mk ?_ ?_) | ((with_reducible refine And.intro ?_ ?_); focus exact xoC) | ((with_reducible refine Or.inl ⟨?_, ?_, ?_⟩); (focus rfl); focus exact xaC) | ((with_reducible refine xwB ?_ ?_); focus exact xaC) | ((with_reducible refine xwC ?_ ?_); focus exact xaC) | ((with_reducible refine xwD ?_ ?_); focus exact xaC) | ((with_reducible refine xwE ?_ ?_); focus exact xaC) | (with_reducible intro hc; (try simp only [capsP, and_true] at hc); (try exact xfC)) | ((fail_if_success (with_reducible first | refine xgon ?_ | intro _)); (conv => whnf); (fail_if_success (fail_if_success (with_reducible first | refine xstp ?_ | refine Both.mk ?_ ?_ | refine xgon ?_ | intro _)))))
  · have e : dn.getD i default = p := Prod.ext hb.1 hb.2
    rw [show decide (p ∈ dn) = true from decide_eq_true (by rw [← e, getD_at (by omega)]; exact List.getElem_mem _)]
    refine FinK.mk ⟨[0, 1, 2], _, _, ⟨rfl, rfl⟩, ?_⟩; (repeat' first | refine And.intro ?_ ?_ | exact xeC | fail)
  · refine ⟨⟨i + 1, by omega, fun hm => ?_⟩, [0, 1, 2, 3], by simp only; omega, ?_⟩
    · rw [take_snocG dn (by omega), List.mem_append] at hm
      rcases hm with hm | hm
      · exact hno hm
      · rw [← List.mem_singleton.1 hm] at hb
        rcases hb with hb | hb <;> exact hb rfl
    · (repeat' first | refine And.intro ?_ ?_ | exact xeC | fail)
  · rw [List.take_of_length_le (by omega)] at hno
    rw [show decide (p ∈ dn) = false from decide_eq_false hno]
    refine FinK.mk ⟨[0, 1, 2], _, _, ⟨rfl, rfl⟩, ?_⟩; (repeat' first | refine And.intro ?_ ?_ | exact xeC | fail)

/-- Where a key is. -/
def fnd (L : List Tx) (p : Int × Int) : Option Nat := L.findIdx? fun t => decide (t.fr = p.1 ∧ t.i = p.2)
def resF (L : List Tx) (p : Int × Int) : T := match fnd L p with | none => .t [.c (.i .i64 (-1)), .c .nilp] | some k => .t [.c (.i .i64 (k : Nat)), .c (.p 3 (L.getD k default).id 0)]
theorem resF_some {L : List Tx} {p : Int × Int} {k : Nat} (h : fnd L p = some k) : resF L p = .t [.c (.i .i64 (k : Nat)), .c (.p 3 (L.getD k default).id 0)] := by unfold resF; rw [h]
theorem resF_none {L : List Tx} {p : Int × Int} (h : fnd L p = none) : resF L p = .t [.c (.i .i64 (-1)), .c .nilp] := by unfold resF; rw [h]

set_option maxRecDepth 10000 in
theorem cfind (mo : Int) (J : List Nat) (L : List Tx) (dn : List (Int × Int)) (c cd : Nat) (p : Int × Int) (hL : L.length ≤ 1000000) (hid : ∀ i, i < L.length → L.find? (fun t => t.id == (L.getD i default).id) = some (L.getD i default)) :
    Ctr Try.prog 36 [.c (.p 0 0 0), .a (encK p)] [.one (asm mo 1 2 J.length L.length c dn.length cd), .one (opnR 3 (J ++ idsOf L) (J.length + c)), .one .no, .many (txO 4 L), .one .no]
     fun v h => v = resF L p ∧ h = [.one (asm mo 1 2 J.length L.length c dn.length cd), .one (opnR 3 (J ++ idsOf L) (J.length + c)), .one .no, .many (txO 4 L), .one .no] := by
  refine Ctr.mk' tbv mixed Try.func36 rfl rfl rfl (fun _ _ => by kernel_rfl) (by kernel_rfl) (by rfl) (by rfl) (by (repeat' first | refine And.intro ?_ ?_ | exact xeC | fail) <;> (exact xmC)) ?_
  repeat' (first | (fail_if_success (with_reducible refine xstp ?_)); first | ((with_reducible refine And.intro (fun (hb : _ = true) => ?_) (fun (hb : _ = false) => ?_)) <;> replace hb := xnC hb <;> (try first | exact xfC | exact bff hb (by assumption) | exact bff (by assumption) hb)) | (with_reducible refine Both.mk ?_ ?_) | ((with_reducible refine And.intro ?_ ?_); focus exact xoC) | ((with_reducible refine Or.inl ⟨?_, ?_, ?_⟩); (focus rfl); focus exact xaC) | ((with_reducible refine xwB ?_ ?_); focus exact xaC) | ((with_reducible refine xwC ?_ ?_); focus exact xaC) | ((with_reducible refine xwD ?_ ?_); focus exact xaC) | ((with_reducible refine xwE ?_ ?_); focus exact xaC) | (with_reducible intro hc; (try simp only [capsP, and_true] at hc); (try exact xfC)) | ((fail_if_success (with_reducible first | refine xgon ?_ | intro _)); (conv => whnf); (fail_if_success (fail_if_success (with_reducible first | refine xstp ?_ | refine Both.mk ?_ ?_ | refine xgon ?_ | intro _)))))
  refine LoopK.mk' {i : Nat // i ≤ L.length ∧ ∀ j, j < i → ¬ ((L.getD j default).fr = p.1 ∧ (L.getD j default).i = p.2)}
    (fun ⟨i, _⟩ => ⟨[(3, .c (.pe 5 0 1 0 0)), (11, .c (.sl 1 0 1 J.length L.length c)), (12, .c (.i .i64 (L.length : Nat))), (13, .c (.i .i64 (i : Nat)))], [.one (asm mo 1 2 J.length L.length c dn.length cd), .one (opnR 3 (J ++ idsOf L) (J.length + c)), .one .no, .many (txO 4 L), .one .no, .one (keyR p)]⟩) (fun k => L.length - k.1)
    ⟨⟨0, Nat.zero_le _, by intro j h; omega⟩, [0, 1, 2, 3, 4, 5], ?_⟩ ?_
  · (repeat' first | refine And.intro ?_ ?_ | exact xeC | fail)
    all_goals (exact xmC)
  rintro ⟨i, hi, hno⟩
  have hJL : (J ++ idsOf L).length = J.length + L.length := by simp [idsOf]
  have hgx : i < L.length → (J ++ idsOf L).getD (J.length + (i : Int).toNat) default = (L.getD i default).id := by
    intro h
    simp [List.getD, List.getElem?_append_right, idsOf, List.getElem?_eq_getElem h]
  repeat' (first | (fail_if_success (with_reducible refine xstp ?_)); first | ((with_reducible refine And.intro (fun (hb : _ = true) => ?_) (fun (hb : _ = false) => ?_)) <;> replace hb := xnC hb <;> (try first | exact xfC | exact bff hb (by assumption) | exact bff (by assumption) hb)) | (with_reducible refine Both.mk ?_ ?_) | ((with_reducible refine And.intro ?_ ?_); focus exact xoC) | ((with_reducible refine Or.inl ⟨?_, ?_, ?_⟩); (focus rfl); focus exact xaC) | ((with_reducible refine xwB ?_ ?_); focus exact xaC) | ((with_reducible refine xwC ?_ ?_); focus exact xaC) | ((with_reducible refine xwD ?_ ?_); focus exact xaC) | ((with_reducible refine xwE ?_ ?_); focus exact xaC) | (with_reducible intro hc; (try simp only [capsP, and_true] at hc); (try exact xfC)) | ((fail_if_success (with_reducible first | refine xgon ?_ | intro _)); (conv => whnf); (fail_if_success (fail_if_success (with_reducible first | refine xstp ?_ | refine Both.mk ?_ ?_ | refine xgon ?_ | intro _)))))
  · rw [hgx (by omega)]
    have hx := hid i (by omega)
    refine ManyK.mk ⟨txD 4 (L.getD i default).id (L.getD i default), by unfold txO txG; rw [hx], ?_⟩
    repeat' (first | (fail_if_success (with_reducible refine xstp ?_)); first | ((with_reducible refine And.intro (fun (hb : _ = true) => ?_) (fun (hb : _ = false) => ?_)) <;> replace hb := xnC hb <;> (try first | exact xfC | exact bff hb (by assumption) | exact bff (by assumption) hb)) | (with_reducible refine Both.mk ?_ ?_) | ((with_reducible refine And.intro ?_ ?_); focus exact xoC) | ((with_reducible refine Or.inl ⟨?_, ?_, ?_⟩); (focus rfl); focus exact xaC) | ((with_reducible refine xwB ?_ ?_); focus exact xaC) | ((with_reducible refine xwC ?_ ?_); focus exact xaC) | ((with_reducible refine xwD ?_ ?_); focus exact xaC) | ((with_reducible refine xwE ?_ ?_); focus exact xaC) | (with_reducible intro hc; (try simp only [capsP, and_true] at hc); (try exact xfC)) | ((fail_if_success (with_reducible first | refine xgon ?_ | intro _)); (conv => whnf); (fail_if_success (fail_if_success (with_reducible first | refine xstp ?_ | refine Both.mk ?_ ?_ | refine xgon ?_ | intro _)))))
    · have hf : fnd L p = some i := by
        unfold fnd
        rw [List.findIdx?_eq_some_iff_getElem]
        refine ⟨by omega, ?_, fun j hj => ?_⟩
        · rw [← getD_at (by omega)]
          simp only [decide_eq_true_eq]
          exact hb
        · rw [← getD_at (by omega)]
          have := hno j hj
          simpa using this
      rw [resF_some hf]
      refine FinK.mk ⟨[0, 1, 2, 3, 4], _, _, ⟨rfl, rfl⟩, ?_⟩; (repeat' first | refine And.intro ?_ ?_ | exact xeC | fail)
      all_goals (exact xmC)
    · refine ⟨⟨i + 1, by omega, fun j hj => ?_⟩, [0, 1, 2, 3, 4, 5], by simp only; omega, ?_⟩
      · rcases (by omega : j < i ∨ j = i) with h | rfl
        · exact hno j h
        · rcases hb with hb | hb
          · exact fun h => hb h.1
          · exact fun h => hb h.2
      · (repeat' first | refine And.intro ?_ ?_ | exact xeC | fail)
        all_goals (exact xmC)
  · have hf : fnd L p = none := by
      unfold fnd
      rw [List.findIdx?_eq_none_iff_findIdx_eq]
      apply List.findIdx_eq_length.2
      intro t ht
      obtain ⟨j, hj, rfl⟩ := List.mem_iff_getElem.1 ht
      exact decide_eq_false (by rw [← getD_at hj]; exact hno j (by omega))
    rw [resF_none hf]
    refine FinK.mk ⟨[0, 1, 2, 3, 4], _, _, ⟨rfl, rfl⟩, ?_⟩; (repeat' first | refine And.intro ?_ ?_ | exact xeC | fail)
    all_goals (exact xmC)
end Go.Proofs.Ytgaodeffbgppmaa


namespace Go.Proofs.Ytgaodeffbgppmaa
open Go.X
set_option linter.unusedSimpArgs false
set_option linter.unusedVariables false
def cntD (dn : List (Int × Int)) (f : Int) : Nat := dn.countP fun q => decide (q.1 = f)
/-- What is remembered: the first of the sender's goes if there are 64. -/
def remD (dn : List (Int × Int)) (p : Int × Int) : List (Int × Int) := (if 64 ≤ cntD dn p.1 then dn.eraseP fun q => decide (q.1 = p.1) else dn) ++ [p]
theorem cntD_snoc (dn : List (Int × Int)) (f : Int) {i : Nat} (h : i < dn.length) : cntD (dn.take (i + 1)) f = cntD (dn.take i) f + (if (dn.getD i default).1 = f then 1 else 0) := by
  unfold cntD
  rw [take_snocG dn h, List.countP_append]
  simp [List.countP_cons]
theorem cntD_le (dn : List (Int × Int)) (f : Int) : cntD dn f ≤ dn.length := List.countP_le_length

theorem eraseP_at {dn : List (Int × Int)} {f : Int} {i : Nat} (hi : i < dn.length) (h1 : (dn.getD i default).1 = f) (h2 : ∀ j, j < i → (dn.getD j default).1 ≠ f) : dn.eraseP (fun q => decide (q.1 = f)) = dn.take i ++ dn.drop (i + 1) := by
  have e : dn = dn.take i ++ (dn.getD i default :: dn.drop (i + 1)) := by rw [← drop_consG dn hi, List.take_append_drop]
  have hn : ∀ b ∈ dn.take i, ¬ (decide (b.1 = f)) = true := by
    intro b hb
    obtain ⟨j, hj, rfl⟩ := List.mem_iff_getElem.1 hb
    rw [List.length_take] at hj
    have := h2 j (by omega)
    rw [getD_at (by omega)] at this
    simpa using this
  conv => lhs; rw [e]
  rw [List.eraseP_append_right _ hn, List.eraseP_cons_of_pos (by simpa using h1)]

theorem cut_row {α : Type} [Inhabited α] (enc : α → List C) (l : List α) (k : Nat) (hk : k < l.length) (i : Nat) (hi : i < k + (l.length - (k + 1))) :
    appF k (rowOf enc l) (k + 1) (rowOf enc l) i = rowOf enc (l.take k ++ l.drop (k + 1)) i := by
  unfold appF rowOf
  by_cases h : i < k
  · rw [if_pos h]
    simp only [List.getD]
    rw [List.getElem?_append_left (by rw [List.length_take]; omega), List.getElem?_take_of_lt h]
  · rw [if_neg h]
    simp only [List.getD]
    rw [List.getElem?_append_right (by rw [List.length_take]; omega), List.getElem?_drop, List.length_take, Nat.min_eq_left (by omega)]
theorem remD_at {dn : List (Int × Int)} {p : Int × Int} {j : Nat} (hj : j < dn.length) (h : 64 ≤ cntD dn p.1) (h1 : (dn.getD j default).1 = p.1) (h2 : ∀ q, q < j → ¬ (64 ≤ cntD dn p.1 ∧ (dn.getD q default).1 = p.1)) : remD dn p = (dn.take j ++ dn.drop (j + 1)) ++ [p] := by
  unfold remD
  rw [if_pos h, eraseP_at hj h1 (fun q hq e => h2 q hq ⟨h, e⟩)]
theorem remD_no {dn : List (Int × Int)} {p : Int × Int} (h2 : ∀ q, q < dn.length → ¬ (64 ≤ cntD dn p.1 ∧ (dn.getD q default).1 = p.1)) : remD dn p = dn ++ [p] := by
  unfold remD
  by_cases h : 64 ≤ cntD dn p.1
  · exfalso
    have hp : 0 < cntD dn p.1 := by omega
    unfold cntD at hp
    obtain ⟨q, hq, he⟩ := List.countP_pos_iff.1 hp
    obtain ⟨j, hj, rfl⟩ := List.mem_iff_getElem.1 hq
    refine h2 j hj ⟨h, ?_⟩
    rw [getD_at hj]
    simpa using he
  · rw [if_neg h]

set_option maxRecDepth 10000 in
set_option maxHeartbeats 1000000 in
theorem cremember (mo : Int) (n nn c : Nat) (dn : List (Int × Int)) (cd : Nat) (p : Int × Int) (hdn : dn.length ≤ 1000000) :
    Ctr Try.prog 38 [.c (.p 0 0 0), .a (encK p)] [.one (asm mo 1 2 n nn c dn.length cd), .one .no, .one (donR dn cd)]
      fun v h => ∃ c', v = .t [] ∧ h = [.one (asm mo 1 3 n nn c (remD dn p).length c'), .one .no, .one .no, .one (donR (remD dn p) c')] := by
  refine Ctr.mk' tbv mixed Try.func38 rfl rfl rfl (fun _ _ => by kernel_rfl) (by kernel_rfl) (by rfl) (by rfl) (by (repeat' first | refine And.intro ?_ ?_ | exact xeC | fail)) ?_
  repeat' (first | (fail_if_success (with_reducible refine xstp ?_)); first | ((with_reducible refine And.intro (fun (hb : _ = true) => ?_) (fun (hb : _ = false) => ?_)) <;> replace hb := xnC hb <;> (try first | exact xfC | exact bff hb (by assumption) | exact bff (by assumption) hb)) | (with_reducible refine Both.mk ?_ ?_) | ((with_reducible refine And.intro ?_ ?_); focus exact xoC) | ((with_reducible refine Or.inl ⟨?_, ?_, ?_⟩); (focus rfl); focus exact xaC) | ((with_reducible refine xwB ?_ ?_); focus exact xaC) | ((with_reducible refine xwC ?_ ?_); focus exact xaC) | ((with_reducible refine xwD ?_ ?_); focus exact xaC) | ((with_reducible refine xwE ?_ ?_); focus exact xaC) | (with_reducible intro hc; (try simp only [capsP, and_true] at hc); (try exact xfC)) | ((fail_if_success (with_reducible first | refine xgon ?_ | intro _)); (conv => whnf); (fail_if_success (fail_if_success (with_reducible first | refine xstp ?_ | refine Both.mk ?_ ?_ | refine xgon ?_ | intro _)))))
  refine LoopK.mk' {i : Nat // i ≤ dn.length}
    (fun ⟨i, _⟩ => ⟨[(0, .c (.p 0 0 0)), (3, .c (.pe 3 0 1 0 0)), (4, .c (.i .i64 (cntD (dn.take i) p.1 : Nat))), (12, .c (.sl 2 0 2 0 dn.length cd)), (13, .c (.i .i64 (dn.length : Nat))), (14, .c (.i .i64 (i : Nat)))], [.one (asm mo 1 2 n nn c dn.length cd), .one .no, .one (donR dn cd), .one (keyR p)]⟩) (fun k => dn.length - k.1)
    ⟨⟨0, Nat.zero_le _⟩, [0, 1, 2, 3], ?_⟩ ?_
  · (repeat' first | refine And.intro ?_ ?_ | exact xeC | fail)
  rintro ⟨i, hi⟩
  have hc1 := cntD_le (dn.take i) p.1
  rw [List.length_take] at hc1
  repeat' (first | (fail_if_success (with_reducible refine xstp ?_)); first | ((with_reducible refine And.intro (fun (hb : _ = true) => ?_) (fun (hb : _ = false) => ?_)) <;> replace hb := xnC hb <;> (try first | exact xfC | exact bff hb (by assumption) | exact bff (by assumption) hb)) | (with_reducible refine Both.mk ?_ ?_) | ((with_reducible refine And.intro ?_ ?_); focus exact xoC) | ((with_reducible refine Or.inl ⟨?_, ?_, ?_⟩); (focus rfl); focus exact xaC) | ((with_reducible refine xwB ?_ ?_); focus exact xaC) | ((with_reducible refine xwC ?_ ?_); focus exact xaC) | ((with_reducible refine xwD ?_ ?_); focus exact xaC) | ((with_reducible refine xwE ?_ ?_); focus exact xaC) | (with_reducible intro hc; (try simp only [capsP, and_true] at hc); (try exact xfC)) | ((fail_if_success (with_reducible first | refine xgon ?_ | intro _)); (conv => whnf); (fail_if_success (fail_if_success (with_reducible first | refine xstp ?_ | refine Both.mk ?_ ?_ | refine xgon ?_ | intro _)))))
  · refine ⟨⟨i + 1, by omega⟩, [0, 1, 2, 3], by simp only; omega, ?_⟩
    have := cntD_snoc dn p.1 (i := i) (by omega)
    rw [if_pos hb] at this
    (repeat' first | refine And.intro ?_ ?_ | exact xeC | fail)
    omega
  · refine ⟨⟨i + 1, by omega⟩, [0, 1, 2, 3], by simp only; omega, ?_⟩
    have := cntD_snoc dn p.1 (i := i) (by omega)
    rw [if_neg hb] at this
    (repeat' first | refine And.intro ?_ ?_ | exact xeC | fail)
    omega
  refine LoopK.mk' {j : Nat // j ≤ dn.length ∧ ∀ q, q < j → ¬ (64 ≤ cntD dn p.1 ∧ (dn.getD q default).1 = p.1)}
    (fun ⟨j, _⟩ => ⟨[(0, .c (.p 0 0 0)), (3, .c (.pe 3 0 1 0 0)), (4, .c (.i .i64 (cntD dn p.1 : Nat))), (29, .c (.sl 2 0 2 0 dn.length cd)), (30, .c (.i .i64 (dn.length : Nat))), (31, .c (.i .i64 (j : Nat)))], [.one (asm mo 1 2 n nn c dn.length cd), .one .no, .one (donR dn cd), .one (keyR p)]⟩) (fun k => dn.length - k.1)
    ⟨⟨0, Nat.zero_le _, by intro q h; omega⟩, [0, 1, 2, 3], ?_⟩ ?_
  · (repeat' first | refine And.intro ?_ ?_ | exact xeC | fail)
    rw [List.take_of_length_le (by omega)]
  rintro ⟨j, hj, hno⟩
  repeat' (first | (fail_if_success (with_reducible refine xstp ?_)); first | ((with_reducible refine And.intro (fun (hb : _ = true) => ?_) (fun (hb : _ = false) => ?_)) <;> replace hb := xnC hb <;> (try first | exact xfC | exact bff hb (by assumption) | exact bff (by assumption) hb)) | (with_reducible refine Both.mk ?_ ?_) | ((with_reducible refine And.intro ?_ ?_); focus exact xoC) | ((with_reducible refine Or.inl ⟨?_, ?_, ?_⟩); (focus rfl); focus exact xaC) | ((with_reducible refine xwB ?_ ?_); focus exact xaC) | ((with_reducible refine xwC ?_ ?_); focus exact xaC) | ((with_reducible refine xwD ?_ ?_); focus exact xaC) | ((with_reducible refine xwE ?_ ?_); focus exact xaC) | (with_reducible intro hc; (try simp only [capsP, and_true] at hc); (try exact xfC)) | ((fail_if_success (with_reducible first | refine xgon ?_ | intro _)); (conv => whnf); (fail_if_success (fail_if_success (with_reducible first | refine xstp ?_ | refine Both.mk ?_ ?_ | refine xgon ?_ | intro _)))))
  · rename_i c2
    have hjl : j < dn.length := by omega
    have hr := remD_at (p := p) hjl (by omega) hb hno
    have hlen : (remD dn p).length = j + (dn.length - (j + 1)) + 1 := by
      rw [hr]; simp only [List.length_append, List.length_take, List.length_drop, List.length_singleton]; omega
    refine FinK.mk ⟨[0, 1, 2, 7], _, _, ⟨c2, rfl, rfl⟩, ?_⟩
    (repeat' first | refine And.intro ?_ ?_ | exact xeC | fail)
    · simp only [Int.toNat_natCast]; omega
    · simp only [Int.toNat_natCast]; omega
    · intro i hi
      have e1 : ((j : Int) + 1).toNat = j + 1 := by omega
      rw [hlen] at hi
      simp only [Int.toNat_natCast, e1]
      have hm : (dn.take j ++ dn.drop (j + 1)).length = j + (dn.length - (j + 1)) := by
        simp only [List.length_append, List.length_take, List.length_drop]; omega
      have := app_rowG encK (dn.take j ++ dn.drop (j + 1)) p (chunkOf 2 (encK p)) rfl i (by rw [List.length_append, hm]; simpa using hi)
      rw [hr, ← this, hm]
      unfold appF
      by_cases hlt : i < j + (dn.length - (j + 1))
      · rw [if_pos hlt, if_pos hlt]
        have hcr := cut_row encK dn j hjl i hlt
        unfold appF at hcr
        by_cases h0 : i < j
        · rw [if_pos h0] at hcr ⊢; exact hcr
        · rw [if_neg h0] at hcr ⊢
          rw [← hcr]
          split
          · exfalso; omega
          · congr 1; omega
      · rw [if_neg hlt, if_neg hlt]
        rfl
  · refine ⟨⟨j + 1, by omega, fun q hq => ?_⟩, [0, 1, 2, 3], by simp only; omega, ?_⟩
    · rcases (by omega : q < j ∨ q = j) with h | rfl
      · exact hno q h
      · exact fun h => hb h.2
    · (repeat' first | refine And.intro ?_ ?_ | exact xeC | fail)
  · refine ⟨⟨j + 1, by omega, fun q hq => ?_⟩, [0, 1, 2, 3], by simp only; omega, ?_⟩
    · rcases (by omega : q < j ∨ q = j) with h | rfl
      · exact hno q h
      · exact fun h => by have := h.1; omega
    · (repeat' first | refine And.intro ?_ ?_ | exact xeC | fail)
  · rename_i c2
    have hr := remD_no (p := p) (fun q hq => hno q (by omega))
    have hlen : (remD dn p).length = dn.length + 1 := by rw [hr]; simp
    refine FinK.mk ⟨[0, 1, 2, 5], _, _, ⟨c2, rfl, rfl⟩, ?_⟩
    (repeat' first | refine And.intro ?_ ?_ | exact xeC | fail)
    · omega
    · omega
    · intro i hi
      rw [hlen] at hi
      rw [hr]
      exact app_rowG encK dn p _ rfl i (by simpa using hi)
end Go.Proofs.Ytgaodeffbgppmaa


namespace Go.Proofs.Ytgaodeffbgppmaa
open Go.X
set_option linter.unusedSimpArgs false
set_option linter.unusedVariables false
def pget (M : List (Nat × Int × List UInt8)) (ix : Int) : Option (List UInt8) := (M.find? fun e => e.2.1 == ix).map fun e => e.2.2
def outS (ct : Int) (M : List (Nat × Int × List UInt8)) (n : Nat) : List UInt8 := (List.range n).flatMap fun i => (pget M (i : Nat)).getD []
def insT (t : Tx) (f : Fg) : Tx := ⟨t.id, t.fr, t.i, t.ct, t.M ++ [(t.ck, f.ix, f.d)], t.ck + 1⟩
def newT (N : Nat) (fr : Int) (f : Fg) : Tx := ⟨N, fr, f.id, f.ct, [(0, f.ix, f.d)], 1⟩
abbrev AR := List Tx × List (Int × Int) × List UInt8 × Bool × Nat
def cutL (L : List Tx) (k : Nat) : List Tx := L.take k ++ L.drop (k + 1)
def addA (mo : Int) (N : Nat) (L : List Tx) (dn : List (Int × Int)) (fr : Int) (f : Fg) : AR :=
  if ¬ ((0 ≤ fr ∧ fr ≤ 7) ∧ okF f) then (L, dn, [], false, 4)
  else match fnd L (fr, f.id) with
  | some k =>
    if (L.getD k default).ct ≠ f.ct then (L, dn, [], false, 2)
    else match pget (L.getD k default).M f.ix with
    | some d => if d ≠ f.d then (L, dn, [], false, 2) else (L, dn, [], false, 0)
    | none =>
      if ((L.getD k default).M.length : Int) + 1 < f.ct then (L.set k (insT (L.getD k default) f), dn, [], false, 0)
      else (cutL L k, remD dn (fr, f.id), outS f.ct (insT (L.getD k default) f).M f.ct.toNat, true, 0)
  | none =>
    if (fr, f.id) ∈ dn then (L, dn, [], false, 0)
    else if 1 < f.ct then ((if mo < L.length + 1 then L.drop 1 else L) ++ [newT N fr f], dn, [], false, 0)
    else (L, remD dn (fr, f.id), f.d, true, 0)
theorem addA_some {mo : Int} {N : Nat} {L : List Tx} {dn : List (Int × Int)} {fr : Int} {f : Fg} {k : Nat} (h : (0 ≤ fr ∧ fr ≤ 7) ∧ okF f) (hf : fnd L (fr, f.id) = some k) : addA mo N L dn fr f =
    if (L.getD k default).ct ≠ f.ct then (L, dn, [], false, 2)
    else match pget (L.getD k default).M f.ix with
    | some d => if d ≠ f.d then (L, dn, [], false, 2) else (L, dn, [], false, 0)
    | none =>
      if ((L.getD k default).M.length : Int) + 1 < f.ct then (L.set k (insT (L.getD k default) f), dn, [], false, 0)
      else (cutL L k, remD dn (fr, f.id), outS f.ct (insT (L.getD k default) f).M f.ct.toNat, true, 0) := by
  unfold addA
  rw [if_neg (fun h' => h' h), hf]
theorem addA_none {mo : Int} {N : Nat} {L : List Tx} {dn : List (Int × Int)} {fr : Int} {f : Fg} (h : (0 ≤ fr ∧ fr ≤ 7) ∧ okF f) (hf : fnd L (fr, f.id) = none) : addA mo N L dn fr f =
    if (fr, f.id) ∈ dn then (L, dn, [], false, 0)
    else if 1 < f.ct then ((if mo < L.length + 1 then L.drop 1 else L) ++ [newT N fr f], dn, [], false, 0)
    else (L, remD dn (fr, f.id), f.d, true, 0) := by
  unfold addA
  rw [if_neg (fun h' => h' h), hf]
theorem fnd_lt {L : List Tx} {p : Int × Int} {k : Nat} (h : fnd L p = some k) : k < L.length := by
  unfold fnd at h
  rw [List.findIdx?_eq_some_iff_getElem] at h
  exact h.1
theorem pget_at {M : List (Nat × Int × List UInt8)} {ix : Int} {i : Nat} (hd : ∀ a b, a < b → b < M.length → (M.getD a default).2.1 ≠ (M.getD b default).2.1) (hi : i < M.length) (hk : (M.getD i default).2.1 = ix) : pget M ix = some (M.getD i default).2.2 := by
  unfold pget
  have h : M.find? (fun e => e.2.1 == ix) = some (M.getD i default) := by
    rw [List.find?_eq_some_iff_getElem]
    refine ⟨by simpa using hk, i, hi, (getD_at hi).symm, fun j hj => ?_⟩
    have := hd j i hj hi
    rw [getD_at (by omega), hk] at this
    simpa using this
  rw [h]
  rfl
theorem pget_no {M : List (Nat × Int × List UInt8)} {ix : Int} (h : ∀ i, i < M.length → (M.getD i default).2.1 ≠ ix) : pget M ix = none := by
  unfold pget
  rw [List.find?_eq_none.2 ?_]
  · rfl
  · intro e he
    obtain ⟨i, hi, rfl⟩ := List.mem_iff_getElem.1 he
    have := h i hi
    rw [getD_at hi] at this
    simpa using this
theorem find_nd : ∀ {L : List Tx}, (idsOf L).Nodup → ∀ i, i < L.length → L.find? (fun t => t.id == (L.getD i default).id) = some (L.getD i default)
  | [], _, i, h => by simp at h
  | a :: l, hn, 0, _ => by simp [List.getD]
  | a :: l, hn, i + 1, h => by
    have hn' := List.nodup_cons.1 hn
    have hi : i < l.length := by simpa using h
    have e : (a :: l).getD (i + 1) default = l.getD i default := rfl
    rw [e, List.find?_cons, find_nd hn'.2 i hi]
    have : (a.id == (l.getD i default).id) = false := by
      rw [beq_eq_false_iff_ne]
      intro e
      apply hn'.1
      rw [e, getD_at hi]
      exact List.mem_map.2 ⟨_, List.getElem_mem _, rfl⟩
    rw [this]
theorem find_set : ∀ {L : List Tx} {k : Nat} {t : Tx}, (idsOf L).Nodup → k < L.length → t.id = (L.getD k default).id → ∀ x, (L.set k t).find? (fun t => t.id == x) = if x = t.id then some t else L.find? (fun t => t.id == x)
  | [], k, t, _, h, _, _ => by simp at h
  | a :: l, 0, t, hn, _, ht, x => by
    have ht : t.id = a.id := ht
    rw [List.set_cons_zero, List.find?_cons, List.find?_cons, ← ht]
    by_cases hx : x = t.id
    · subst hx; simp
    · have : (t.id == x) = false := by rw [beq_eq_false_iff_ne]; exact fun e => hx e.symm
      rw [this, if_neg hx]
  | a :: l, k + 1, t, hn, h, ht, x => by
    have hn' := List.nodup_cons.1 hn
    have hk : k < l.length := by simpa using h
    have ht : t.id = (l.getD k default).id := ht
    rw [List.set_cons_succ, List.find?_cons, List.find?_cons, find_set hn'.2 hk ht x]
    by_cases hx : a.id == x
    · rw [hx]
      have : x ≠ t.id := by
        intro e
        apply hn'.1
        rw [show a.id = t.id from (by simpa using hx : a.id = x).trans e, ht, getD_at hk]
        exact List.mem_map.2 ⟨_, List.getElem_mem _, rfl⟩
      simp only [if_neg this]
    · rw [Bool.not_eq_true] at hx
      rw [hx]
theorem find_cut : ∀ {L : List Tx} {k : Nat}, (idsOf L).Nodup → k < L.length → ∀ x, (L.take k ++ L.drop (k + 1)).find? (fun t => t.id == x) = if x = (L.getD k default).id then none else L.find? (fun t => t.id == x)
  | [], k, _, h, _ => by simp at h
  | a :: l, 0, hn, _, x => by
    have hn' := List.nodup_cons.1 hn
    show l.find? _ = if x = a.id then none else (a :: l).find? _
    rw [List.find?_cons]
    by_cases hx : x = a.id
    · subst hx
      rw [if_pos rfl, List.find?_eq_none]
      intro t ht e
      apply hn'.1
      rw [← (by simpa using e : t.id = a.id)]
      exact List.mem_map.2 ⟨_, ht, rfl⟩
    · rw [if_neg hx, show (a.id == x) = false by rw [beq_eq_false_iff_ne]; exact fun e => hx e.symm]
  | a :: l, k + 1, hn, h, x => by
    have hn' := List.nodup_cons.1 hn
    have hk : k < l.length := by simpa using h
    show (a :: (l.take k ++ l.drop (k + 1))).find? _ = if x = (l.getD k default).id then none else (a :: l).find? _
    rw [List.find?_cons, List.find?_cons, find_cut hn'.2 hk x]
    by_cases hx : a.id == x
    · rw [hx]
      have : x ≠ (l.getD k default).id := by
        intro e
        apply hn'.1
        rw [show a.id = _ from (by simpa using hx : a.id = x).trans e, getD_at hk]
        exact List.mem_map.2 ⟨_, List.getElem_mem _, rfl⟩
      simp only [if_neg this]
    · rw [Bool.not_eq_true] at hx
      rw [hx]
theorem txG_set {fm y : Nat} {L : List Tx} {k : Nat} {f : Fg} (hn : (idsOf L).Nodup) (hk : k < L.length) (x : Nat) : txG fm y (L.set k (insT (L.getD k default) f)) x = txG fm y L x := by
  unfold txG
  rw [find_set (t := insT (L.getD k default) f) hn hk rfl x]
  by_cases hx : x = (insT (L.getD k default) f).id
  · rw [if_pos hx, hx, show (insT (L.getD k default) f).id = (L.getD k default).id from rfl, find_nd hn k hk]
    rfl
  · rw [if_neg hx]
theorem paO_set {L : List Tx} {k : Nat} {f : Fg} (hn : (idsOf L).Nodup) (hk : k < L.length) (x : Nat) : paO (L.set k (insT (L.getD k default) f)) x = if x = (L.getD k default).id then paC (insT (L.getD k default) f) else paO L x := by
  unfold paO
  rw [find_set (t := insT (L.getD k default) f) hn hk rfl x]
  by_cases hx : x = (insT (L.getD k default) f).id
  · rw [if_pos hx, if_pos (show x = (L.getD k default).id from hx)]
  · rw [if_neg hx, if_neg (show ¬ x = (L.getD k default).id from hx)]
theorem txG_cut {fm y : Nat} {L : List Tx} {k : Nat} (hn : (idsOf L).Nodup) (hk : k < L.length) (x : Nat) : txG fm y (L.take k ++ L.drop (k + 1)) x = if x = (L.getD k default).id then .no else txG fm y L x := by
  unfold txG
  rw [find_cut hn hk x]
  by_cases hx : x = (L.getD k default).id
  · rw [if_pos hx, if_pos hx]
  · rw [if_neg hx, if_neg hx]
theorem paO_cut {L : List Tx} {k : Nat} (hn : (idsOf L).Nodup) (hk : k < L.length) (x : Nat) : paO (L.take k ++ L.drop (k + 1)) x = if x = (L.getD k default).id then .no else paO L x := by
  unfold paO
  rw [find_cut hn hk x]
  by_cases hx : x = (L.getD k default).id
  · rw [if_pos hx, if_pos hx]
  · rw [if_neg hx, if_neg hx]
theorem idsOf_set {L : List Tx} {k : Nat} {f : Fg} (hk : k < L.length) : idsOf (L.set k (insT (L.getD k default) f)) = idsOf L := by
  unfold idsOf
  rw [List.map_set]
  apply List.ext_getElem?
  intro i
  rw [List.getElem?_set]
  split
  · rename_i h
    subst h
    simp [insT, List.getD, hk]
  · rfl
theorem map_le {N N' : Nat} {σ : List Sg} {t : Tx} (f : Fg) :
    (Ck.map true false (t.ck + 1) (t.M.length + 1) (fun j => if j = t.M.length then (t.ck, Key.i f.ix, E.c (.s (mkS f.d))) else ((t.M.getD j default).1, .i (t.M.getD j default).2.1, .c (.s (mkS (t.M.getD j default).2.2))))).leK N ((paC (insT t f)).rk σ N') True := by
  refine ⟨rfl, rfl, rfl, ?_, ?_, trivial⟩
  · simp [insT]
  · intro i hi
    by_cases h : i = t.M.length
    · subst h
      simp [insT, List.getD]
    · have : i < t.M.length := by simp [insT] at hi; omega
      simp [insT, List.getD, h, List.getElem?_append_left this]
theorem le_tx_set {σ : List Sg} {N N' x : Nat} {L : List Tx} {k : Nat} {f : Fg} (h : key σ N' 8 x = (4, x)) (hn : (idsOf L).Nodup) (hk : k < L.length) : (txG 4 x L x).leK N ((txG 8 x (L.set k (insT (L.getD k default) f)) x).rk σ N') True := by
  rw [txG_set hn hk]
  exact mtO_le h
theorem le_pa_set {σ : List Sg} {N N' x : Nat} {L : List Tx} {k : Nat} {f : Fg} (hn : (idsOf L).Nodup) (hk : k < L.length) :
    (if x = (L.getD k default).id then Ck.map true false ((L.getD k default).ck + 1) ((L.getD k default).M.length + 1) (fun j => if j = (L.getD k default).M.length then ((L.getD k default).ck, Key.i f.ix, E.c (.s (mkS f.d))) else (((L.getD k default).M.getD j default).1, .i ((L.getD k default).M.getD j default).2.1, .c (.s (mkS ((L.getD k default).M.getD j default).2.2))))
     else paO L x).leK N ((paO (L.set k (insT (L.getD k default) f)) x).rk σ N') True := by
  rw [paO_set hn hk]
  by_cases hx : x = (L.getD k default).id
  · rw [if_pos hx, if_pos hx]
    exact map_le f
  · rw [if_neg hx, if_neg hx]
    exact winO_le
theorem outS_succ (ct : Int) (M : List (Nat × Int × List UInt8)) (n : Nat) : outS ct M (n + 1) = outS ct M n ++ (pget M (n : Nat)).getD [] := by
  unfold outS
  rw [List.range_succ, List.flatMap_append]
  simp
theorem pget_le {M : List (Nat × Int × List UInt8)} (h : ∀ e ∈ M, e.2.2.length ≤ 4000) (ix : Int) : ((pget M ix).getD []).length ≤ 4000 := by
  unfold pget
  cases hf : M.find? fun e => e.2.1 == ix with
  | none => simp
  | some e => simpa using h e (List.mem_of_find?_eq_some hf)
theorem outS_le (ct : Int) {M : List (Nat × Int × List UInt8)} (h : ∀ e ∈ M, e.2.2.length ≤ 4000) : ∀ n, (outS ct M n).length ≤ 4000 * n
  | 0 => by simp [outS]
  | n + 1 => by
    rw [outS_succ, List.length_append]
    have := outS_le ct h n
    have := pget_le h (n : Nat)
    omega
theorem key_snoc {M : List (Nat × Int × List UInt8)} {s : Nat} {ix : Int} {d : List UInt8} (h : ∀ i j, i < j → j < M.length → (M.getD i default).2.1 ≠ (M.getD j default).2.1) (hno : ∀ i, i < M.length → (M.getD i default).2.1 ≠ ix) :
    ∀ i j, i < j → j < (M ++ [(s, ix, d)]).length → ((M ++ [(s, ix, d)]).getD i default).2.1 ≠ ((M ++ [(s, ix, d)]).getD j default).2.1 := by
  intro i j hij hj
  rw [List.length_append, List.length_singleton] at hj
  have hi : (M ++ [(s, ix, d)]).getD i default = M.getD i default := by simp [List.getD, List.getElem?_append_left (show i < M.length by omega)]
  rw [hi]
  by_cases h2 : j < M.length
  · rw [show (M ++ [(s, ix, d)]).getD j default = M.getD j default by simp [List.getD, List.getElem?_append_left h2]]
    exact h i j hij h2
  · obtain rfl : j = M.length := by omega
    rw [show (M ++ [(s, ix, d)]).getD M.length default = (s, ix, d) by simp [List.getD]]
    exact hno i hij
theorem cutL_len {L : List Tx} {k : Nat} (h : k < L.length) : (cutL L k).length = k + (L.length - (k + 1)) := by
  unfold cutL; simp only [List.length_append, List.length_take, List.length_drop]; omega
theorem ids_cut {L : List Tx} {k : Nat} : idsOf (cutL L k) = (idsOf L).take k ++ (idsOf L).drop (k + 1) := by
  unfold idsOf cutL; rw [List.map_append, List.map_take, List.map_drop]
theorem le_tx_cut {σ : List Sg} {N N' x : Nat} {L : List Tx} {k : Nat} (h : key σ N' 8 x = (4, x)) (hn : (idsOf L).Nodup) (hk : k < L.length) : (txG 4 x L x).leK N ((txG 8 x (cutL L k) x).rk σ N') True := by
  unfold cutL
  rw [txG_cut hn hk]
  by_cases hx : x = (L.getD k default).id
  · rw [if_pos hx]
    unfold txG
    split <;> trivial
  · rw [if_neg hx]
    exact mtO_le h
theorem le_pa_cut {σ : List Sg} {N N' x : Nat} {L : List Tx} {k : Nat} {f : Fg} (hn : (idsOf L).Nodup) (hk : k < L.length) : (paO (L.set k (insT (L.getD k default) f)) x).leK N ((paO (cutL L k) x).rk σ N') True := by
  unfold cutL
  rw [paO_cut hn hk, paO_set hn hk]
  by_cases hx : x = (L.getD k default).id
  · rw [if_pos hx, if_pos hx]
    trivial
  · rw [if_neg hx, if_neg hx]
    exact winO_le
theorem cut_ids {J ids : List Nat} {k c : Nat} {F : Nat} (hk : k < ids.length) (hc : ids.length ≤ c) (i : Nat) (hi : i < k + (ids.length - (k + 1))) :
    appF k (fun i => [C.p F ((J ++ ids).getD (J.length + i) default) 0]) (if c = k + 1 then J.length else J.length + (k + 1)) (fun i => [C.p F ((J ++ ids).getD i default) 0]) i = rowOf (encId F) (ids.take k ++ ids.drop (k + 1)) i := by
  rw [← cut_row (encId F) ids k hk i hi]
  unfold appF rowOf encId
  have e : ∀ q, (J ++ ids).getD (J.length + q) default = ids.getD q default := by
    intro q
    simp [List.getD, List.getElem?_append_right]
  by_cases h : i < k
  · rw [if_pos h, if_pos h]
    simp only [e]
  · rw [if_neg h, if_neg h]
    split
    · exfalso; omega
    · rw [show J.length + (k + 1) + (i - k) = J.length + ((k + 1) + (i - k)) by omega]
      simp only [e]
theorem txG_ne {fm y : Nat} {M : List Tx} {t : Tx} {x : Nat} (h : x ≠ t.id) : txG fm y (M ++ [t]) x = txG fm y M x := by
  unfold txG
  rw [List.find?_append, List.find?_cons, show (t.id == x) = false by rw [beq_eq_false_iff_ne]; exact fun e => h e.symm]
  simp
theorem paO_ne {M : List Tx} {t : Tx} {x : Nat} (h : x ≠ t.id) : paO (M ++ [t]) x = paO M x := by
  unfold paO
  rw [List.find?_append, List.find?_cons, show (t.id == x) = false by rw [beq_eq_false_iff_ne]; exact fun e => h e.symm]
  simp
theorem txG_new {fm y : Nat} {M : List Tx} {t : Tx} (h : ∀ u ∈ M, u.id ≠ t.id) : txG fm y (M ++ [t]) t.id = txD fm y t := by
  unfold txG
  rw [List.find?_append, List.find?_eq_none.2 (fun u hu => by simpa using h u hu), List.find?_cons, beq_self_eq_true]
  rfl
theorem paO_new {M : List Tx} {t : Tx} (h : ∀ u ∈ M, u.id ≠ t.id) : paO (M ++ [t]) t.id = paC t := by
  unfold paO
  rw [List.find?_append, List.find?_eq_none.2 (fun u hu => by simpa using h u hu), List.find?_cons, beq_self_eq_true]
  rfl
theorem leK_cong {N : Nat} {q q' q'' : Ck} {A : Prop} (h : q' = q'') (hk : q.leK N q'' A) : q.leK N q' A := by
  rw [h]; exact hk
theorem le_tx_new {σ : List Sg} {N1 N' N : Nat} {M : List Tx} {fr : Int} {f : Fg} {q : Ck} {A : Prop} (hM : ∀ u ∈ M, u.id ≠ N) (h : key σ N' 8 N = (7, 0)) (hq : q = .cells true [.i .i64 fr, .i .i64 f.id, .i .i64 f.ct, .mp 7 0]) (hA : A) : q.leK N1 ((txG 8 N (M ++ [newT N fr f]) N).rk σ N') A := by
  rw [show txG 8 N (M ++ [newT N fr f]) N = txD 8 N (newT N fr f) from txG_new (t := newT N fr f) hM, hq]
  simpa [txD, newT, Ck.rk, C.rk, h, Ck.leK, sameB, eqL, C.eqK, sameK, ifB, kNat] using hA
theorem le_pa_new {σ : List Sg} {N1 N' N : Nat} {M : List Tx} {fr : Int} {f : Fg} {g : Nat → Nat × Key × E} {b : Bool} {A : Prop} (hM : ∀ u ∈ M, u.id ≠ N) (hb : b = false) (hg : g 0 = (0, Key.i f.ix, E.c (.s (mkS f.d)))) (hA : A) : (Ck.map true b (0 + 1) (0 + 1) g).leK N1 ((paO (M ++ [newT N fr f]) N).rk σ N') A := by
  rw [show paO (M ++ [newT N fr f]) N = paC (newT N fr f) from paO_new (t := newT N fr f) hM]
  subst hb
  refine ⟨rfl, rfl, rfl, rfl, fun i hi => ?_, hA⟩
  have : i = 0 := by simp [newT] at hi; omega
  subst this
  rw [hg]
  rfl
theorem adopt_ids {σ : List Sg} {N : Nat} {J ids ids' : List Nat} (hk : ∀ x, key σ 0 7 x = (if x = N then 8 else 3, if x = N then 0 else x)) (hN : ∀ x ∈ ids, x ≠ N) (he : ids' = ids ++ [N]) (g : Nat → List C) (hg : g 0 = [.p 8 0 0]) (i : Nat) (hi : i < ids'.length) :
    appF ids.length (fun i => [C.p 3 ((J ++ ids).getD (J.length + i) default) 0]) 0 g i = List.map (C.rk σ 0) (rowOf (encId 7) ids' i) := by
  subst he
  rw [map_rk_id, hk]
  unfold appF
  rw [List.length_append, List.length_singleton] at hi
  by_cases h : i < ids.length
  · rw [if_pos h]
    have e : (ids ++ [N]).getD i default = ids.getD i default := by simp [List.getD, List.getElem?_append_left h]
    have e2 : (J ++ ids).getD (J.length + i) default = ids.getD i default := by simp [List.getD, List.getElem?_append_right]
    have e3 : ids.getD i default ≠ N := hN _ (by rw [getD_at h]; exact List.getElem_mem _)
    simp only [e, e2, if_neg e3]
  · rw [if_neg h]
    obtain rfl : i = ids.length := by omega
    have e : (ids ++ [N]).getD ids.length default = N := by simp [List.getD]
    simp only [e, if_true, Nat.sub_self, hg]
theorem le_pa_drop {σ : List Sg} {N N' x : Nat} {L : List Tx} (hn : (idsOf L).Nodup) (hk : 0 < L.length) : (paO L x).leK N ((paO (L.drop 1) x).rk σ N') True := by
  have h := paO_cut (L := L) (k := 0) hn hk x
  rw [List.take_zero, List.nil_append] at h
  rw [h]
  by_cases hx : x = (L.getD 0 default).id
  · rw [if_pos hx]
    trivial
  · rw [if_neg hx]
    exact winO_le
structure AOk (mo : Int) (N : Nat) (J : List Nat) (L : List Tx) (dn : List (Int × Int)) : Prop where
  mo1 : 1 ≤ mo
  mo2 : mo ≤ 256
  len : (L.length : Int) ≤ mo
  dn : dn.length ≤ 1000000
  nd : (idsOf L).Nodup
  idN : ∀ t ∈ L, t.id < N
  jN : ∀ j ∈ J, j < N
  jl : J.length ≤ 1
  ct : ∀ t ∈ L, 1 ≤ t.ct ∧ t.ct ≤ 64
  mlen : ∀ t ∈ L, (t.M.length : Int) < t.ct
  dat : ∀ t ∈ L, ∀ e ∈ t.M, e.2.2.length ≤ 4000
  ix : ∀ t ∈ L, ∀ e ∈ t.M, 0 ≤ e.2.1 ∧ e.2.1 < t.ct
  key : ∀ t ∈ L, ∀ i j, i < j → j < t.M.length → (t.M.getD i default).2.1 ≠ (t.M.getD j default).2.1
abbrev asmA (mo : Int) (J : List Nat) (L : List Tx) (dn : List (Int × Int)) (c cd : Nat) : List Fam :=
  [.one (asm mo 5 6 J.length L.length c dn.length cd), .one .no, .one .no, .one .no, .one .no, .one (opnR 7 (J ++ idsOf L) (J.length + c)), .one (donR dn cd), .many (txO 8 L), .many (paO L)]

theorem rH15qC0 {σ : List Sg} {H h' : List Fam} {v : T} {K : T → List Fam → Prop} {H' : List Fam} {v' : T} {N : Nat} (hk : K v' H') (hN : H.length = N := by (try simp only [↓List.length_cons, ↓List.length_nil, Nat.reduceAdd]) <;> rfl) (h : givesF σ N H σ h' = some H' := by (try simp (maxSteps := 1000000) only [givesF, setF, updF, Fam.zeroth, Fam.rk, Ck.rk, C.rk, E.rk, T.rk, key, List.map_cons, List.map_nil, List.cons_append, List.nil_append, List.length_cons, List.length_nil, Option.map_some, Option.bind_some, Nat.reduceAdd, Nat.zero_add, Nat.add_zero, Nat.add_sub_cancel_left, Int.toNat_natCast, reps, List.all_cons, List.all_nil, C.flat, List.append_eq, Bool.not_true, Bool.and_true, Bool.or_false, Bool.or_self, Bool.not_false, List.append_nil, Bool.and_self, ↓mtG_rk, ↓winO_rk, encG]) <;> rfl) (hv : v.rk σ N = v' := by (try simp only [givesF, setF, updF, Fam.zeroth, Fam.rk, Ck.rk, C.rk, E.rk, T.rk, key, List.map_cons, List.map_nil, List.cons_append, List.nil_append, List.length_cons, List.length_nil, Option.map_some, Option.bind_some, Nat.reduceAdd, Nat.zero_add, Nat.add_zero, Nat.add_sub_cancel_left, Int.toNat_natCast, reps, List.all_cons, List.all_nil, C.flat, List.append_eq, Bool.not_true, Bool.and_true, Bool.or_false, Bool.or_self, Bool.not_false, List.append_nil, Bool.and_self, ↓mtG_rk, ↓winO_rk, encG]) <;> rfl) : RetG σ H h' v K := ret_mk3 hN h hv hk
theorem rH15qC1 {σ : List Sg} {H h' : List Fam} {v : T} {K : T → List Fam → Prop} {H' : List Fam} {v' : T} {N : Nat} (hk : K v' H') (hN : H.length = N := by (try simp only [↓List.length_cons, ↓List.length_nil, Nat.reduceAdd]) <;> rfl) (h : givesF σ N H σ h' = some H' := by (try simp (maxSteps := 1000000) only [givesF, setF, updF, Fam.zeroth, Fam.rk, Ck.rk, C.rk, E.rk, T.rk, key, List.map_cons, List.map_nil, List.cons_append, List.nil_append, List.length_cons, List.length_nil, Option.map_some, Option.bind_some, Nat.reduceAdd, Nat.zero_add, Nat.add_zero, Nat.add_sub_cancel_left, Int.toNat_natCast, reps, List.all_cons, List.all_nil, C.flat, List.append_eq, Bool.not_true, Bool.and_true, Bool.or_false, Bool.or_self, Bool.not_false, List.append_nil, Bool.and_self, ↓mtG_rk, ↓winO_rk, encG, encK, map_rk_id]) <;> rfl) (hv : v.rk σ N = v' := by (try simp only [givesF, setF, updF, Fam.zeroth, Fam.rk, Ck.rk, C.rk, E.rk, T.rk, key, List.map_cons, List.map_nil, List.cons_append, List.nil_append, List.length_cons, List.length_nil, Option.map_some, Option.bind_some, Nat.reduceAdd, Nat.zero_add, Nat.add_zero, Nat.add_sub_cancel_left, Int.toNat_natCast, reps, List.all_cons, List.all_nil, C.flat, List.append_eq, Bool.not_true, Bool.and_true, Bool.or_false, Bool.or_self, Bool.not_false, List.append_nil, Bool.and_self, ↓mtG_rk, ↓winO_rk, encG, encK, map_rk_id]) <;> rfl) : RetG σ H h' v K := ret_mk3 hN h hv hk
theorem rH15qC2 {σ : List Sg} {H h' : List Fam} {v : T} {K : T → List Fam → Prop} {H' : List Fam} {v' : T} {N : Nat} (hk : K v' H') (hN : H.length = N := by (try simp only [↓List.length_cons, ↓List.length_nil, Nat.reduceAdd]) <;> rfl) (h : givesF σ N H σ h' = some H' := by (try simp (maxSteps := 1000000) only [givesF, setF, updF, Fam.zeroth, Fam.rk, Ck.rk, C.rk, E.rk, T.rk, key, List.map_cons, List.map_nil, List.cons_append, List.nil_append, List.length_cons, List.length_nil, Option.map_some, Option.bind_some, Nat.reduceAdd, Nat.zero_add, Nat.add_zero, Nat.add_sub_cancel_left, Int.toNat_natCast, reps, List.all_cons, List.all_nil, C.flat, List.append_eq, Bool.not_true, Bool.and_true, Bool.or_false, Bool.or_self, Bool.not_false, List.append_nil, Bool.and_self, ↓mtG_rk, ↓winO_rk, encG, encK]) <;> rfl) (hv : v.rk σ N = v' := by (try simp only [givesF, setF, updF, Fam.zeroth, Fam.rk, Ck.rk, C.rk, E.rk, T.rk, key, List.map_cons, List.map_nil, List.cons_append, List.nil_append, List.length_cons, List.length_nil, Option.map_some, Option.bind_some, Nat.reduceAdd, Nat.zero_add, Nat.add_zero, Nat.add_sub_cancel_left, Int.toNat_natCast, reps, List.all_cons, List.all_nil, C.flat, List.append_eq, Bool.not_true, Bool.and_true, Bool.or_false, Bool.or_self, Bool.not_false, List.append_nil, Bool.and_self, ↓mtG_rk, ↓winO_rk, encG, encK]) <;> rfl) : RetG σ H h' v K := ret_mk3 hN h hv hk
theorem cH15qC3 {P : Program} {F : Nat} {args : List T} {H : List Fam} {K : T → List Fam → Prop} {σ : List Sg} {nl : List Fam} {args0 : List T} {h0 : List Fam} {Q : T → List Fam → Prop} {H2 H1 : List Fam} {N n : Nat} (hc : Ctr P F args0 h0 Q) (hk : ∀ v h', Q v h' → capsP h' → RetG σ H2 h' v K) (hap : apart σ = true := by rfl) (hnl : nl.all nilB = true := by rfl) (h1 : H ++ nl = H1 := by first | exact List.append_nil _ | ((try simp only [List.cons_append, List.nil_append]) <;> rfl)) (hN : H1.length = N := by (try simp only [↓List.length_cons, ↓List.length_nil, Nat.reduceAdd]) <;> rfl) (hn : H.length = n := by (try simp only [↓List.length_cons, ↓List.length_nil, Nat.reduceAdd]) <;> rfl) (hH : givesF σ N H1 σ h0 = some H2 := by (try simp (maxSteps := 1000000) only [givesF, setF, updF, Fam.zeroth, Fam.rk, Ck.rk, C.rk, E.rk, T.rk, key, List.map_cons, List.map_nil, List.cons_append, List.nil_append, List.length_cons, List.length_nil, Option.map_some, Option.bind_some, Nat.reduceAdd, Nat.zero_add, Nat.add_zero, Nat.add_sub_cancel_left, Int.toNat_natCast, reps, List.all_cons, List.all_nil, C.flat, List.append_eq, Bool.not_true, Bool.and_true, Bool.or_false, Bool.or_self, Bool.not_false, List.append_nil, Bool.and_self, ↓mtG_rk, ↓winO_rk]) <;> rfl) (hle : leS n H1 σ N σ h0 (belsK N (h0.map (Fam.rk σ N)) (argsK n args (args0.map (T.rk σ N)) True)) := by repeat' first | refine And.intro ?_ ?_ | exact xeC | fail) : CallK P F args H K := CallK.mk3 hc hap hnl h1 hN hn hH hle hk
set_option maxRecDepth 20000 in
set_option maxHeartbeats 4000000 in
theorem cAdd (mo : Int) (N : Nat) (J : List Nat) (L : List Tx) (dn : List (Int × Int)) (c cd : Nat) (fr : Int) (f : Fg) (hA : AOk mo N J L dn) :
    Ctr Try.prog 13 [.c (.p 0 0 0), .c (.i .i64 fr), .a (encG f)] (asmB mo J L dn c cd)
      fun v h => ∃ J' c' cd', (∀ j ∈ J', j < N + 1) ∧ J'.length ≤ 1 ∧ v = .t [.c (.s (mkS (addA mo N L dn fr f).2.2.1)), .c (.b (addA mo N L dn fr f).2.2.2.1), .c (.i .i64 ((addA mo N L dn fr f).2.2.2.2 : Nat))] ∧ h = asmA mo J' (addA mo N L dn fr f).1 (addA mo N L dn fr f).2.1 c' cd' := by
  have hz : (mkS f.d).size = f.d.length := rfl
  have hLl := hA.len
  have hmo := hA.mo2
  have hmo1 := hA.mo1
  have hJL : (J ++ idsOf L).length = J.length + L.length := by simp [idsOf]
  have hJl := hA.jl
  have hdl := hA.dn
  have hidN : ∀ x ∈ idsOf L, x ≠ N := fun x hx => by
    obtain ⟨t, ht, rfl⟩ := List.mem_map.1 hx
    have := hA.idN t ht
    omega
  have huN : ∀ u ∈ L, u.id ≠ N := fun u hu => by have := hA.idN u hu; omega
  have hil : (idsOf L).length = L.length := by simp [idsOf]
  refine Ctr.mk' tbv mixed Try.func13 rfl rfl rfl (fun _ _ => by kernel_rfl) (by kernel_rfl) (by rfl) (by rfl) (by (repeat' first | refine And.intro ?_ ?_ | exact xeC | fail) <;> (exact xmC)) ?_
  repeat' (first | (fail_if_success (with_reducible refine xstp ?_)); first | ((with_reducible refine And.intro (fun (hb : _ = true) => ?_) (fun (hb : _ = false) => ?_)) <;> replace hb := xnC hb <;> (try first | exact xfC | exact bff hb (by assumption) | exact bff (by assumption) hb)) | (with_reducible refine Both.mk ?_ ?_) | ((with_reducible refine And.intro ?_ ?_); focus exact xoC) | ((with_reducible refine Or.inl ⟨?_, ?_, ?_⟩); (focus rfl); focus exact xaC) | ((with_reducible refine xwB ?_ ?_); focus exact xaC) | ((with_reducible refine xwC ?_ ?_); focus exact xaC) | ((with_reducible refine xwD ?_ ?_); focus exact xaC) | ((with_reducible refine xwE ?_ ?_); focus exact xaC) | (with_reducible intro hc; (try simp only [capsP, and_true] at hc); (try exact xfC)) | ((fail_if_success (with_reducible first | refine xgon ?_ | intro _)); (conv => whnf); (fail_if_success (fail_if_success (with_reducible first | refine xstp ?_ | refine Both.mk ?_ ?_ | refine xgon ?_ | intro _)))))
  refine cH15qC3 (σ := []) (nl := []) (cwithin fr 0 7) ?_
  rintro v h' ⟨rfl, rfl⟩ hcaps
  refine rH15qC0 ?_
  repeat' (first | (fail_if_success (with_reducible refine xstp ?_)); first | ((with_reducible refine And.intro (fun (hb : _ = true) => ?_) (fun (hb : _ = false) => ?_)) <;> replace hb := xnC hb <;> (try first | exact xfC | exact bff hb (by assumption) | exact bff (by assumption) hb)) | (with_reducible refine Both.mk ?_ ?_) | ((with_reducible refine And.intro ?_ ?_); focus exact xoC) | ((with_reducible refine Or.inl ⟨?_, ?_, ?_⟩); (focus rfl); focus exact xaC) | ((with_reducible refine xwB ?_ ?_); focus exact xaC) | ((with_reducible refine xwC ?_ ?_); focus exact xaC) | ((with_reducible refine xwD ?_ ?_); focus exact xaC) | ((with_reducible refine xwE ?_ ?_); focus exact xaC) | (with_reducible intro hc; (try simp only [capsP, and_true] at hc); (try exact xfC)) | ((fail_if_success (with_reducible first | refine xgon ?_ | intro _)); (conv => whnf); (fail_if_success (fail_if_success (with_reducible first | refine xstp ?_ | refine Both.mk ?_ ?_ | refine xgon ?_ | intro _)))))
  · skip
    have hadd : addA mo N L dn fr f = (L, dn, [], false, 4) := by unfold addA; rw [if_pos (fun h => hb h.1)]
    rw [hadd]
    refine FinK.mk ⟨[0, 1, 2, 3, 4, 1, 2, 3, 4], _, _, ⟨J, c, cd, fun j hj => Nat.lt_succ_of_lt (hA.jN j hj), hA.jl, rfl, rfl⟩, ?_⟩
    (repeat' first | refine And.intro ?_ ?_ | exact xeC | fail)
    all_goals (exact xmC)
  refine cH15qC3 (σ := []) (nl := []) (cvalid f) ?_
  rintro v h' ⟨rfl, rfl⟩ hcaps
  refine rH15qC0 ?_
  repeat' (first | (fail_if_success (with_reducible refine xstp ?_)); first | ((with_reducible refine And.intro (fun (hb : _ = true) => ?_) (fun (hb : _ = false) => ?_)) <;> replace hb := xnC hb <;> (try first | exact xfC | exact bff hb (by assumption) | exact bff (by assumption) hb)) | (with_reducible refine Both.mk ?_ ?_) | ((with_reducible refine And.intro ?_ ?_); focus exact xoC) | ((with_reducible refine Or.inl ⟨?_, ?_, ?_⟩); (focus rfl); focus exact xaC) | ((with_reducible refine xwB ?_ ?_); focus exact xaC) | ((with_reducible refine xwC ?_ ?_); focus exact xaC) | ((with_reducible refine xwD ?_ ?_); focus exact xaC) | ((with_reducible refine xwE ?_ ?_); focus exact xaC) | (with_reducible intro hc; (try simp only [capsP, and_true] at hc); (try exact xfC)) | ((fail_if_success (with_reducible first | refine xgon ?_ | intro _)); (conv => whnf); (fail_if_success (fail_if_success (with_reducible first | refine xstp ?_ | refine Both.mk ?_ ?_ | refine xgon ?_ | intro _)))))
  · skip
    have hadd : addA mo N L dn fr f = (L, dn, [], false, 4) := by unfold addA; rw [if_pos (fun h => hb h.2)]
    rw [hadd]
    refine FinK.mk ⟨[0, 1, 2, 3, 4, 1, 2, 3, 4], _, _, ⟨J, c, cd, fun j hj => Nat.lt_succ_of_lt (hA.jN j hj), hA.jl, rfl, rfl⟩, ?_⟩
    (repeat' first | refine And.intro ?_ ?_ | exact xeC | fail)
    all_goals (exact xmC)
  have hok : (0 ≤ fr ∧ fr ≤ 7) ∧ okF f := ⟨by assumption, hb⟩
  have hokf := hok.2
  unfold okF at hokf
  refine cH15qC3 (σ := [.whole 0, .whole 1, .name 2, .whole 3, .name 4]) (nl := []) (cfind mo J L dn c cd (fr, f.id) (by omega) (find_nd hA.nd)) ?_ (hle := by (repeat' first | refine And.intro ?_ ?_ | exact xeC | fail) <;> (exact xmC))
  rintro v h' ⟨rfl, rfl⟩ hcaps
  rcases (by cases fnd L (fr, f.id) <;> simp : (∃ k, fnd L (fr, f.id) = some k) ∨ fnd L (fr, f.id) = none) with ⟨k, hf⟩ | hf
  · rw [resF_some hf]
    have hadd0 := addA_some (mo := mo) (N := N) (dn := dn) hok hf
    have hk := fnd_lt hf
    have hx := find_nd hA.nd k hk
    refine rH15qC1 ?_
    repeat' (first | (fail_if_success (with_reducible refine xstp ?_)); first | ((with_reducible refine And.intro (fun (hb : _ = true) => ?_) (fun (hb : _ = false) => ?_)) <;> replace hb := xnC hb <;> (try first | exact xfC | exact bff hb (by assumption) | exact bff (by assumption) hb)) | (with_reducible refine Both.mk ?_ ?_) | ((with_reducible refine And.intro ?_ ?_); focus exact xoC) | ((with_reducible refine Or.inl ⟨?_, ?_, ?_⟩); (focus rfl); focus exact xaC) | ((with_reducible refine xwB ?_ ?_); focus exact xaC) | ((with_reducible refine xwC ?_ ?_); focus exact xaC) | ((with_reducible refine xwD ?_ ?_); focus exact xaC) | ((with_reducible refine xwE ?_ ?_); focus exact xaC) | (with_reducible intro hc; (try simp only [capsP, and_true] at hc); (try exact xfC)) | ((fail_if_success (with_reducible first | refine xgon ?_ | intro _)); (conv => whnf); (fail_if_success (fail_if_success (with_reducible first | refine xstp ?_ | refine Both.mk ?_ ?_ | refine xgon ?_ | intro _)))))
    refine ManyK.mk ⟨txD 4 (L.getD k default).id (L.getD k default), by show txG _ _ _ _ = _; unfold txG; rw [hx], ?_⟩
    repeat' (first | (fail_if_success (with_reducible refine xstp ?_)); first | ((with_reducible refine And.intro (fun (hb : _ = true) => ?_) (fun (hb : _ = false) => ?_)) <;> replace hb := xnC hb <;> (try first | exact xfC | exact bff hb (by assumption) | exact bff (by assumption) hb)) | (with_reducible refine Both.mk ?_ ?_) | ((with_reducible refine And.intro ?_ ?_); focus exact xoC) | ((with_reducible refine Or.inl ⟨?_, ?_, ?_⟩); (focus rfl); focus exact xaC) | ((with_reducible refine xwB ?_ ?_); focus exact xaC) | ((with_reducible refine xwC ?_ ?_); focus exact xaC) | ((with_reducible refine xwD ?_ ?_); focus exact xaC) | ((with_reducible refine xwE ?_ ?_); focus exact xaC) | (with_reducible intro hc; (try simp only [capsP, and_true] at hc); (try exact xfC)) | ((fail_if_success (with_reducible first | refine xgon ?_ | intro _)); (conv => whnf); (fail_if_success (fail_if_success (with_reducible first | refine xstp ?_ | refine Both.mk ?_ ?_ | refine xgon ?_ | intro _)))))
    refine ManyK.mk ⟨paC (L.getD k default), by show paO _ _ = _; unfold paO; rw [hx], ?_⟩
    repeat' (first | (fail_if_success (with_reducible refine xstp ?_)); first | ((with_reducible refine And.intro (fun (hb : _ = true) => ?_) (fun (hb : _ = false) => ?_)) <;> replace hb := xnC hb <;> (try first | exact xfC | exact bff hb (by assumption) | exact bff (by assumption) hb)) | (with_reducible refine Both.mk ?_ ?_) | ((with_reducible refine And.intro ?_ ?_); focus exact xoC) | ((with_reducible refine Or.inl ⟨?_, ?_, ?_⟩); (focus rfl); focus exact xaC) | ((with_reducible refine xwB ?_ ?_); focus exact xaC) | ((with_reducible refine xwC ?_ ?_); focus exact xaC) | ((with_reducible refine xwD ?_ ?_); focus exact xaC) | ((with_reducible refine xwE ?_ ?_); focus exact xaC) | (with_reducible intro hc; (try simp only [capsP, and_true] at hc); (try exact xfC)) | ((fail_if_success (with_reducible first | refine xgon ?_ | intro _)); (conv => whnf); (fail_if_success (fail_if_success (with_reducible first | refine xstp ?_ | refine Both.mk ?_ ?_ | refine xgon ?_ | intro _)))))
    · rename_i i hi
      have hki : ((L.getD k default).M.getD i default).2.1 = f.ix := Key.i.inj hc
      have hpg := pget_at (hA.key _ (by rw [getD_at hk]; exact List.getElem_mem _)) hi hki
      rw [hpg] at hadd0
      refine ManyK.mk ⟨txD 4 (L.getD k default).id (L.getD k default), by show txG _ _ _ _ = _; unfold txG; rw [hx], ?_⟩
      repeat' (first | (fail_if_success (with_reducible refine xstp ?_)); first | ((with_reducible refine And.intro (fun (hb : _ = true) => ?_) (fun (hb : _ = false) => ?_)) <;> replace hb := xnC hb <;> (try first | exact xfC | exact bff hb (by assumption) | exact bff (by assumption) hb)) | (with_reducible refine Both.mk ?_ ?_) | ((with_reducible refine And.intro ?_ ?_); focus exact xoC) | ((with_reducible refine Or.inl ⟨?_, ?_, ?_⟩); (focus rfl); focus exact xaC) | ((with_reducible refine xwB ?_ ?_); focus exact xaC) | ((with_reducible refine xwC ?_ ?_); focus exact xaC) | ((with_reducible refine xwD ?_ ?_); focus exact xaC) | ((with_reducible refine xwE ?_ ?_); focus exact xaC) | (with_reducible intro hc; (try simp only [capsP, and_true] at hc); (try exact xfC)) | ((fail_if_success (with_reducible first | refine xgon ?_ | intro _)); (conv => whnf); (fail_if_success (fail_if_success (with_reducible first | refine xstp ?_ | refine Both.mk ?_ ?_ | refine xgon ?_ | intro _)))))
      · skip
        have hadd : addA mo N L dn fr f = (L, dn, [], false, 2) := by rw [hadd0, if_pos hb]
        rw [hadd]
        refine FinK.mk ⟨[0, 1, 2, 3, 4, 1, 2, 3, 4], _, _, ⟨J, c, cd, fun j hj => Nat.lt_succ_of_lt (hA.jN j hj), hA.jl, rfl, rfl⟩, ?_⟩
        (repeat' first | refine And.intro ?_ ?_ | exact xeC | fail)
        all_goals (exact xmC)
      · skip
        have hadd : addA mo N L dn fr f = (L, dn, [], false, 2) := by rw [hadd0, if_neg (by simpa using ‹(L.getD k default).ct = f.ct›)]; exact if_pos (fun e => hb (by rw [e]))
        rw [hadd]
        refine FinK.mk ⟨[0, 1, 2, 3, 4, 1, 2, 3, 4], _, _, ⟨J, c, cd, fun j hj => Nat.lt_succ_of_lt (hA.jN j hj), hA.jl, rfl, rfl⟩, ?_⟩
        (repeat' first | refine And.intro ?_ ?_ | exact xeC | fail)
        all_goals (exact xmC)
      · skip
        have hadd : addA mo N L dn fr f = (L, dn, [], false, 0) := by rw [hadd0, if_neg (by simpa using ‹(L.getD k default).ct = f.ct›)]; exact if_neg (fun e => e (mkS_inj.1 hb))
        rw [hadd]
        refine FinK.mk ⟨[0, 1, 2, 3, 4, 1, 2, 3, 4], _, _, ⟨J, c, cd, fun j hj => Nat.lt_succ_of_lt (hA.jN j hj), hA.jl, rfl, rfl⟩, ?_⟩
        (repeat' first | refine And.intro ?_ ?_ | exact xeC | fail)
        all_goals (exact xmC)
    · have hno0 := hc
      have hpg : pget (L.getD k default).M f.ix = none := pget_no (fun i hi e => hc i hi (by rw [e]))
      rw [hpg] at hadd0
      refine ManyK.mk ⟨txD 4 (L.getD k default).id (L.getD k default), by show txG _ _ _ _ = _; unfold txG; rw [hx], ?_⟩
      repeat' (first | (fail_if_success (with_reducible refine xstp ?_)); first | ((with_reducible refine And.intro (fun (hb : _ = true) => ?_) (fun (hb : _ = false) => ?_)) <;> replace hb := xnC hb <;> (try first | exact xfC | exact bff hb (by assumption) | exact bff (by assumption) hb)) | (with_reducible refine Both.mk ?_ ?_) | ((with_reducible refine And.intro ?_ ?_); focus exact xoC) | ((with_reducible refine Or.inl ⟨?_, ?_, ?_⟩); (focus rfl); focus exact xaC) | ((with_reducible refine xwB ?_ ?_); focus exact xaC) | ((with_reducible refine xwC ?_ ?_); focus exact xaC) | ((with_reducible refine xwD ?_ ?_); focus exact xaC) | ((with_reducible refine xwE ?_ ?_); focus exact xaC) | (with_reducible intro hc; (try simp only [capsP, and_true] at hc); (try exact xfC)) | ((fail_if_success (with_reducible first | refine xgon ?_ | intro _)); (conv => whnf); (fail_if_success (fail_if_success (with_reducible first | refine xstp ?_ | refine Both.mk ?_ ?_ | refine xgon ?_ | intro _)))))
      · skip
        have hadd : addA mo N L dn fr f = (L, dn, [], false, 2) := by rw [hadd0, if_pos hb]
        rw [hadd]
        refine FinK.mk ⟨[0, 1, 2, 3, 4, 1, 2, 3, 4], _, _, ⟨J, c, cd, fun j hj => Nat.lt_succ_of_lt (hA.jN j hj), hA.jl, rfl, rfl⟩, ?_⟩
        (repeat' first | refine And.intro ?_ ?_ | exact xeC | fail)
        all_goals (exact xmC)
      have hct := hb
      rw [if_neg (by simpa using hct)] at hadd0
      simp only at hadd0
      have htm : L.getD k default ∈ L := by rw [getD_at hk]; exact List.getElem_mem _
      have htc := hA.ct _ htm
      have htl := hA.mlen _ htm
      refine ManyK.mk ⟨txD 4 (L.getD k default).id (L.getD k default), by show txG _ _ _ _ = _; unfold txG; rw [hx], ?_⟩
      repeat' (first | (fail_if_success (with_reducible refine xstp ?_)); first | ((with_reducible refine And.intro (fun (hb : _ = true) => ?_) (fun (hb : _ = false) => ?_)) <;> replace hb := xnC hb <;> (try first | exact xfC | exact bff hb (by assumption) | exact bff (by assumption) hb)) | (with_reducible refine Both.mk ?_ ?_) | ((with_reducible refine And.intro ?_ ?_); focus exact xoC) | ((with_reducible refine Or.inl ⟨?_, ?_, ?_⟩); (focus rfl); focus exact xaC) | ((with_reducible refine xwB ?_ ?_); focus exact xaC) | ((with_reducible refine xwC ?_ ?_); focus exact xaC) | ((with_reducible refine xwD ?_ ?_); focus exact xaC) | ((with_reducible refine xwE ?_ ?_); focus exact xaC) | (with_reducible intro hc; (try simp only [capsP, and_true] at hc); (try exact xfC)) | ((fail_if_success (with_reducible first | refine xgon ?_ | intro _)); (conv => whnf); (fail_if_success (fail_if_success (with_reducible first | refine xstp ?_ | refine Both.mk ?_ ?_ | refine xgon ?_ | intro _)))))
      refine ManyK.mk ⟨paC (L.getD k default), by show paO _ _ = _; unfold paO; rw [hx], ?_⟩
      repeat' (first | (fail_if_success (with_reducible refine xstp ?_)); first | ((with_reducible refine And.intro (fun (hb : _ = true) => ?_) (fun (hb : _ = false) => ?_)) <;> replace hb := xnC hb <;> (try first | exact xfC | exact bff hb (by assumption) | exact bff (by assumption) hb)) | (with_reducible refine Both.mk ?_ ?_) | ((with_reducible refine And.intro ?_ ?_); focus exact xoC) | ((with_reducible refine Or.inl ⟨?_, ?_, ?_⟩); (focus rfl); focus exact xaC) | ((with_reducible refine xwB ?_ ?_); focus exact xaC) | ((with_reducible refine xwC ?_ ?_); focus exact xaC) | ((with_reducible refine xwD ?_ ?_); focus exact xaC) | ((with_reducible refine xwE ?_ ?_); focus exact xaC) | (with_reducible intro hc; (try simp only [capsP, and_true] at hc); (try exact xfC)) | ((fail_if_success (with_reducible first | refine xgon ?_ | intro _)); (conv => whnf); (fail_if_success (fail_if_success (with_reducible first | refine xstp ?_ | refine Both.mk ?_ ?_ | refine xgon ?_ | intro _)))))
      · rename_i i hi
        exact absurd hc (hno0 i hi)
      refine ManyK.mk ⟨txD 4 (L.getD k default).id (L.getD k default), by show txG _ _ _ _ = _; unfold txG; rw [hx], ?_⟩
      repeat' (first | (fail_if_success (with_reducible refine xstp ?_)); first | ((with_reducible refine And.intro (fun (hb : _ = true) => ?_) (fun (hb : _ = false) => ?_)) <;> replace hb := xnC hb <;> (try first | exact xfC | exact bff hb (by assumption) | exact bff (by assumption) hb)) | (with_reducible refine Both.mk ?_ ?_) | ((with_reducible refine And.intro ?_ ?_); focus exact xoC) | ((with_reducible refine Or.inl ⟨?_, ?_, ?_⟩); (focus rfl); focus exact xaC) | ((with_reducible refine xwB ?_ ?_); focus exact xaC) | ((with_reducible refine xwC ?_ ?_); focus exact xaC) | ((with_reducible refine xwD ?_ ?_); focus exact xaC) | ((with_reducible refine xwE ?_ ?_); focus exact xaC) | (with_reducible intro hc; (try simp only [capsP, and_true] at hc); (try exact xfC)) | ((fail_if_success (with_reducible first | refine xgon ?_ | intro _)); (conv => whnf); (fail_if_success (fail_if_success (with_reducible first | refine xstp ?_ | refine Both.mk ?_ ?_ | refine xgon ?_ | intro _)))))
      refine ManyK.mk ⟨_, if_pos rfl, ?_⟩
      repeat' (first | (fail_if_success (with_reducible refine xstp ?_)); first | ((with_reducible refine And.intro (fun (hb : _ = true) => ?_) (fun (hb : _ = false) => ?_)) <;> replace hb := xnC hb <;> (try first | exact xfC | exact bff hb (by assumption) | exact bff (by assumption) hb)) | (with_reducible refine Both.mk ?_ ?_) | ((with_reducible refine And.intro ?_ ?_); focus exact xoC) | ((with_reducible refine Or.inl ⟨?_, ?_, ?_⟩); (focus rfl); focus exact xaC) | ((with_reducible refine xwB ?_ ?_); focus exact xaC) | ((with_reducible refine xwC ?_ ?_); focus exact xaC) | ((with_reducible refine xwD ?_ ?_); focus exact xaC) | ((with_reducible refine xwE ?_ ?_); focus exact xaC) | (with_reducible intro hc; (try simp only [capsP, and_true] at hc); (try exact xfC)) | ((fail_if_success (with_reducible first | refine xgon ?_ | intro _)); (conv => whnf); (fail_if_success (fail_if_success (with_reducible first | refine xstp ?_ | refine Both.mk ?_ ?_ | refine xgon ?_ | intro _)))))
      refine ManyK.mk ⟨txD 4 (L.getD k default).id (L.getD k default), by show txG _ _ _ _ = _; unfold txG; rw [hx], ?_⟩
      repeat' (first | (fail_if_success (with_reducible refine xstp ?_)); first | ((with_reducible refine And.intro (fun (hb : _ = true) => ?_) (fun (hb : _ = false) => ?_)) <;> replace hb := xnC hb <;> (try first | exact xfC | exact bff hb (by assumption) | exact bff (by assumption) hb)) | (with_reducible refine Both.mk ?_ ?_) | ((with_reducible refine And.intro ?_ ?_); focus exact xoC) | ((with_reducible refine Or.inl ⟨?_, ?_, ?_⟩); (focus rfl); focus exact xaC) | ((with_reducible refine xwB ?_ ?_); focus exact xaC) | ((with_reducible refine xwC ?_ ?_); focus exact xaC) | ((with_reducible refine xwD ?_ ?_); focus exact xaC) | ((with_reducible refine xwE ?_ ?_); focus exact xaC) | (with_reducible intro hc; (try simp only [capsP, and_true] at hc); (try exact xfC)) | ((fail_if_success (with_reducible first | refine xgon ?_ | intro _)); (conv => whnf); (fail_if_success (fail_if_success (with_reducible first | refine xstp ?_ | refine Both.mk ?_ ?_ | refine xgon ?_ | intro _)))))
      · rw [if_pos (by omega)] at hadd0
        rw [hadd0]
        refine FinK.mk ⟨[0, 1, 2, 3, 4, 1, 2, 3, 4], _, asmA mo J (L.set k (insT (L.getD k default) f)) dn c cd, ⟨J, c, cd, fun j hj => Nat.lt_succ_of_lt (hA.jN j hj), hA.jl, rfl, rfl⟩, ?_⟩
        rw [asmA, idsOf_set hk, List.length_set]
        (repeat' first | refine And.intro ?_ ?_ | exact xeC | fail)
        · exact fun x => le_tx_set rfl hA.nd hk
        · exact fun x => le_pa_set hA.nd hk
        all_goals (exact xmC)
      · rw [if_neg (by omega)] at hadd0
        rw [hadd0]
        rename_i c2
        have e1 : ((k : Int) + 1).toNat = k + 1 := by omega
        simp only [Int.toNat_natCast, e1] at *
        refine cH15qC3 (σ := [.whole 0, .name 7, .whole 2]) (nl := []) (cremember mo 0 (k + (L.length - (k + 1))) c2 dn cd (fr, f.id) (by omega)) ?_
        rintro v h' ⟨c3, rfl, rfl⟩ hcaps
        refine rH15qC2 ?_
        repeat' (first | (fail_if_success (with_reducible refine xstp ?_)); first | ((with_reducible refine And.intro (fun (hb : _ = true) => ?_) (fun (hb : _ = false) => ?_)) <;> replace hb := xnC hb <;> (try first | exact xfC | exact bff hb (by assumption) | exact bff (by assumption) hb)) | (with_reducible refine Both.mk ?_ ?_) | ((with_reducible refine And.intro ?_ ?_); focus exact xoC) | ((with_reducible refine Or.inl ⟨?_, ?_, ?_⟩); (focus rfl); focus exact xaC) | ((with_reducible refine xwB ?_ ?_); focus exact xaC) | ((with_reducible refine xwC ?_ ?_); focus exact xaC) | ((with_reducible refine xwD ?_ ?_); focus exact xaC) | ((with_reducible refine xwE ?_ ?_); focus exact xaC) | (with_reducible intro hc; (try simp only [capsP, and_true] at hc); (try exact xfC)) | ((fail_if_success (with_reducible first | refine xgon ?_ | intro _)); (conv => whnf); (fail_if_success (fail_if_success (with_reducible first | refine xstp ?_ | refine Both.mk ?_ ?_ | refine xgon ?_ | intro _)))))
        refine ManyK.mk ⟨txD 4 (L.getD k default).id (L.getD k default), by show txG _ _ _ _ = _; unfold txG; rw [hx], ?_⟩
        repeat' (first | (fail_if_success (with_reducible refine xstp ?_)); first | ((with_reducible refine And.intro (fun (hb : _ = true) => ?_) (fun (hb : _ = false) => ?_)) <;> replace hb := xnC hb <;> (try first | exact xfC | exact bff hb (by assumption) | exact bff (by assumption) hb)) | (with_reducible refine Both.mk ?_ ?_) | ((with_reducible refine And.intro ?_ ?_); focus exact xoC) | ((with_reducible refine Or.inl ⟨?_, ?_, ?_⟩); (focus rfl); focus exact xaC) | ((with_reducible refine xwB ?_ ?_); focus exact xaC) | ((with_reducible refine xwC ?_ ?_); focus exact xaC) | ((with_reducible refine xwD ?_ ?_); focus exact xaC) | ((with_reducible refine xwE ?_ ?_); focus exact xaC) | (with_reducible intro hc; (try simp only [capsP, and_true] at hc); (try exact xfC)) | ((fail_if_success (with_reducible first | refine xgon ?_ | intro _)); (conv => whnf); (fail_if_success (fail_if_success (with_reducible first | refine xstp ?_ | refine Both.mk ?_ ?_ | refine xgon ?_ | intro _)))))
        have hno1 : ∀ i, i < (L.getD k default).M.length → ((L.getD k default).M.getD i default).2.1 ≠ f.ix := fun i hi e => hno0 i hi (by rw [e])
        have hkd : ∀ i j, i < j → j < (insT (L.getD k default) f).M.length → ((insT (L.getD k default) f).M.getD i default).2.1 ≠ ((insT (L.getD k default) f).M.getD j default).2.1 := key_snoc (s := (L.getD k default).ck) (d := f.d) (hA.key _ htm) hno1
        have hdd : ∀ e ∈ (insT (L.getD k default) f).M, e.2.2.length ≤ 4000 := by
          intro e he
          rcases List.mem_append.1 he with he | he
          · exact hA.dat _ htm e he
          · rw [List.mem_singleton.1 he]; exact hokf.2.2.2
        have hlc := cutL_len hk
        have hci : (idsOf (cutL L k)).length = (cutL L k).length := by simp [idsOf]
        refine LoopK.mk' {i : Nat // (i : Int) ≤ (L.getD k default).ct}
          (fun ⟨i, _⟩ => ⟨[(11, .c (.p 3 (L.getD k default).id 0)), (14, .c (.s (mkS (outS f.ct (insT (L.getD k default) f).M i)))), (152, .c (.i .i64 (L.getD k default).ct)), (153, .c (.i .i64 (i : Nat)))],
            [.one (asm mo 7 8 0 (cutL L k).length c2 (remD dn (fr, f.id)).length c3), .one .no, .one .no, .many (fun x => txG 4 x L x), .many (paO (L.set k (insT (L.getD k default) f))), .one .no, .one .no, .one (opnR 3 (idsOf (cutL L k)) c2), .one (donR (remD dn (fr, f.id)) c3)]⟩) (fun i => (L.getD k default).ct.toNat - i.1)
          ⟨⟨0, by omega⟩, [0, 1, 2, 3, 4, 5, 6, 7, 8], ?_⟩ ?_
        · (repeat' first | refine And.intro ?_ ?_ | exact xeC | fail)
          all_goals first
            | omega
            | exact fun x => mtO_le rfl
            | exact fun x => le_pa_set hA.nd hk
            | (exact xmC)
            | (intro i hi
               rw [hci, hlc] at hi
               have hcu := cut_ids (F := 3) (J := J) (ids := idsOf L) (k := k) (c := c) (by omega) (by omega) i (by omega)
               rw [← ids_cut] at hcu
               exact hcu)
        rintro ⟨i, hi⟩
        have hol := outS_le f.ct hdd i
        have hoz : (mkS (outS f.ct (insT (L.getD k default) f).M i)).size = (outS f.ct (insT (L.getD k default) f).M i).length := rfl
        have hpl := pget_le hdd (i : Nat)
        repeat' (first | (fail_if_success (with_reducible refine xstp ?_)); first | ((with_reducible refine And.intro (fun (hb : _ = true) => ?_) (fun (hb : _ = false) => ?_)) <;> replace hb := xnC hb <;> (try first | exact xfC | exact bff hb (by assumption) | exact bff (by assumption) hb)) | (with_reducible refine Both.mk ?_ ?_) | ((with_reducible refine And.intro ?_ ?_); focus exact xoC) | ((with_reducible refine Or.inl ⟨?_, ?_, ?_⟩); (focus rfl); focus exact xaC) | ((with_reducible refine xwB ?_ ?_); focus exact xaC) | ((with_reducible refine xwC ?_ ?_); focus exact xaC) | ((with_reducible refine xwD ?_ ?_); focus exact xaC) | ((with_reducible refine xwE ?_ ?_); focus exact xaC) | (with_reducible intro hc; (try simp only [capsP, and_true] at hc); (try exact xfC)) | ((fail_if_success (with_reducible first | refine xgon ?_ | intro _)); (conv => whnf); (fail_if_success (fail_if_success (with_reducible first | refine xstp ?_ | refine Both.mk ?_ ?_ | refine xgon ?_ | intro _)))))
        · skip
          refine ManyK.mk ⟨txD 4 (L.getD k default).id (L.getD k default), by show txG _ _ _ _ = _; unfold txG; rw [hx], ?_⟩
          repeat' (first | (fail_if_success (with_reducible refine xstp ?_)); first | ((with_reducible refine And.intro (fun (hb : _ = true) => ?_) (fun (hb : _ = false) => ?_)) <;> replace hb := xnC hb <;> (try first | exact xfC | exact bff hb (by assumption) | exact bff (by assumption) hb)) | (with_reducible refine Both.mk ?_ ?_) | ((with_reducible refine And.intro ?_ ?_); focus exact xoC) | ((with_reducible refine Or.inl ⟨?_, ?_, ?_⟩); (focus rfl); focus exact xaC) | ((with_reducible refine xwB ?_ ?_); focus exact xaC) | ((with_reducible refine xwC ?_ ?_); focus exact xaC) | ((with_reducible refine xwD ?_ ?_); focus exact xaC) | ((with_reducible refine xwE ?_ ?_); focus exact xaC) | (with_reducible intro hc; (try simp only [capsP, and_true] at hc); (try exact xfC)) | ((fail_if_success (with_reducible first | refine xgon ?_ | intro _)); (conv => whnf); (fail_if_success (fail_if_success (with_reducible first | refine xstp ?_ | refine Both.mk ?_ ?_ | refine xgon ?_ | intro _)))))
          refine ManyK.mk ⟨paC (insT (L.getD k default) f), by rw [paO_set hA.nd hk, if_pos rfl], ?_⟩
          repeat' (first | (fail_if_success (with_reducible refine xstp ?_)); first | ((with_reducible refine And.intro (fun (hb : _ = true) => ?_) (fun (hb : _ = false) => ?_)) <;> replace hb := xnC hb <;> (try first | exact xfC | exact bff hb (by assumption) | exact bff (by assumption) hb)) | (with_reducible refine Both.mk ?_ ?_) | ((with_reducible refine And.intro ?_ ?_); focus exact xoC) | ((with_reducible refine Or.inl ⟨?_, ?_, ?_⟩); (focus rfl); focus exact xaC) | ((with_reducible refine xwB ?_ ?_); focus exact xaC) | ((with_reducible refine xwC ?_ ?_); focus exact xaC) | ((with_reducible refine xwD ?_ ?_); focus exact xaC) | ((with_reducible refine xwE ?_ ?_); focus exact xaC) | (with_reducible intro hc; (try simp only [capsP, and_true] at hc); (try exact xfC)) | ((fail_if_success (with_reducible first | refine xgon ?_ | intro _)); (conv => whnf); (fail_if_success (fail_if_success (with_reducible first | refine xstp ?_ | refine Both.mk ?_ ?_ | refine xgon ?_ | intro _)))))
          · rename_i q hq
            have hkq : ((insT (L.getD k default) f).M.getD q default).2.1 = (i : Nat) := Key.i.inj hc
            have hpq := pget_at hkd hq hkq
            have hq4 : (mkS ((insT (L.getD k default) f).M.getD q default).2.2).size ≤ 4000 := hdd _ (by rw [getD_at hq]; exact List.getElem_mem _)
            repeat' (first | (fail_if_success (with_reducible refine xstp ?_)); first | ((with_reducible refine And.intro (fun (hb : _ = true) => ?_) (fun (hb : _ = false) => ?_)) <;> replace hb := xnC hb <;> (try first | exact xfC | exact bff hb (by assumption) | exact bff (by assumption) hb)) | (with_reducible refine Both.mk ?_ ?_) | ((with_reducible refine And.intro ?_ ?_); focus exact xoC) | ((with_reducible refine Or.inl ⟨?_, ?_, ?_⟩); (focus rfl); focus exact xaC) | ((with_reducible refine xwB ?_ ?_); focus exact xaC) | ((with_reducible refine xwC ?_ ?_); focus exact xaC) | ((with_reducible refine xwD ?_ ?_); focus exact xaC) | ((with_reducible refine xwE ?_ ?_); focus exact xaC) | (with_reducible intro hc; (try simp only [capsP, and_true] at hc); (try exact xfC)) | ((fail_if_success (with_reducible first | refine xgon ?_ | intro _)); (conv => whnf); (fail_if_success (fail_if_success (with_reducible first | refine xstp ?_ | refine Both.mk ?_ ?_ | refine xgon ?_ | intro _)))))
            rw [mkS_append]
            refine ⟨⟨i + 1, by omega⟩, [0, 1, 2, 3, 4, 5, 6, 7, 8], by simp only; omega, ?_⟩
            (repeat' first | refine And.intro ?_ ?_ | exact xeC | fail)
            all_goals first
              | (exact xmC)
              | (rw [outS_succ]
                 show mkS _ = mkS (_ ++ (pget (insT (L.getD k default) f).M _).getD [])
                 rw [hpq]
                 rfl)
          · have hpq : pget (insT (L.getD k default) f).M (i : Nat) = none := pget_no (fun q hq e => hc q hq (by rw [e]))
            have he0 : (({ data := #[] } : ByteArray)).size = 0 := rfl
            repeat' (first | (fail_if_success (with_reducible refine xstp ?_)); first | ((with_reducible refine And.intro (fun (hb : _ = true) => ?_) (fun (hb : _ = false) => ?_)) <;> replace hb := xnC hb <;> (try first | exact xfC | exact bff hb (by assumption) | exact bff (by assumption) hb)) | (with_reducible refine Both.mk ?_ ?_) | ((with_reducible refine And.intro ?_ ?_); focus exact xoC) | ((with_reducible refine Or.inl ⟨?_, ?_, ?_⟩); (focus rfl); focus exact xaC) | ((with_reducible refine xwB ?_ ?_); focus exact xaC) | ((with_reducible refine xwC ?_ ?_); focus exact xaC) | ((with_reducible refine xwD ?_ ?_); focus exact xaC) | ((with_reducible refine xwE ?_ ?_); focus exact xaC) | (with_reducible intro hc; (try simp only [capsP, and_true] at hc); (try exact xfC)) | ((fail_if_success (with_reducible first | refine xgon ?_ | intro _)); (conv => whnf); (fail_if_success (fail_if_success (with_reducible first | refine xstp ?_ | refine Both.mk ?_ ?_ | refine xgon ?_ | intro _)))))
            rw [show ({ data := #[] } : ByteArray) = mkS [] from rfl, mkS_append]
            refine ⟨⟨i + 1, by omega⟩, [0, 1, 2, 3, 4, 5, 6, 7, 8], by simp only; omega, ?_⟩
            (repeat' first | refine And.intro ?_ ?_ | exact xeC | fail)
            all_goals first
              | (exact xmC)
              | (rw [outS_succ, hpq]
                 rfl)
        · obtain rfl : i = f.ct.toNat := by omega
          refine FinK.mk ⟨[0, 1, 2, 3, 4, 7, 8, 3, 4], _, asmA mo [] (cutL L k) (remD dn (fr, f.id)) c2 c3, ⟨[], c2, c3, by simp, by simp, rfl, rfl⟩, ?_⟩
          (repeat' first | refine And.intro ?_ ?_ | exact xeC | fail)
          all_goals first
            | exact fun x => le_tx_cut rfl hA.nd hk
            | exact fun x => le_pa_cut hA.nd hk
            | (exact xmC)
            | simp
  · rw [resF_none hf]
    have hadd0 := addA_none (mo := mo) (N := N) (dn := dn) hok hf
    refine rH15qC1 ?_
    repeat' (first | (fail_if_success (with_reducible refine xstp ?_)); first | ((with_reducible refine And.intro (fun (hb : _ = true) => ?_) (fun (hb : _ = false) => ?_)) <;> replace hb := xnC hb <;> (try first | exact xfC | exact bff hb (by assumption) | exact bff (by assumption) hb)) | (with_reducible refine Both.mk ?_ ?_) | ((with_reducible refine And.intro ?_ ?_); focus exact xoC) | ((with_reducible refine Or.inl ⟨?_, ?_, ?_⟩); (focus rfl); focus exact xaC) | ((with_reducible refine xwB ?_ ?_); focus exact xaC) | ((with_reducible refine xwC ?_ ?_); focus exact xaC) | ((with_reducible refine xwD ?_ ?_); focus exact xaC) | ((with_reducible refine xwE ?_ ?_); focus exact xaC) | (with_reducible intro hc; (try simp only [capsP, and_true] at hc); (try exact xfC)) | ((fail_if_success (with_reducible first | refine xgon ?_ | intro _)); (conv => whnf); (fail_if_success (fail_if_success (with_reducible first | refine xstp ?_ | refine Both.mk ?_ ?_ | refine xgon ?_ | intro _)))))
    refine cH15qC3 (σ := [.whole 0, .name 1, .whole 2]) (nl := []) (ccompleted mo J.length L.length c dn cd (fr, f.id) (by omega)) ?_
    rintro v h' ⟨rfl, rfl⟩ hcaps
    refine rH15qC2 ?_
    repeat' (first | (fail_if_success (with_reducible refine xstp ?_)); first | ((with_reducible refine And.intro (fun (hb : _ = true) => ?_) (fun (hb : _ = false) => ?_)) <;> replace hb := xnC hb <;> (try first | exact xfC | exact bff hb (by assumption) | exact bff (by assumption) hb)) | (with_reducible refine Both.mk ?_ ?_) | ((with_reducible refine And.intro ?_ ?_); focus exact xoC) | ((with_reducible refine Or.inl ⟨?_, ?_, ?_⟩); (focus rfl); focus exact xaC) | ((with_reducible refine xwB ?_ ?_); focus exact xaC) | ((with_reducible refine xwC ?_ ?_); focus exact xaC) | ((with_reducible refine xwD ?_ ?_); focus exact xaC) | ((with_reducible refine xwE ?_ ?_); focus exact xaC) | (with_reducible intro hc; (try simp only [capsP, and_true] at hc); (try exact xfC)) | ((fail_if_success (with_reducible first | refine xgon ?_ | intro _)); (conv => whnf); (fail_if_success (fail_if_success (with_reducible first | refine xstp ?_ | refine Both.mk ?_ ?_ | refine xgon ?_ | intro _)))))
    · skip
      have hadd : addA mo N L dn fr f = (L, dn, [], false, 0) := by rw [hadd0, if_pos hb]
      rw [hadd]
      refine FinK.mk ⟨[0, 1, 2, 3, 4, 1, 2, 3, 4], _, _, ⟨J, c, cd, fun j hj => Nat.lt_succ_of_lt (hA.jN j hj), hA.jl, rfl, rfl⟩, ?_⟩
      (repeat' first | refine And.intro ?_ ?_ | exact xeC | fail)
      all_goals (exact xmC)
    all_goals rw [if_neg (by assumption)] at hadd0
    · rename_i c2 _ _
      rw [if_pos (by omega), if_pos (by omega)] at hadd0
      rw [hadd0]
      have h0L : 0 < L.length := by omega
      have eids : idsOf L = (L.getD 0 default).id :: idsOf (L.drop 1) := by
        cases L with
        | nil => simp at h0L
        | cons a l => rfl
      have huN1 : ∀ u ∈ L.drop 1, u.id ≠ N := fun u hu => huN u (List.mem_of_mem_drop hu)
      refine FinK.mk ⟨[0, 1, 2, 3, 4, 10, 2, .adopt 3 N 8, .adopt 4 N 7], _, asmA mo [(L.getD 0 default).id] (L.drop 1 ++ [newT N fr f]) dn (c2 - 1) cd, ⟨[(L.getD 0 default).id], c2 - 1, cd, fun j hj => by
        rw [List.mem_singleton.1 hj]
        have := hA.idN (L.getD 0 default) (by rw [getD_at h0L]; exact List.getElem_mem _)
        omega, by simp, rfl, rfl⟩, ?_⟩
      (repeat' first | refine And.intro ?_ ?_ | exact xeC | fail)
      all_goals first
        | (simp; omega)
        | (simp [idsOf]; omega)
        | (intro i hi
           have had := adopt_ids (σ := [0, 1, 2, 3, 4, 10, 2, .adopt 3 N 8, .adopt 4 N 7]) (N := N) (J := J) (ids := idsOf L) (ids' := [(L.getD 0 default).id] ++ idsOf (L.drop 1 ++ [newT N fr f])) (fun x => by simp [key]) hidN (by rw [eids]; simp [idsOf, newT]) (chunkOf 1 [.p 8 0 0]) rfl i hi
           rw [hil] at had
           exact had)
        | (intro x hx
           show Ck.leK _ (txG 4 x L x) (Ck.rk _ _ (txG 8 x (L.drop 1 ++ [newT N fr f]) x)) True
           rw [txG_ne (by exact hx)]
           exact le_tx_cut (k := 0) (by simp [key, hx]) hA.nd h0L)
        | (intro x hx
           show Ck.leK _ (paO L x) (Ck.rk _ _ (paO (L.drop 1 ++ [newT N fr f]) x)) True
           rw [paO_ne (by exact hx)]
           exact le_pa_drop hA.nd h0L)
        | (exact xmC)
        | skip
      refine le_tx_new huN1 (by simp [key]) rfl ?_
      (repeat' first | refine And.intro ?_ ?_ | exact xeC | fail)
      all_goals first
        | (intro x hx
           show Ck.leK _ (paO L x) (Ck.rk _ _ (paO (L.drop 1 ++ [newT N fr f]) x)) True
           rw [paO_ne (by exact hx)]
           exact le_pa_drop hA.nd h0L)
        | skip
      refine le_pa_new huN1 rfl rfl ?_
      (repeat' first | refine And.intro ?_ ?_ | exact xeC | fail)
      all_goals (exact xmC)
    · rename_i c2 _ _
      rw [if_pos (by omega), if_neg (by omega)] at hadd0
      rw [hadd0]
      refine FinK.mk ⟨[0, 1, 2, 3, 4, 10, 2, .adopt 3 N 8, .adopt 4 N 7], _, asmA mo [] (L ++ [newT N fr f]) dn c2 cd, ⟨[], c2, cd, by simp, by simp, rfl, rfl⟩, ?_⟩
      (repeat' first | refine And.intro ?_ ?_ | exact xeC | fail)
      all_goals first
        | (simp; done)
        | (simp [idsOf]; done)
        | (intro i hi
           have had := adopt_ids (σ := [0, 1, 2, 3, 4, 10, 2, .adopt 3 N 8, .adopt 4 N 7]) (N := N) (J := J) (ids := idsOf L) (ids' := [] ++ idsOf (L ++ [newT N fr f])) (fun x => by simp [key]) hidN (by simp [idsOf, newT]) (chunkOf 1 [.p 8 0 0]) rfl i hi
           rw [hil] at had
           exact had)
        | (intro x hx
           show Ck.leK _ (txG 4 x L x) (Ck.rk _ _ (txG 8 x (L ++ [newT N fr f]) x)) True
           rw [txG_ne (by exact hx)]
           exact mtO_le (by simp [key, hx]))
        | (intro x hx
           show Ck.leK _ (paO L x) (Ck.rk _ _ (paO (L ++ [newT N fr f]) x)) True
           rw [paO_ne (by exact hx)]
           exact winO_le)
        | (exact xmC)
        | skip
      refine le_tx_new huN (by simp [key]) rfl ?_
      (repeat' first | refine And.intro ?_ ?_ | exact xeC | fail)
      · intro x hx
        show Ck.leK _ (paO L x) (Ck.rk _ _ (paO (L ++ [newT N fr f]) x)) True
        rw [paO_ne (by exact hx)]
        exact winO_le
      refine le_pa_new huN rfl rfl ?_
      (repeat' first | refine And.intro ?_ ?_ | exact xeC | fail)
      all_goals (exact xmC)
    · rw [if_neg (by omega)] at hadd0
      rw [hadd0]
      rename_i c2
      have e0 : ((L.length : Int)).toNat + (L.length + 1 - ((L.length : Int) + 1).toNat) = L.length := by omega
      rw [e0]
      refine cH15qC3 (σ := [.whole 0, .name 11, .whole 2]) (nl := []) (cremember mo 0 L.length c2 dn cd (fr, f.id) (by omega)) ?_
      rintro v h' ⟨c3, rfl, rfl⟩ hcaps
      refine rH15qC2 ?_
      repeat' (first | (fail_if_success (with_reducible refine xstp ?_)); first | ((with_reducible refine And.intro (fun (hb : _ = true) => ?_) (fun (hb : _ = false) => ?_)) <;> replace hb := xnC hb <;> (try first | exact xfC | exact bff hb (by assumption) | exact bff (by assumption) hb)) | (with_reducible refine Both.mk ?_ ?_) | ((with_reducible refine And.intro ?_ ?_); focus exact xoC) | ((with_reducible refine Or.inl ⟨?_, ?_, ?_⟩); (focus rfl); focus exact xaC) | ((with_reducible refine xwB ?_ ?_); focus exact xaC) | ((with_reducible refine xwC ?_ ?_); focus exact xaC) | ((with_reducible refine xwD ?_ ?_); focus exact xaC) | ((with_reducible refine xwE ?_ ?_); focus exact xaC) | (with_reducible intro hc; (try simp only [capsP, and_true] at hc); (try exact xfC)) | ((fail_if_success (with_reducible first | refine xgon ?_ | intro _)); (conv => whnf); (fail_if_success (fail_if_success (with_reducible first | refine xstp ?_ | refine Both.mk ?_ ?_ | refine xgon ?_ | intro _)))))
      have hct1 : f.ct = 1 := by omega
      have hix : f.ix = 0 := by omega
      have hml : ∀ i, (mkS (if i = 0 then [] else f.d)).size ≤ 4000 := by
        intro i
        split
        · exact Nat.zero_le _
        · exact hokf.2.2.2
      refine LoopK.mk' {i : Nat // (i : Int) ≤ f.ct}
        (fun ⟨i, _⟩ => ⟨[(11, .c (.p 8 0 0)), (14, .c (.s (mkS (if i = 0 then [] else f.d)))), (152, .c (.i .i64 f.ct)), (153, .c (.i .i64 (i : Nat)))],
          [.one (asm mo 11 12 0 L.length c2 (remD dn (fr, f.id)).length c3), .one .no, .one .no, .many (fun x => txG 4 x L x), .many (paO L), .one .no, .one .no, .one (.map true false 1 1 fun _ => (0, Key.i f.ix, E.c (C.s (mkS f.d)))), .one (.cells true [.i .i64 fr, .i .i64 f.id, .i .i64 f.ct, .mp 7 0]), .one .no, .one .no, .one (opnR 3 (idsOf L) c2), .one (donR (remD dn (fr, f.id)) c3)]⟩) (fun i => f.ct.toNat - i.1)
        ⟨⟨0, by omega⟩, [0, 1, 2, 3, 4, 5, 6, 7, 8, 9, 10, 11, 12], ?_⟩ ?_
      · (repeat' first | refine And.intro ?_ ?_ | exact xeC | fail)
        all_goals first
          | omega
          | (exact xmC)
          | (intro i hi
             have hi : i < L.length := by omega
             simp [appF, hi, rowOf, encId, List.getD, List.getElem?_append_right]
             rfl)
          | (intro i hi
             obtain rfl : i = 0 := by omega
             rfl)
          | skip
      rintro ⟨i, hi⟩
      have hoz := hml i
      repeat' (first | (fail_if_success (with_reducible refine xstp ?_)); first | ((with_reducible refine And.intro (fun (hb : _ = true) => ?_) (fun (hb : _ = false) => ?_)) <;> replace hb := xnC hb <;> (try first | exact xfC | exact bff hb (by assumption) | exact bff (by assumption) hb)) | (with_reducible refine Both.mk ?_ ?_) | ((with_reducible refine And.intro ?_ ?_); focus exact xoC) | ((with_reducible refine Or.inl ⟨?_, ?_, ?_⟩); (focus rfl); focus exact xaC) | ((with_reducible refine xwB ?_ ?_); focus exact xaC) | ((with_reducible refine xwC ?_ ?_); focus exact xaC) | ((with_reducible refine xwD ?_ ?_); focus exact xaC) | ((with_reducible refine xwE ?_ ?_); focus exact xaC) | (with_reducible intro hc; (try simp only [capsP, and_true] at hc); (try exact xfC)) | ((fail_if_success (with_reducible first | refine xgon ?_ | intro _)); (conv => whnf); (fail_if_success (fail_if_success (with_reducible first | refine xstp ?_ | refine Both.mk ?_ ?_ | refine xgon ?_ | intro _)))))
      · have hi0 : i = 0 := by omega
        subst hi0
        rename_i q hq
        repeat' (first | (fail_if_success (with_reducible refine xstp ?_)); first | ((with_reducible refine And.intro (fun (hb : _ = true) => ?_) (fun (hb : _ = false) => ?_)) <;> replace hb := xnC hb <;> (try first | exact xfC | exact bff hb (by assumption) | exact bff (by assumption) hb)) | (with_reducible refine Both.mk ?_ ?_) | ((with_reducible refine And.intro ?_ ?_); focus exact xoC) | ((with_reducible refine Or.inl ⟨?_, ?_, ?_⟩); (focus rfl); focus exact xaC) | ((with_reducible refine xwB ?_ ?_); focus exact xaC) | ((with_reducible refine xwC ?_ ?_); focus exact xaC) | ((with_reducible refine xwD ?_ ?_); focus exact xaC) | ((with_reducible refine xwE ?_ ?_); focus exact xaC) | (with_reducible intro hc; (try simp only [capsP, and_true] at hc); (try exact xfC)) | ((fail_if_success (with_reducible first | refine xgon ?_ | intro _)); (conv => whnf); (fail_if_success (fail_if_success (with_reducible first | refine xstp ?_ | refine Both.mk ?_ ?_ | refine xgon ?_ | intro _)))))
        rw [mkS_append]
        refine ⟨⟨1, by omega⟩, [0, 1, 2, 3, 4, 5, 6, 7, 8, 9, 10, 11, 12], by simp only; omega, ?_⟩
        (repeat' first | refine And.intro ?_ ?_ | exact xeC | fail)
        all_goals (exact xmC)
      · exfalso
        exact hc 0 (by omega) (by show Key.i f.ix = _; rw [hix, show i = 0 by omega]; rfl)
      · have hi1 : i = 1 := by omega
        subst hi1
        refine FinK.mk ⟨[0, 1, 2, 3, 4, 11, 12, 3, 4], _, asmA mo [] L (remD dn (fr, f.id)) c2 c3, ⟨[], c2, c3, by simp, by simp, rfl, rfl⟩, ?_⟩
        (repeat' first | refine And.intro ?_ ?_ | exact xeC | fail)
        all_goals first | (exact xmC) | simp
end Go.Proofs.Ytgaodeffbgppmaa


namespace Go.Proofs.Ytgaodeffbgppmaa
open Go.X
set_option linter.unusedSimpArgs false
set_option linter.unusedVariables false
open P4
open P5
def frmL (f : Fg) : List UInt8 := venc f.id.toNat ++ (venc f.ix.toNat ++ (venc f.ct.toNat ++ textL f.d))
def frameL (f : Fg) : List UInt8 := if okF f then sealL (frmL f) else []
def fg0 : Fg := ⟨0, 0, 0, []⟩
def unfF (s : ByteArray) : Fg × Nat × Nat :=
  let a := rdS s 0 0 1099511627776
  let b := rdS s a.2.1 a.2.2 64
  let c := rdS s b.2.1 b.2.2 64
  let d := rdT s c.2.1 c.2.2 4000
  (⟨a.1, b.1, c.1, d.1⟩, d.2)
def unfS (s : ByteArray) : Fg × Nat :=
  if endV s (unfF s).2.1 (unfF s).2.2 ≠ 0 then (fg0, endV s (unfF s).2.1 (unfF s).2.2) else if ¬ okF (unfF s).1 then (fg0, 4) else ((unfF s).1, 0)
def unf (l : List UInt8) : Fg × Nat := if (openL l).2 ≠ 0 then (fg0, (openL l).2) else unfS (mkS (openL l).1)
theorem unfS_of {s : ByteArray} {x : Fg} {a e : Nat} (h : unfF s = (x, a, e)) : unfS s = if endV s a e ≠ 0 then (fg0, endV s a e) else if ¬ okF x then (fg0, 4) else (x, 0) := by
  unfold unfS; rw [h]
theorem openL_le (l : List UInt8) : (openL l).1.length ≤ l.length := by
  unfold openL
  repeat' split
  all_goals simp

theorem rH15rA0 {σ : List Sg} {H h' : List Fam} {v : T} {K : T → List Fam → Prop} {H' : List Fam} {v' : T} {N : Nat} (hk : K v' H') (hN : H.length = N := by (try simp only [↓List.length_cons, ↓List.length_nil, Nat.reduceAdd]) <;> rfl) (h : givesF σ N H σ h' = some H' := by (try simp (maxSteps := 1000000) only [givesF, setF, updF, Fam.zeroth, Fam.rk, Ck.rk, C.rk, E.rk, T.rk, key, List.map_cons, List.map_nil, List.cons_append, List.nil_append, List.length_cons, List.length_nil, Option.map_some, Option.bind_some, Nat.reduceAdd, Nat.zero_add, Nat.add_zero, Nat.add_sub_cancel_left, Int.toNat_natCast, reps, List.all_cons, List.all_nil, C.flat, List.append_eq, Bool.not_true, Bool.and_true, Bool.or_false, Bool.or_self, Bool.not_false, List.append_nil, Bool.and_self, encG]) <;> rfl) (hv : v.rk σ N = v' := by (try simp only [givesF, setF, updF, Fam.zeroth, Fam.rk, Ck.rk, C.rk, E.rk, T.rk, key, List.map_cons, List.map_nil, List.cons_append, List.nil_append, List.length_cons, List.length_nil, Option.map_some, Option.bind_some, Nat.reduceAdd, Nat.zero_add, Nat.add_zero, Nat.add_sub_cancel_left, Int.toNat_natCast, reps, List.all_cons, List.all_nil, C.flat, List.append_eq, Bool.not_true, Bool.and_true, Bool.or_false, Bool.or_self, Bool.not_false, List.append_nil, Bool.and_self, encG]) <;> rfl) : RetG σ H h' v K := ret_mk3 hN h hv hk
set_option maxRecDepth 10000 in
theorem cFrame (f : Fg) (hd : f.d.length ≤ 1000000) :
    Ctr Try.prog 27 [.a (encG f)] [] fun v h => v = .c (.s (mkS (frameL f))) ∧ h = [] := by
  refine Ctr.mk' tbv mixed Try.func27 rfl rfl rfl (fun _ _ => by kernel_rfl) (by kernel_rfl) (by rfl) (by rfl) (by (repeat' first | refine And.intro ?_ ?_ | exact xeC | fail)) ?_
  repeat' (first | (fail_if_success (with_reducible refine xstp ?_)); first | ((with_reducible refine And.intro (fun (hb : _ = true) => ?_) (fun (hb : _ = false) => ?_)) <;> replace hb := xnC hb <;> (try first | exact xfC | exact bff hb (by assumption) | exact bff (by assumption) hb)) | (with_reducible refine Both.mk ?_ ?_) | ((with_reducible refine And.intro ?_ ?_); focus exact xoC) | ((with_reducible refine Or.inl ⟨?_, ?_, ?_⟩); (focus rfl); focus exact xaC) | ((with_reducible refine xwB ?_ ?_); focus exact xaC) | ((with_reducible refine xwC ?_ ?_); focus exact xaC) | ((with_reducible refine xwD ?_ ?_); focus exact xaC) | ((with_reducible refine xwE ?_ ?_); focus exact xaC) | (with_reducible intro hc; (try simp only [capsP, and_true] at hc); (try exact xfC)) | ((fail_if_success (with_reducible first | refine xgon ?_ | intro _)); (conv => whnf); (fail_if_success (fail_if_success (with_reducible first | refine xstp ?_ | refine Both.mk ?_ ?_ | refine xgon ?_ | intro _)))))
  refine xcal (σ := []) (nl := []) (cvalid f) ?_
  rintro v h' ⟨rfl, rfl⟩ hcaps
  refine rH15rA0 ?_
  repeat' (first | (fail_if_success (with_reducible refine xstp ?_)); first | ((with_reducible refine And.intro (fun (hb : _ = true) => ?_) (fun (hb : _ = false) => ?_)) <;> replace hb := xnC hb <;> (try first | exact xfC | exact bff hb (by assumption) | exact bff (by assumption) hb)) | (with_reducible refine Both.mk ?_ ?_) | ((with_reducible refine And.intro ?_ ?_); focus exact xoC) | ((with_reducible refine Or.inl ⟨?_, ?_, ?_⟩); (focus rfl); focus exact xaC) | ((with_reducible refine xwB ?_ ?_); focus exact xaC) | ((with_reducible refine xwC ?_ ?_); focus exact xaC) | ((with_reducible refine xwD ?_ ?_); focus exact xaC) | ((with_reducible refine xwE ?_ ?_); focus exact xaC) | (with_reducible intro hc; (try simp only [capsP, and_true] at hc); (try exact xfC)) | ((fail_if_success (with_reducible first | refine xgon ?_ | intro _)); (conv => whnf); (fail_if_success (fail_if_success (with_reducible first | refine xstp ?_ | refine Both.mk ?_ ?_ | refine xgon ?_ | intro _)))))
  · rw [show frameL f = [] from if_neg hb]
    refine FinK.mk ⟨[], _, _, ⟨rfl, rfl⟩, ?_⟩; (repeat' first | refine And.intro ?_ ?_ | exact xeC | fail)
  have hok := hb
  unfold okF at hok
  have h1 := venc_le f.id.toNat
  have h2 := venc_le f.ix.toNat
  have h3 := venc_le f.ct.toNat
  have h4 := venc_le f.d.length
  have z1 : (mkS (venc f.id.toNat)).size = (venc f.id.toNat).length := rfl
  have z2 : (mkS (venc f.ix.toNat)).size = (venc f.ix.toNat).length := rfl
  have z3 : (mkS (venc f.ct.toNat)).size = (venc f.ct.toNat).length := rfl
  have z4 : (mkS (textL f.d)).size = (venc f.d.length).length + f.d.length := by rw [mkS_size, textL, List.length_append]
  have z12 : (mkS (venc f.id.toNat) ++ mkS (venc f.ix.toNat)).size = (venc f.id.toNat).length + (venc f.ix.toNat).length := by rw [mkS_append, mkS_size, List.length_append]
  have z123 : (mkS (venc f.id.toNat) ++ mkS (venc f.ix.toNat) ++ mkS (venc f.ct.toNat)).size = (venc f.id.toNat).length + (venc f.ix.toNat).length + (venc f.ct.toNat).length := by rw [mkS_append, mkS_append, mkS_size, List.length_append, List.length_append]
  rw [u64nn (by omega) (by omega)]
  refine xcal (σ := []) (nl := []) (cUint (f.id).toNat (by omega)) ?_
  rintro v h' ⟨rfl, rfl⟩ hcaps
  refine rH15rA0 ?_
  repeat' (first | (fail_if_success (with_reducible refine xstp ?_)); first | ((with_reducible refine And.intro (fun (hb : _ = true) => ?_) (fun (hb : _ = false) => ?_)) <;> replace hb := xnC hb <;> (try first | exact xfC | exact bff hb (by assumption) | exact bff (by assumption) hb)) | (with_reducible refine Both.mk ?_ ?_) | ((with_reducible refine And.intro ?_ ?_); focus exact xoC) | ((with_reducible refine Or.inl ⟨?_, ?_, ?_⟩); (focus rfl); focus exact xaC) | ((with_reducible refine xwB ?_ ?_); focus exact xaC) | ((with_reducible refine xwC ?_ ?_); focus exact xaC) | ((with_reducible refine xwD ?_ ?_); focus exact xaC) | ((with_reducible refine xwE ?_ ?_); focus exact xaC) | (with_reducible intro hc; (try simp only [capsP, and_true] at hc); (try exact xfC)) | ((fail_if_success (with_reducible first | refine xgon ?_ | intro _)); (conv => whnf); (fail_if_success (fail_if_success (with_reducible first | refine xstp ?_ | refine Both.mk ?_ ?_ | refine xgon ?_ | intro _)))))
  rw [u64nn (by omega) (by omega)]
  refine xcal (σ := []) (nl := []) (cUint (f.ix).toNat (by omega)) ?_
  rintro v h' ⟨rfl, rfl⟩ hcaps
  refine rH15rA0 ?_
  repeat' (first | (fail_if_success (with_reducible refine xstp ?_)); first | ((with_reducible refine And.intro (fun (hb : _ = true) => ?_) (fun (hb : _ = false) => ?_)) <;> replace hb := xnC hb <;> (try first | exact xfC | exact bff hb (by assumption) | exact bff (by assumption) hb)) | (with_reducible refine Both.mk ?_ ?_) | ((with_reducible refine And.intro ?_ ?_); focus exact xoC) | ((with_reducible refine Or.inl ⟨?_, ?_, ?_⟩); (focus rfl); focus exact xaC) | ((with_reducible refine xwB ?_ ?_); focus exact xaC) | ((with_reducible refine xwC ?_ ?_); focus exact xaC) | ((with_reducible refine xwD ?_ ?_); focus exact xaC) | ((with_reducible refine xwE ?_ ?_); focus exact xaC) | (with_reducible intro hc; (try simp only [capsP, and_true] at hc); (try exact xfC)) | ((fail_if_success (with_reducible first | refine xgon ?_ | intro _)); (conv => whnf); (fail_if_success (fail_if_success (with_reducible first | refine xstp ?_ | refine Both.mk ?_ ?_ | refine xgon ?_ | intro _)))))
  rw [u64nn (by omega) (by omega)]
  refine xcal (σ := []) (nl := []) (cUint (f.ct).toNat (by omega)) ?_
  rintro v h' ⟨rfl, rfl⟩ hcaps
  refine rH15rA0 ?_
  repeat' (first | (fail_if_success (with_reducible refine xstp ?_)); first | ((with_reducible refine And.intro (fun (hb : _ = true) => ?_) (fun (hb : _ = false) => ?_)) <;> replace hb := xnC hb <;> (try first | exact xfC | exact bff hb (by assumption) | exact bff (by assumption) hb)) | (with_reducible refine Both.mk ?_ ?_) | ((with_reducible refine And.intro ?_ ?_); focus exact xoC) | ((with_reducible refine Or.inl ⟨?_, ?_, ?_⟩); (focus rfl); focus exact xaC) | ((with_reducible refine xwB ?_ ?_); focus exact xaC) | ((with_reducible refine xwC ?_ ?_); focus exact xaC) | ((with_reducible refine xwD ?_ ?_); focus exact xaC) | ((with_reducible refine xwE ?_ ?_); focus exact xaC) | (with_reducible intro hc; (try simp only [capsP, and_true] at hc); (try exact xfC)) | ((fail_if_success (with_reducible first | refine xgon ?_ | intro _)); (conv => whnf); (fail_if_success (fail_if_success (with_reducible first | refine xstp ?_ | refine Both.mk ?_ ?_ | refine xgon ?_ | intro _)))))
  refine xcal (σ := []) (nl := []) (cText f.d (by omega)) ?_
  rintro v h' ⟨rfl, rfl⟩ hcaps
  refine rH15rA0 ?_
  repeat' (first | (fail_if_success (with_reducible refine xstp ?_)); first | ((with_reducible refine And.intro (fun (hb : _ = true) => ?_) (fun (hb : _ = false) => ?_)) <;> replace hb := xnC hb <;> (try first | exact xfC | exact bff hb (by assumption) | exact bff (by assumption) hb)) | (with_reducible refine Both.mk ?_ ?_) | ((with_reducible refine And.intro ?_ ?_); focus exact xoC) | ((with_reducible refine Or.inl ⟨?_, ?_, ?_⟩); (focus rfl); focus exact xaC) | ((with_reducible refine xwB ?_ ?_); focus exact xaC) | ((with_reducible refine xwC ?_ ?_); focus exact xaC) | ((with_reducible refine xwD ?_ ?_); focus exact xaC) | ((with_reducible refine xwE ?_ ?_); focus exact xaC) | (with_reducible intro hc; (try simp only [capsP, and_true] at hc); (try exact xfC)) | ((fail_if_success (with_reducible first | refine xgon ?_ | intro _)); (conv => whnf); (fail_if_success (fail_if_success (with_reducible first | refine xstp ?_ | refine Both.mk ?_ ?_ | refine xgon ?_ | intro _)))))
  rw [mkS_append, mkS_append, mkS_append]
  have z5 : (mkS (venc f.id.toNat ++ venc f.ix.toNat ++ venc f.ct.toNat ++ textL f.d)).size ≤ 1000100 := by
    rw [mkS_size, textL]; simp only [List.length_append]; omega
  refine xcal (σ := []) (nl := []) (cSeal (mkS (venc f.id.toNat ++ venc f.ix.toNat ++ venc f.ct.toNat ++ textL f.d)) (by omega)) ?_
  rintro v h' ⟨rfl, rfl⟩ hcaps
  refine rH15rA0 ?_
  repeat' (first | (fail_if_success (with_reducible refine xstp ?_)); first | ((with_reducible refine And.intro (fun (hb : _ = true) => ?_) (fun (hb : _ = false) => ?_)) <;> replace hb := xnC hb <;> (try first | exact xfC | exact bff hb (by assumption) | exact bff (by assumption) hb)) | (with_reducible refine Both.mk ?_ ?_) | ((with_reducible refine And.intro ?_ ?_); focus exact xoC) | ((with_reducible refine Or.inl ⟨?_, ?_, ?_⟩); (focus rfl); focus exact xaC) | ((with_reducible refine xwB ?_ ?_); focus exact xaC) | ((with_reducible refine xwC ?_ ?_); focus exact xaC) | ((with_reducible refine xwD ?_ ?_); focus exact xaC) | ((with_reducible refine xwE ?_ ?_); focus exact xaC) | (with_reducible intro hc; (try simp only [capsP, and_true] at hc); (try exact xfC)) | ((fail_if_success (with_reducible first | refine xgon ?_ | intro _)); (conv => whnf); (fail_if_success (fail_if_success (with_reducible first | refine xstp ?_ | refine Both.mk ?_ ?_ | refine xgon ?_ | intro _)))))
  rw [mkS_list, show frameL f = sealL (venc f.id.toNat ++ venc f.ix.toNat ++ venc f.ct.toNat ++ textL f.d) by rw [frameL, if_pos hb, frmL]; simp only [List.append_assoc]]
  refine FinK.mk ⟨[], _, _, ⟨rfl, rfl⟩, ?_⟩; (repeat' first | refine And.intro ?_ ?_ | exact xeC | fail)

set_option maxRecDepth 10000 in
theorem cUnframe (l : List UInt8) (hl : l.length ≤ 1000000) :
    Ctr Try.prog 25 [.c (.s (mkS l))] [] fun v h => v = .t [.a (encG (unf l).1), .c (.i .i64 ((unf l).2 : Nat))] ∧ h = [] := by
  refine Ctr.mk' tbv mixed Try.func25 rfl rfl rfl (fun _ _ => by kernel_rfl) (by kernel_rfl) (by rfl) (by rfl) (by (repeat' first | refine And.intro ?_ ?_ | exact xeC | fail)) ?_
  repeat' (first | (fail_if_success (with_reducible refine xstp ?_)); first | ((with_reducible refine And.intro (fun (hb : _ = true) => ?_) (fun (hb : _ = false) => ?_)) <;> replace hb := xnC hb <;> (try first | exact xfC | exact bff hb (by assumption) | exact bff (by assumption) hb)) | (with_reducible refine Both.mk ?_ ?_) | ((with_reducible refine And.intro ?_ ?_); focus exact xoC) | ((with_reducible refine Or.inl ⟨?_, ?_, ?_⟩); (focus rfl); focus exact xaC) | ((with_reducible refine xwB ?_ ?_); focus exact xaC) | ((with_reducible refine xwC ?_ ?_); focus exact xaC) | ((with_reducible refine xwD ?_ ?_); focus exact xaC) | ((with_reducible refine xwE ?_ ?_); focus exact xaC) | (with_reducible intro hc; (try simp only [capsP, and_true] at hc); (try exact xfC)) | ((fail_if_success (with_reducible first | refine xgon ?_ | intro _)); (conv => whnf); (fail_if_success (fail_if_success (with_reducible first | refine xstp ?_ | refine Both.mk ?_ ?_ | refine xgon ?_ | intro _)))))
  refine xcal (σ := []) (nl := []) (cOpen l (by omega)) ?_
  rintro v h' ⟨rfl, rfl⟩ hcaps
  refine rH15rA0 ?_
  repeat' (first | (fail_if_success (with_reducible refine xstp ?_)); first | ((with_reducible refine And.intro (fun (hb : _ = true) => ?_) (fun (hb : _ = false) => ?_)) <;> replace hb := xnC hb <;> (try first | exact xfC | exact bff hb (by assumption) | exact bff (by assumption) hb)) | (with_reducible refine Both.mk ?_ ?_) | ((with_reducible refine And.intro ?_ ?_); focus exact xoC) | ((with_reducible refine Or.inl ⟨?_, ?_, ?_⟩); (focus rfl); focus exact xaC) | ((with_reducible refine xwB ?_ ?_); focus exact xaC) | ((with_reducible refine xwC ?_ ?_); focus exact xaC) | ((with_reducible refine xwD ?_ ?_); focus exact xaC) | ((with_reducible refine xwE ?_ ?_); focus exact xaC) | (with_reducible intro hc; (try simp only [capsP, and_true] at hc); (try exact xfC)) | ((fail_if_success (with_reducible first | refine xgon ?_ | intro _)); (conv => whnf); (fail_if_success (fail_if_success (with_reducible first | refine xstp ?_ | refine Both.mk ?_ ?_ | refine xgon ?_ | intro _)))))
  · rw [show unf l = (fg0, (openL l).2) from if_pos (by omega)]
    refine FinK.mk ⟨[], _, _, ⟨rfl, rfl⟩, ?_⟩; (repeat' first | refine And.intro ?_ ?_ | exact xeC | fail)
  have hu : unf l = unfS (mkS (openL l).1) := if_neg (by omega)
  rw [hu]
  have hs6 : (mkS (openL l).1).size ≤ 1000000 := by have := openL_le l; rw [mkS_size]; omega
  generalize mkS (openL l).1 = s at *
  have hs : s.size ≤ 140737488355328 := by omega
  refine xcal (σ := []) (nl := []) (cNew s) ?_
  rintro v h' ⟨rfl, rfl⟩ hcaps
  refine rH15rA0 ?_
  repeat' (first | (fail_if_success (with_reducible refine xstp ?_)); first | ((with_reducible refine And.intro (fun (hb : _ = true) => ?_) (fun (hb : _ = false) => ?_)) <;> replace hb := xnC hb <;> (try first | exact xfC | exact bff hb (by assumption) | exact bff (by assumption) hb)) | (with_reducible refine Both.mk ?_ ?_) | ((with_reducible refine And.intro ?_ ?_); focus exact xoC) | ((with_reducible refine Or.inl ⟨?_, ?_, ?_⟩); (focus rfl); focus exact xaC) | ((with_reducible refine xwB ?_ ?_); focus exact xaC) | ((with_reducible refine xwC ?_ ?_); focus exact xaC) | ((with_reducible refine xwD ?_ ?_); focus exact xaC) | ((with_reducible refine xwE ?_ ?_); focus exact xaC) | (with_reducible intro hc; (try simp only [capsP, and_true] at hc); (try exact xfC)) | ((fail_if_success (with_reducible first | refine xgon ?_ | intro _)); (conv => whnf); (fail_if_success (fail_if_success (with_reducible first | refine xstp ?_ | refine Both.mk ?_ ?_ | refine xgon ?_ | intro _)))))
  refine xcal (σ := [.whole 1]) (nl := []) (crSmall s (0) (0) 1099511627776 (by omega) hs (by decide)) ?_
  rintro v h' ⟨rfl, rfl⟩ hcaps
  have la := rdS_le (s := s) (a := 0) (e := 0) (m := 1099511627776) (by omega)
  generalize ea : rdS s (0) (0) 1099511627776 = a at *
  refine rH15rA0 ?_
  repeat' (first | (fail_if_success (with_reducible refine xstp ?_)); first | ((with_reducible refine And.intro (fun (hb : _ = true) => ?_) (fun (hb : _ = false) => ?_)) <;> replace hb := xnC hb <;> (try first | exact xfC | exact bff hb (by assumption) | exact bff (by assumption) hb)) | (with_reducible refine Both.mk ?_ ?_) | ((with_reducible refine And.intro ?_ ?_); focus exact xoC) | ((with_reducible refine Or.inl ⟨?_, ?_, ?_⟩); (focus rfl); focus exact xaC) | ((with_reducible refine xwB ?_ ?_); focus exact xaC) | ((with_reducible refine xwC ?_ ?_); focus exact xaC) | ((with_reducible refine xwD ?_ ?_); focus exact xaC) | ((with_reducible refine xwE ?_ ?_); focus exact xaC) | (with_reducible intro hc; (try simp only [capsP, and_true] at hc); (try exact xfC)) | ((fail_if_success (with_reducible first | refine xgon ?_ | intro _)); (conv => whnf); (fail_if_success (fail_if_success (with_reducible first | refine xstp ?_ | refine Both.mk ?_ ?_ | refine xgon ?_ | intro _)))))
  refine xcal (σ := [.whole 1]) (nl := []) (crSmall s (a.2.1) (a.2.2) 64 (by omega) hs (by decide)) ?_
  rintro v h' ⟨rfl, rfl⟩ hcaps
  have lb := rdS_le (s := s) (a := a.2.1) (e := a.2.2) (m := 64) (by omega)
  generalize eb : rdS s (a.2.1) (a.2.2) 64 = b at *
  refine rH15rA0 ?_
  repeat' (first | (fail_if_success (with_reducible refine xstp ?_)); first | ((with_reducible refine And.intro (fun (hb : _ = true) => ?_) (fun (hb : _ = false) => ?_)) <;> replace hb := xnC hb <;> (try first | exact xfC | exact bff hb (by assumption) | exact bff (by assumption) hb)) | (with_reducible refine Both.mk ?_ ?_) | ((with_reducible refine And.intro ?_ ?_); focus exact xoC) | ((with_reducible refine Or.inl ⟨?_, ?_, ?_⟩); (focus rfl); focus exact xaC) | ((with_reducible refine xwB ?_ ?_); focus exact xaC) | ((with_reducible refine xwC ?_ ?_); focus exact xaC) | ((with_reducible refine xwD ?_ ?_); focus exact xaC) | ((with_reducible refine xwE ?_ ?_); focus exact xaC) | (with_reducible intro hc; (try simp only [capsP, and_true] at hc); (try exact xfC)) | ((fail_if_success (with_reducible first | refine xgon ?_ | intro _)); (conv => whnf); (fail_if_success (fail_if_success (with_reducible first | refine xstp ?_ | refine Both.mk ?_ ?_ | refine xgon ?_ | intro _)))))
  refine xcal (σ := [.whole 1]) (nl := []) (crSmall s (b.2.1) (b.2.2) 64 (by omega) hs (by decide)) ?_
  rintro v h' ⟨rfl, rfl⟩ hcaps
  have lc := rdS_le (s := s) (a := b.2.1) (e := b.2.2) (m := 64) (by omega)
  generalize ec : rdS s (b.2.1) (b.2.2) 64 = c at *
  refine rH15rA0 ?_
  repeat' (first | (fail_if_success (with_reducible refine xstp ?_)); first | ((with_reducible refine And.intro (fun (hb : _ = true) => ?_) (fun (hb : _ = false) => ?_)) <;> replace hb := xnC hb <;> (try first | exact xfC | exact bff hb (by assumption) | exact bff (by assumption) hb)) | (with_reducible refine Both.mk ?_ ?_) | ((with_reducible refine And.intro ?_ ?_); focus exact xoC) | ((with_reducible refine Or.inl ⟨?_, ?_, ?_⟩); (focus rfl); focus exact xaC) | ((with_reducible refine xwB ?_ ?_); focus exact xaC) | ((with_reducible refine xwC ?_ ?_); focus exact xaC) | ((with_reducible refine xwD ?_ ?_); focus exact xaC) | ((with_reducible refine xwE ?_ ?_); focus exact xaC) | (with_reducible intro hc; (try simp only [capsP, and_true] at hc); (try exact xfC)) | ((fail_if_success (with_reducible first | refine xgon ?_ | intro _)); (conv => whnf); (fail_if_success (fail_if_success (with_reducible first | refine xstp ?_ | refine Both.mk ?_ ?_ | refine xgon ?_ | intro _)))))
  refine xcal (σ := [.whole 1]) (nl := []) (crText s c.2.1 c.2.2 4000 (by omega) hs (by decide)) ?_
  rintro v h' ⟨rfl, rfl⟩ hcaps
  have lp := rdT_le (s := s) (a := c.2.1) (e := c.2.2) (m := 4000) (by omega)
  have hpl := rdT_len s c.2.1 c.2.2 4000
  generalize ep : rdT s c.2.1 c.2.2 4000 = p at *
  refine rH15rA0 ?_
  repeat' (first | (fail_if_success (with_reducible refine xstp ?_)); first | ((with_reducible refine And.intro (fun (hb : _ = true) => ?_) (fun (hb : _ = false) => ?_)) <;> replace hb := xnC hb <;> (try first | exact xfC | exact bff hb (by assumption) | exact bff (by assumption) hb)) | (with_reducible refine Both.mk ?_ ?_) | ((with_reducible refine And.intro ?_ ?_); focus exact xoC) | ((with_reducible refine Or.inl ⟨?_, ?_, ?_⟩); (focus rfl); focus exact xaC) | ((with_reducible refine xwB ?_ ?_); focus exact xaC) | ((with_reducible refine xwC ?_ ?_); focus exact xaC) | ((with_reducible refine xwD ?_ ?_); focus exact xaC) | ((with_reducible refine xwE ?_ ?_); focus exact xaC) | (with_reducible intro hc; (try simp only [capsP, and_true] at hc); (try exact xfC)) | ((fail_if_success (with_reducible first | refine xgon ?_ | intro _)); (conv => whnf); (fail_if_success (fail_if_success (with_reducible first | refine xstp ?_ | refine Both.mk ?_ ?_ | refine xgon ?_ | intro _)))))
  have hD := unfS_of (s := s) (x := ⟨a.1, b.1, c.1, p.1⟩) (a := p.2.1) (e := p.2.2) (by simp only [unfF, ea, eb, ec, ep])
  refine xcal (σ := [.whole 1]) (nl := []) (cEnd s p.2.1 p.2.2 (by omega) hs) ?_
  rintro v h' ⟨rfl, rfl⟩ hcaps
  generalize endV s p.2.1 p.2.2 = z at *
  refine rH15rA0 ?_
  repeat' (first | (fail_if_success (with_reducible refine xstp ?_)); first | ((with_reducible refine And.intro (fun (hb : _ = true) => ?_) (fun (hb : _ = false) => ?_)) <;> replace hb := xnC hb <;> (try first | exact xfC | exact bff hb (by assumption) | exact bff (by assumption) hb)) | (with_reducible refine Both.mk ?_ ?_) | ((with_reducible refine And.intro ?_ ?_); focus exact xoC) | ((with_reducible refine Or.inl ⟨?_, ?_, ?_⟩); (focus rfl); focus exact xaC) | ((with_reducible refine xwB ?_ ?_); focus exact xaC) | ((with_reducible refine xwC ?_ ?_); focus exact xaC) | ((with_reducible refine xwD ?_ ?_); focus exact xaC) | ((with_reducible refine xwE ?_ ?_); focus exact xaC) | (with_reducible intro hc; (try simp only [capsP, and_true] at hc); (try exact xfC)) | ((fail_if_success (with_reducible first | refine xgon ?_ | intro _)); (conv => whnf); (fail_if_success (fail_if_success (with_reducible first | refine xstp ?_ | refine Both.mk ?_ ?_ | refine xgon ?_ | intro _)))))
  · rw [if_neg (by omega)] at hD
    refine xcal (σ := []) (nl := []) (cvalid ⟨a.1, b.1, c.1, p.1⟩) ?_
    rintro v h' ⟨rfl, rfl⟩ hcaps
    refine rH15rA0 ?_
    repeat' (first | (fail_if_success (with_reducible refine xstp ?_)); first | ((with_reducible refine And.intro (fun (hb : _ = true) => ?_) (fun (hb : _ = false) => ?_)) <;> replace hb := xnC hb <;> (try first | exact xfC | exact bff hb (by assumption) | exact bff (by assumption) hb)) | (with_reducible refine Both.mk ?_ ?_) | ((with_reducible refine And.intro ?_ ?_); focus exact xoC) | ((with_reducible refine Or.inl ⟨?_, ?_, ?_⟩); (focus rfl); focus exact xaC) | ((with_reducible refine xwB ?_ ?_); focus exact xaC) | ((with_reducible refine xwC ?_ ?_); focus exact xaC) | ((with_reducible refine xwD ?_ ?_); focus exact xaC) | ((with_reducible refine xwE ?_ ?_); focus exact xaC) | (with_reducible intro hc; (try simp only [capsP, and_true] at hc); (try exact xfC)) | ((fail_if_success (with_reducible first | refine xgon ?_ | intro _)); (conv => whnf); (fail_if_success (fail_if_success (with_reducible first | refine xstp ?_ | refine Both.mk ?_ ?_ | refine xgon ?_ | intro _)))))
    · rw [if_pos (show ¬ okF ⟨a.1, b.1, c.1, p.1⟩ by assumption)] at hD
      rw [hD]
      refine FinK.mk ⟨[], _, _, ⟨rfl, rfl⟩, ?_⟩; (repeat' first | refine And.intro ?_ ?_ | exact xeC | fail)
    · rw [if_neg (not_not_intro (show okF ⟨a.1, b.1, c.1, p.1⟩ by assumption))] at hD
      rw [hD]
      refine FinK.mk ⟨[], _, _, ⟨rfl, rfl⟩, ?_⟩; (repeat' first | refine And.intro ?_ ?_ | exact xeC | fail)
  · rw [if_pos (by omega)] at hD
    rw [hD]
    refine FinK.mk ⟨[], _, _, ⟨rfl, rfl⟩, ?_⟩; (repeat' first | refine And.intro ?_ ?_ | exact xeC | fail)

end Go.Proofs.Ytgaodeffbgppmaa


namespace Go.Proofs.Ytgaodeffbgppmaa
open Go.X
set_option linter.unusedSimpArgs false
set_option linter.unusedVariables false
open P4
open P5
def aw : Pk := ⟨4, 0, 1, 2, 3, 0, 1, 4, 0, [], []⟩
theorem aok0 {mo : Int} {N : Nat} (h : 1 ≤ mo) (h2 : mo ≤ 256) : AOk mo N [] [] [] := ⟨h, h2, by simp only [List.length_nil]; omega, by simp, by simp [idsOf], by simp, by simp, by simp, by simp, by simp, by simp, by simp, by simp⟩
theorem rH15sA0 {σ : List Sg} {H h' : List Fam} {v : T} {K : T → List Fam → Prop} {H' : List Fam} {v' : T} {N : Nat} (hk : K v' H') (hN : H.length = N := by (try simp only [↓List.length_cons, ↓List.length_nil, Nat.reduceAdd]) <;> rfl) (h : givesF σ N H σ h' = some H' := by (try simp (maxSteps := 1000000) only [givesF, setF, updF, Fam.zeroth, Fam.rk, Ck.rk, C.rk, E.rk, T.rk, key, List.map_cons, List.map_nil, List.cons_append, List.nil_append, List.length_cons, List.length_nil, Option.map_some, Option.bind_some, Nat.reduceAdd, Nat.zero_add, Nat.add_zero, Nat.add_sub_cancel_left, Int.toNat_natCast, reps, List.all_cons, List.all_nil, C.flat, List.append_eq, Bool.not_true, Bool.and_true, Bool.or_false, Bool.or_self, Bool.not_false, List.append_nil, Bool.and_self, ↓mtG_rk, ↓winO_rk, encP]) <;> rfl) (hv : v.rk σ N = v' := by (try simp only [givesF, setF, updF, Fam.zeroth, Fam.rk, Ck.rk, C.rk, E.rk, T.rk, key, List.map_cons, List.map_nil, List.cons_append, List.nil_append, List.length_cons, List.length_nil, Option.map_some, Option.bind_some, Nat.reduceAdd, Nat.zero_add, Nat.add_zero, Nat.add_sub_cancel_left, Int.toNat_natCast, reps, List.all_cons, List.all_nil, C.flat, List.append_eq, Bool.not_true, Bool.and_true, Bool.or_false, Bool.or_self, Bool.not_false, List.append_nil, Bool.and_self, ↓mtG_rk, ↓winO_rk, encP]) <;> rfl) : RetG σ H h' v K := ret_mk3 hN h hv hk
theorem rH15sA1 {σ : List Sg} {H h' : List Fam} {v : T} {K : T → List Fam → Prop} {H' : List Fam} {v' : T} {N : Nat} (hk : K v' H') (hN : H.length = N := by (try simp only [↓List.length_cons, ↓List.length_nil, Nat.reduceAdd]) <;> rfl) (h : givesF σ N H σ h' = some H' := by (try simp (maxSteps := 1000000) only [givesF, setF, updF, Fam.zeroth, Fam.rk, Ck.rk, C.rk, E.rk, T.rk, key, List.map_cons, List.map_nil, List.cons_append, List.nil_append, List.length_cons, List.length_nil, Option.map_some, Option.bind_some, Nat.reduceAdd, Nat.zero_add, Nat.add_zero, Nat.add_sub_cancel_left, Int.toNat_natCast, reps, List.all_cons, List.all_nil, C.flat, List.append_eq, Bool.not_true, Bool.and_true, Bool.or_false, Bool.or_self, Bool.not_false, List.append_nil, Bool.and_self, ↓mtG_rk, ↓winO_rk]) <;> rfl) (hv : v.rk σ N = v' := by (try simp only [givesF, setF, updF, Fam.zeroth, Fam.rk, Ck.rk, C.rk, E.rk, T.rk, key, List.map_cons, List.map_nil, List.cons_append, List.nil_append, List.length_cons, List.length_nil, Option.map_some, Option.bind_some, Nat.reduceAdd, Nat.zero_add, Nat.add_zero, Nat.add_sub_cancel_left, Int.toNat_natCast, reps, List.all_cons, List.all_nil, C.flat, List.append_eq, Bool.not_true, Bool.and_true, Bool.or_false, Bool.or_self, Bool.not_false, List.append_nil, Bool.and_self, ↓mtG_rk, ↓winO_rk]) <;> rfl) : RetG σ H h' v K := ret_mk3 hN h hv hk
theorem rH15sA2 {σ : List Sg} {H h' : List Fam} {v : T} {K : T → List Fam → Prop} {H' : List Fam} {v' : T} {N : Nat} (hk : K v' H') (hN : H.length = N := by (try simp only [↓List.length_cons, ↓List.length_nil, Nat.reduceAdd]) <;> rfl) (h : givesF σ N H σ h' = some H' := by (try simp (maxSteps := 1000000) only [givesF, setF, updF, Fam.zeroth, Fam.rk, Ck.rk, C.rk, E.rk, T.rk, key, List.map_cons, List.map_nil, List.cons_append, List.nil_append, List.length_cons, List.length_nil, Option.map_some, Option.bind_some, Nat.reduceAdd, Nat.zero_add, Nat.add_zero, Nat.add_sub_cancel_left, Int.toNat_natCast, reps, List.all_cons, List.all_nil, C.flat, List.append_eq, Bool.not_true, Bool.and_true, Bool.or_false, Bool.or_self, Bool.not_false, List.append_nil, Bool.and_self, ↓mtG_rk, ↓winO_rk, encG]) <;> rfl) (hv : v.rk σ N = v' := by (try simp only [givesF, setF, updF, Fam.zeroth, Fam.rk, Ck.rk, C.rk, E.rk, T.rk, key, List.map_cons, List.map_nil, List.cons_append, List.nil_append, List.length_cons, List.length_nil, Option.map_some, Option.bind_some, Nat.reduceAdd, Nat.zero_add, Nat.add_zero, Nat.add_sub_cancel_left, Int.toNat_natCast, reps, List.all_cons, List.all_nil, C.flat, List.append_eq, Bool.not_true, Bool.and_true, Bool.or_false, Bool.or_self, Bool.not_false, List.append_nil, Bool.and_self, ↓mtG_rk, ↓winO_rk, encG]) <;> rfl) : RetG σ H h' v K := ret_mk3 hN h hv hk
theorem cH15sA3 {P : Program} {F : Nat} {args : List T} {H : List Fam} {K : T → List Fam → Prop} {σ : List Sg} {nl : List Fam} {args0 : List T} {h0 : List Fam} {Q : T → List Fam → Prop} {H2 H1 : List Fam} {N n : Nat} (hc : Ctr P F args0 h0 Q) (hk : ∀ v h', Q v h' → capsP h' → RetG σ H2 h' v K) (hap : apart σ = true := by rfl) (hnl : nl.all nilB = true := by rfl) (h1 : H ++ nl = H1 := by first | exact List.append_nil _ | ((try simp only [List.cons_append, List.nil_append]) <;> rfl)) (hN : H1.length = N := by (try simp only [↓List.length_cons, ↓List.length_nil, Nat.reduceAdd]) <;> rfl) (hn : H.length = n := by (try simp only [↓List.length_cons, ↓List.length_nil, Nat.reduceAdd]) <;> rfl) (hH : givesF σ N H1 σ h0 = some H2 := by (try simp (maxSteps := 1000000) only [givesF, setF, updF, Fam.zeroth, Fam.rk, Ck.rk, C.rk, E.rk, T.rk, key, List.map_cons, List.map_nil, List.cons_append, List.nil_append, List.length_cons, List.length_nil, Option.map_some, Option.bind_some, Nat.reduceAdd, Nat.zero_add, Nat.add_zero, Nat.add_sub_cancel_left, Int.toNat_natCast, reps, List.all_cons, List.all_nil, C.flat, List.append_eq, Bool.not_true, Bool.and_true, Bool.or_false, Bool.or_self, Bool.not_false, List.append_nil, Bool.and_self, ↓mtG_rk, ↓winO_rk]) <;> rfl) (hle : leS n H1 σ N σ h0 (belsK N (h0.map (Fam.rk σ N)) (argsK n args (args0.map (T.rk σ N)) True)) := by repeat' first | refine And.intro ?_ ?_ | exact xeC | fail) : CallK P F args H K := CallK.mk3 hc hap hnl h1 hN hn hH hle hk
set_option maxRecDepth 10000 in
theorem cawake : Ctr Try.prog 10 [] [] fun v h => v = .c .tt ∧ h = [] := by
  refine Ctr.mk' tbv mixed Try.func10 rfl rfl rfl (fun _ _ => by kernel_rfl) (by kernel_rfl) (by rfl) (by rfl) (by (repeat' first | refine And.intro ?_ ?_ | exact xeC | fail) <;> (exact xmC)) ?_
  repeat' (first | (fail_if_success (with_reducible refine xstp ?_)); first | ((with_reducible refine And.intro (fun (hb : _ = true) => ?_) (fun (hb : _ = false) => ?_)) <;> replace hb := xnC hb <;> (try first | exact xfC | exact bff hb (by assumption) | exact bff (by assumption) hb)) | (with_reducible refine Both.mk ?_ ?_) | ((with_reducible refine And.intro ?_ ?_); focus exact xoC) | ((with_reducible refine Or.inl ⟨?_, ?_, ?_⟩); (focus rfl); focus exact xaC) | ((with_reducible refine xwB ?_ ?_); focus exact xaC) | ((with_reducible refine xwC ?_ ?_); focus exact xaC) | ((with_reducible refine xwD ?_ ?_); focus exact xaC) | ((with_reducible refine xwE ?_ ?_); focus exact xaC) | (with_reducible intro hc; (try simp only [capsP, and_true] at hc); (try exact xfC)) | ((fail_if_success (with_reducible first | refine xgon ?_ | intro _)); (conv => whnf); (fail_if_success (fail_if_success (with_reducible first | refine xstp ?_ | refine Both.mk ?_ ?_ | refine xgon ?_ | intro _)))))
  refine cH15sA3 (σ := [.whole 0]) (nl := [.one (ints true noI 0)]) (cEncode aw true 0 (by decide) (by decide)) ?_
  rintro v h' ⟨rfl, rfl⟩ hcaps
  rw [show chk aw = 0 by decide, if_pos rfl, show encL aw = [4, 0, 1, 2, 3, 0, 1, 4, 0] by decide]
  refine rH15sA0 ?_
  repeat' (first | (fail_if_success (with_reducible refine xstp ?_)); first | ((with_reducible refine And.intro (fun (hb : _ = true) => ?_) (fun (hb : _ = false) => ?_)) <;> replace hb := xnC hb <;> (try first | exact xfC | exact bff hb (by assumption) | exact bff (by assumption) hb)) | (with_reducible refine Both.mk ?_ ?_) | ((with_reducible refine And.intro ?_ ?_); focus exact xoC) | ((with_reducible refine Or.inl ⟨?_, ?_, ?_⟩); (focus rfl); focus exact xaC) | ((with_reducible refine xwB ?_ ?_); focus exact xaC) | ((with_reducible refine xwC ?_ ?_); focus exact xaC) | ((with_reducible refine xwD ?_ ?_); focus exact xaC) | ((with_reducible refine xwE ?_ ?_); focus exact xaC) | (with_reducible intro hc; (try simp only [capsP, and_true] at hc); (try exact xfC)) | ((fail_if_success (with_reducible first | refine xgon ?_ | intro _)); (conv => whnf); (fail_if_success (fail_if_success (with_reducible first | refine xstp ?_ | refine Both.mk ?_ ?_ | refine xgon ?_ | intro _)))))
  refine cH15sA3 (σ := []) (nl := []) (cNewA 2) ?_
  rintro v h' ⟨rfl, rfl⟩ hcaps
  refine rH15sA1 ?_
  repeat' (first | (fail_if_success (with_reducible refine xstp ?_)); first | ((with_reducible refine And.intro (fun (hb : _ = true) => ?_) (fun (hb : _ = false) => ?_)) <;> replace hb := xnC hb <;> (try first | exact xfC | exact bff hb (by assumption) | exact bff (by assumption) hb)) | (with_reducible refine Both.mk ?_ ?_) | ((with_reducible refine And.intro ?_ ?_); focus exact xoC) | ((with_reducible refine Or.inl ⟨?_, ?_, ?_⟩); (focus rfl); focus exact xaC) | ((with_reducible refine xwB ?_ ?_); focus exact xaC) | ((with_reducible refine xwC ?_ ?_); focus exact xaC) | ((with_reducible refine xwD ?_ ?_); focus exact xaC) | ((with_reducible refine xwE ?_ ?_); focus exact xaC) | (with_reducible intro hc; (try simp only [capsP, and_true] at hc); (try exact xfC)) | ((fail_if_success (with_reducible first | refine xgon ?_ | intro _)); (conv => whnf); (fail_if_success (fail_if_success (with_reducible first | refine xstp ?_ | refine Both.mk ?_ ?_ | refine xgon ?_ | intro _)))))
  refine cH15sA3 (σ := [.whole 1, .whole 2, .whole 3, .whole 4, .whole 5]) (nl := []) (cAdd (max 1 (min 256 2)) 0 [] [] [] 0 0 1 ⟨5, 0, 1, [97, 98]⟩ (aok0 (by decide) (by decide))) ?_ (hle := by (repeat' first | refine And.intro ?_ ?_ | exact xeC | fail) <;> (exact xmC))
  rintro v h' ⟨J', c', cd', _, _, rfl, rfl⟩ hcaps
  rw [show addA (max 1 (min 256 2)) 0 [] [] 1 ⟨5, 0, 1, [97, 98]⟩ = ([], [(1, 5)], [97, 98], true, 0) by simp [addA, okF, fnd, remD, cntD]]
  refine rH15sA2 ?_
  repeat' (first | (fail_if_success (with_reducible refine xstp ?_)); first | ((with_reducible refine And.intro (fun (hb : _ = true) => ?_) (fun (hb : _ = false) => ?_)) <;> replace hb := xnC hb <;> (try first | exact xfC | exact bff hb (by assumption) | exact bff (by assumption) hb)) | (with_reducible refine Both.mk ?_ ?_) | ((with_reducible refine And.intro ?_ ?_); focus exact xoC) | ((with_reducible refine Or.inl ⟨?_, ?_, ?_⟩); (focus rfl); focus exact xaC) | ((with_reducible refine xwB ?_ ?_); focus exact xaC) | ((with_reducible refine xwC ?_ ?_); focus exact xaC) | ((with_reducible refine xwD ?_ ?_); focus exact xaC) | ((with_reducible refine xwE ?_ ?_); focus exact xaC) | (with_reducible intro hc; (try simp only [capsP, and_true] at hc); (try exact xfC)) | ((fail_if_success (with_reducible first | refine xgon ?_ | intro _)); (conv => whnf); (fail_if_success (fail_if_success (with_reducible first | refine xstp ?_ | refine Both.mk ?_ ?_ | refine xgon ?_ | intro _)))))
  refine FinK.mk ⟨[], _, _, ⟨rfl, rfl⟩, ?_⟩; (repeat' first | refine And.intro ?_ ?_ | exact xeC | fail)
end Go.Proofs.Ytgaodeffbgppmaa


namespace Go.Proofs.Ytgaodeffbgppmaa
open Go.X
open P4
open P5
abbrev rem (s : ByteArray) (a : Nat) : List UInt8 := s.data.toList.drop a
theorem rem_step {s : ByteArray} {a k : Nat} {x r : List UInt8} (h : rem s a = x ++ r) (hk : k = x.length) : rem s (a + k) = r := by
  subst hk
  unfold rem at *
  rw [← List.drop_drop, h, List.drop_append_of_le_length (Nat.le_refl _), List.drop_of_length_le (Nat.le_refl _), List.nil_append]
theorem rdS_fw {s : ByteArray} {a n : Nat} {r : List UInt8} {m : Int} (hn : n < 18446744073709551616) (hm : (n : Int) ≤ m) (h : rem s a = venc n ++ r) : ∃ a', rdS s a 0 m = (n, a', 0) ∧ rem s a' = r := by
  refine ⟨a + (venc n).length, ?_, rem_step h rfl⟩
  rw [rdS_U, rdU, if_pos rfl]
  unfold rem at h
  rw [h, vdec_enc n r hn, if_pos rfl, if_neg (by simp only; omega)]
theorem rdT_fw {s : ByteArray} {a : Nat} {x r : List UInt8} {m : Int} (hn : x.length < 18446744073709551616) (hm : (x.length : Int) ≤ m) (h : rem s a = textL x ++ r) : ∃ a', rdT s a 0 m = (x, a', 0) ∧ rem s a' = r := by
  have h1 : rem s a = venc x.length ++ (x ++ r) := by rw [h, textL, List.append_assoc]
  have h2 : rem s (a + (venc x.length).length) = x ++ r := rem_step h1 rfl
  refine ⟨a + (textL x).length, ?_, rem_step h rfl⟩
  have h3 := congrArg List.length h2
  unfold rem at h1 h2 h3
  rw [List.length_drop, size_len, List.length_append] at h3
  rw [rdT_U, rdU, if_pos rfl, h1, vdec_enc _ _ hn, if_pos rfl, if_neg (by simp only; omega), if_neg (by simp only; omega)]
  simp only [h2, List.take_append_of_le_length (Nat.le_refl _), List.take_length, textL, List.length_append, Nat.add_assoc]
theorem endV_fw {s : ByteArray} {a : Nat} (h : rem s a = []) : endV s a 0 = 0 := by
  have h1 := congrArg List.length h
  unfold rem at h1
  rw [List.length_drop, size_len, List.length_nil] at h1
  unfold endV
  rw [if_pos rfl, if_neg (by omega)]
end Go.Proofs.Ytgaodeffbgppmaa


namespace Go.Proofs.Ytgaodeffbgppmaa
open Go.X
open P4
open P5
end Go.Proofs.Ytgaodeffbgppmaa


namespace Go.Proofs.Ytgaodeffbgppmaa
open Go.X
open P4
open P5
theorem open_seal (b : List UInt8) : openL (sealL b) = (b, 0) := by
  have h : (sealL b).drop 4 = b := by
    unfold sealL
    rw [List.drop_append_of_le_length (by rw [le_length]; exact Nat.le_refl _), List.drop_of_length_le (by rw [le_length]; exact Nat.le_refl _), List.nil_append]
  have h4 : ¬ (sealL b).length < 4 := by
    unfold sealL
    rw [List.length_append, le_length]
    omega
  unfold openL
  rw [if_neg h4, h, if_pos rfl]
theorem unf_fw {f : Fg} (h : okF f) : unf (frameL f) = (f, 0) := by
  have hf : frameL f = sealL (frmL f) := if_pos h
  unfold unf
  rw [hf, open_seal]
  simp only [ne_eq, not_true_eq_false, if_false]
  have hk := h
  unfold okF at h
  have d0 : rem (mkS (frmL f)) 0 = venc f.id.toNat ++ (venc f.ix.toNat ++ (venc f.ct.toNat ++ (textL f.d ++ []))) := by simp [rem, frmL]
  generalize mkS (frmL f) = s at d0 ⊢
  obtain ⟨a1, e1, d1⟩ := rdS_fw (m := 1099511627776) (by omega) (by omega) d0
  obtain ⟨a2, e2, d2⟩ := rdS_fw (m := 64) (by omega) (by omega) d1
  obtain ⟨a3, e3, d3⟩ := rdS_fw (m := 64) (by omega) (by omega) d2
  obtain ⟨a4, e4, d4⟩ := rdT_fw (m := 4000) (by omega) (by omega) d3
  have hF : unfF s = (f, a4, 0) := by
    unfold unfF
    simp only [e1, e2, e3, e4]
    rw [Int.toNat_of_nonneg (by omega), Int.toNat_of_nonneg (by omega), Int.toNat_of_nonneg (by omega)]
  rw [unfS_of hF, endV_fw d4, if_neg (by decide), if_neg (by simpa using hk)]
end Go.Proofs.Ytgaodeffbgppmaa


namespace Go.Proofs.Ytgaodeffbgppmaa
open Go.X
set_option linter.unusedSimpArgs false
set_option linter.unusedVariables false
open P4
open P5
end Go.Proofs.Ytgaodeffbgppmaa


namespace Go.Proofs.Ytgaodeffbgppmaa
open Go.X
set_option linter.unusedSimpArgs false
set_option linter.unusedVariables false
open P4
open P5
end Go.Proofs.Ytgaodeffbgppmaa


namespace Go.Proofs.Ytgaodeffbgppmaa
open Go.X Go.RowKit
set_option linter.unusedVariables false
theorem one_read {β : Nm} {W : World} {ck : Ck} (h : ck.holds β W (β 0 0)) (ho : ck.owned = false) : Fits β [.one ck] W ∧ ∀ f x, (Go.X.get [.one ck] f x).owned = false := by
  have hno := get_ones_own (h := [ck]) (by intro q hq; rw [List.mem_singleton.1 hq]; exact ho)
  exact ⟨fits_read (get_ones (h := [ck]) (fun f q hf => by
    match f, hf with
    | 0, hf => cases hf; exact h
    | f + 1, hf => simp at hf)) hno, hno⟩
end Go.Proofs.Ytgaodeffbgppmaa


namespace Go.Proofs.Ytgaodeffbgppmaa
open Go.X
set_option linter.unusedSimpArgs false
set_option linter.unusedVariables false
open P4
open P5
abbrev fgR (l : List Fg) (c : Nat) : Ck := .row true false 34 4 l.length c (rowOf encG l)
def cnt (n z : Nat) : Nat := max 1 ((n + z - 1) / z)
def part (id : Int) (l : List UInt8) (z n i : Nat) : Fg := ⟨id, i, n, (l.drop (i * z)).take z⟩
def parts (id : Int) (l : List UInt8) (z n k : Nat) : List Fg := (List.range k).map (part id l z n)
def okS (id size : Int) : Prop := (0 ≤ id ∧ id ≤ 1099511627776) ∧ (1 ≤ size ∧ size ≤ 4000)
instance (id size : Int) : Decidable (okS id size) := by unfold okS; infer_instance
def spl (id : Int) (l : List UInt8) (size : Int) : List Fg × Nat :=
  if ¬ okS id size then ([], 4) else if 64 < cnt l.length size.toNat then ([], 3) else (parts id l size.toNat (cnt l.length size.toNat) (cnt l.length size.toNat), 0)
theorem parts_succ (id : Int) (l : List UInt8) (z n k : Nat) : parts id l z n (k + 1) = parts id l z n k ++ [part id l z n k] := by
  unfold parts
  rw [List.range_succ, List.map_append]
  rfl
theorem parts_len (id : Int) (l : List UInt8) (z n k : Nat) : (parts id l z n k).length = k := by simp [parts]
theorem cnt_le {n z k : Nat} (hz : 1 ≤ z) (h : k < cnt n z) (hk : 0 < k) : k * z ≤ n := by
  unfold cnt at h
  have h1 : k < (n + z - 1) / z := by omega
  have h2 := Nat.div_mul_le_self (n + z - 1) z
  have h3 : (k + 1) * z ≤ (n + z - 1) / z * z := Nat.mul_le_mul_right z h1
  rw [Nat.add_mul, Nat.one_mul] at h3
  omega
theorem cnt_ge {n z : Nat} (hz : 1 ≤ z) : n ≤ cnt n z * z := by
  have h1 : (n + z - 1) / z ≤ cnt n z := by unfold cnt; exact Nat.le_max_right _ _
  have h2 := Nat.mul_le_mul_right z h1
  have h3 := Nat.div_add_mod (n + z - 1) z
  have h4 := Nat.mod_lt (n + z - 1) hz
  rw [Nat.mul_comm] at h3
  omega

theorem cnt_64 {n z : Nat} (hz : 1 ≤ z) : 64 < cnt n z ↔ 64 * z < n := by
  have h : 65 ≤ (n + z - 1) / z ↔ 65 * z ≤ n + z - 1 := Nat.le_div_iff_mul_le hz
  unfold cnt
  omega
theorem ext_part {l : List UInt8} {i z : Nat} (hsz : (mkS l).size = l.length) : (mkS l).extract ((i : Int) * (z : Int)).toNat (min ((mkS l).size : Int) (((i : Int) + 1) * (z : Int))).toNat = mkS ((l.drop (i * z)).take z) := by
  have h1 : ((i : Int) * (z : Int)).toNat = i * z := by rw [← Int.natCast_mul, Int.toNat_natCast]
  have h2 : (min ((mkS l).size : Int) (((i : Int) + 1) * (z : Int))).toNat = min l.length (i * z + z) := by
    rw [Int.add_mul, Int.one_mul, ← Int.natCast_mul, hsz]
    omega
  rw [h1, h2, mkS_ext, List.drop_take]
  congr 1
  rw [List.take_eq_take_iff, List.length_drop]
  omega

set_option maxRecDepth 10000 in
theorem cSplit (id : Int) (l : List UInt8) (size : Int) (hl : l.length ≤ 1000000) :
    Ctr Try.prog 17 [.c (.i .i64 id), .c (.s (mkS l)), .c (.i .i64 size)] [] fun v h => ∃ c, v = .t [.c (.sl 0 0 4 0 (spl id l size).1.length c), .c (.i .i64 ((spl id l size).2 : Nat))] ∧ h = [.one (fgR (spl id l size).1 c)] := by
  have hsz : (mkS l).size = l.length := rfl
  refine Ctr.mk' tbv mixed Try.func17 rfl rfl rfl (fun _ _ => by kernel_rfl) (by kernel_rfl) (by rfl) (by rfl) (by (repeat' first | refine And.intro ?_ ?_ | exact xeC | fail)) ?_
  repeat' (first | (fail_if_success (with_reducible refine xstp ?_)); first | ((with_reducible refine And.intro (fun (hb : _ = true) => ?_) (fun (hb : _ = false) => ?_)) <;> replace hb := xnC hb <;> (try first | exact xfC | exact bff hb (by assumption) | exact bff (by assumption) hb)) | (with_reducible refine Both.mk ?_ ?_) | ((with_reducible refine And.intro ?_ ?_); focus exact xoC) | ((with_reducible refine Or.inl ⟨?_, ?_, ?_⟩); (focus rfl); focus exact xaC) | ((with_reducible refine xwB ?_ ?_); focus exact xaC) | ((with_reducible refine xwC ?_ ?_); focus exact xaC) | ((with_reducible refine xwD ?_ ?_); focus exact xaC) | ((with_reducible refine xwE ?_ ?_); focus exact xaC) | (with_reducible intro hc; (try simp only [capsP, and_true] at hc); (try exact xfC)) | ((fail_if_success (with_reducible first | refine xgon ?_ | intro _)); (conv => whnf); (fail_if_success (fail_if_success (with_reducible first | refine xstp ?_ | refine Both.mk ?_ ?_ | refine xgon ?_ | intro _)))))
  refine xcal (σ := []) (nl := []) (cwithin id 0 1099511627776) ?_
  rintro v h' ⟨rfl, rfl⟩ hcaps
  refine xret ?_
  repeat' (first | (fail_if_success (with_reducible refine xstp ?_)); first | ((with_reducible refine And.intro (fun (hb : _ = true) => ?_) (fun (hb : _ = false) => ?_)) <;> replace hb := xnC hb <;> (try first | exact xfC | exact bff hb (by assumption) | exact bff (by assumption) hb)) | (with_reducible refine Both.mk ?_ ?_) | ((with_reducible refine And.intro ?_ ?_); focus exact xoC) | ((with_reducible refine Or.inl ⟨?_, ?_, ?_⟩); (focus rfl); focus exact xaC) | ((with_reducible refine xwB ?_ ?_); focus exact xaC) | ((with_reducible refine xwC ?_ ?_); focus exact xaC) | ((with_reducible refine xwD ?_ ?_); focus exact xaC) | ((with_reducible refine xwE ?_ ?_); focus exact xaC) | (with_reducible intro hc; (try simp only [capsP, and_true] at hc); (try exact xfC)) | ((fail_if_success (with_reducible first | refine xgon ?_ | intro _)); (conv => whnf); (fail_if_success (fail_if_success (with_reducible first | refine xstp ?_ | refine Both.mk ?_ ?_ | refine xgon ?_ | intro _)))))
  · rw [show spl id l size = ([], 4) from if_pos (fun h => hb h.1)]
    refine FinK.mk ⟨[99], _, _, ⟨0, rfl, rfl⟩, ?_⟩
    (repeat' first | refine And.intro ?_ ?_ | exact xeC | fail)
    all_goals (intro i hi; exact absurd hi (Nat.not_lt_zero i))
  refine xcal (σ := []) (nl := []) (cwithin size 1 4000) ?_
  rintro v h' ⟨rfl, rfl⟩ hcaps
  refine xret ?_
  repeat' (first | (fail_if_success (with_reducible refine xstp ?_)); first | ((with_reducible refine And.intro (fun (hb : _ = true) => ?_) (fun (hb : _ = false) => ?_)) <;> replace hb := xnC hb <;> (try first | exact xfC | exact bff hb (by assumption) | exact bff (by assumption) hb)) | (with_reducible refine Both.mk ?_ ?_) | ((with_reducible refine And.intro ?_ ?_); focus exact xoC) | ((with_reducible refine Or.inl ⟨?_, ?_, ?_⟩); (focus rfl); focus exact xaC) | ((with_reducible refine xwB ?_ ?_); focus exact xaC) | ((with_reducible refine xwC ?_ ?_); focus exact xaC) | ((with_reducible refine xwD ?_ ?_); focus exact xaC) | ((with_reducible refine xwE ?_ ?_); focus exact xaC) | (with_reducible intro hc; (try simp only [capsP, and_true] at hc); (try exact xfC)) | ((fail_if_success (with_reducible first | refine xgon ?_ | intro _)); (conv => whnf); (fail_if_success (fail_if_success (with_reducible first | refine xstp ?_ | refine Both.mk ?_ ?_ | refine xgon ?_ | intro _)))))
  · rw [show spl id l size = ([], 4) from if_pos (fun h => hb h.2)]
    refine FinK.mk ⟨[99], _, _, ⟨0, rfl, rfl⟩, ?_⟩
    (repeat' first | refine And.intro ?_ ?_ | exact xeC | fail)
    all_goals (intro i hi; exact absurd hi (Nat.not_lt_zero i))
  have hoks : okS id size := ⟨by assumption, hb⟩
  obtain ⟨z, rfl⟩ : ∃ z : Nat, size = z := ⟨size.toNat, by omega⟩
  have hz1 : 1 ≤ z := by omega
  have hz2 : z ≤ 4000 := by omega
  have hq : ((mkS l).size + (z : Int) - 1).tdiv z = (((l.length + z - 1) / z : Nat) : Int) := by
    rw [Int.tdiv_eq_ediv_of_nonneg (by omega), hsz, Int.natCast_ediv]
    congr 1
    omega
  have hqm : (l.length + z - 1) / z ≤ l.length + z - 1 := Nat.div_le_self _ _
  rw [hq]
  have hcnt : cnt l.length z = max 1 ((l.length + z - 1) / z) := rfl
  generalize (l.length + z - 1) / z = q at *
  repeat' (first | (fail_if_success (with_reducible refine xstp ?_)); first | ((with_reducible refine And.intro (fun (hb : _ = true) => ?_) (fun (hb : _ = false) => ?_)) <;> replace hb := xnC hb <;> (try first | exact xfC | exact bff hb (by assumption) | exact bff (by assumption) hb)) | (with_reducible refine Both.mk ?_ ?_) | ((with_reducible refine And.intro ?_ ?_); focus exact xoC) | ((with_reducible refine Or.inl ⟨?_, ?_, ?_⟩); (focus rfl); focus exact xaC) | ((with_reducible refine xwB ?_ ?_); focus exact xaC) | ((with_reducible refine xwC ?_ ?_); focus exact xaC) | ((with_reducible refine xwD ?_ ?_); focus exact xaC) | ((with_reducible refine xwE ?_ ?_); focus exact xaC) | (with_reducible intro hc; (try simp only [capsP, and_true] at hc); (try exact xfC)) | ((fail_if_success (with_reducible first | refine xgon ?_ | intro _)); (conv => whnf); (fail_if_success (fail_if_success (with_reducible first | refine xstp ?_ | refine Both.mk ?_ ?_ | refine xgon ?_ | intro _)))))
  · have hcn : 64 < cnt l.length z := by omega
    rw [show spl id l (z : Int) = ([], 3) by unfold spl; rw [if_neg (by simpa using hoks), if_pos (by simpa using hcn)]]
    refine FinK.mk ⟨[99], _, _, ⟨0, rfl, rfl⟩, ?_⟩
    (repeat' first | refine And.intro ?_ ?_ | exact xeC | fail)
    all_goals (intro i hi; exact absurd hi (Nat.not_lt_zero i))
  have hcn : cnt l.length z ≤ 64 := by omega
  have hmx : max 1 (q : Int) = (cnt l.length z : Nat) := by omega
  rw [show spl id l (z : Int) = (parts id l z (cnt l.length z) (cnt l.length z), 0) by unfold spl; rw [if_neg (by simpa using hoks), if_neg (by rw [Int.toNat_natCast]; omega), Int.toNat_natCast]]
  rw [hmx]
  generalize hn : cnt l.length z = n at *
  refine LoopK.mk' {p : Nat × Nat // p.1 ≤ n}
    (fun ⟨(i, c), _⟩ => ⟨[(0, .c (.i .i64 id)), (1, .c (.s (mkS l))), (2, .c (.i .i64 z)), (8, .c (.i .i64 (n : Nat))), (9, .c (.sl 0 0 4 0 (parts id l z n i).length c)), (29, .c (.i .i64 (n : Nat))), (30, .c (.i .i64 (i : Nat)))],
      [.one (fgR (parts id l z n i) c)]⟩) (fun k => n - k.1.1)
    ⟨⟨(0, 0), Nat.zero_le _⟩, [99], ?_⟩ ?_
  · (repeat' first | refine And.intro ?_ ?_ | exact xeC | fail)
    all_goals (intro i hi; exact absurd hi (Nat.not_lt_zero i))
  rintro ⟨⟨i, c⟩, hi⟩
  simp only at hi
  have hiz : i < n → i * z ≤ l.length := fun h => by
    by_cases h0 : i = 0
    · subst h0; omega
    · exact cnt_le hz1 (by omega) (by omega)
  have hpl := parts_len id l z n i
  have hi1 : ((i : Int) + 1) * (z : Int) = ((i * z + z : Nat) : Int) := by rw [Int.add_mul]; push_cast; omega
  repeat' (first | (fail_if_success (with_reducible refine xstp ?_)); first | ((with_reducible refine And.intro (fun (hb : _ = true) => ?_) (fun (hb : _ = false) => ?_)) <;> replace hb := xnC hb <;> (try first | exact xfC | exact bff hb (by assumption) | exact bff (by assumption) hb)) | (with_reducible refine Both.mk ?_ ?_) | ((with_reducible refine And.intro ?_ ?_); focus exact xoC) | ((with_reducible refine Or.inl ⟨?_, ?_, ?_⟩); (focus rfl); focus exact xaC) | ((with_reducible refine xwB ?_ ?_); focus exact xaC) | ((with_reducible refine xwC ?_ ?_); focus exact xaC) | ((with_reducible refine xwD ?_ ?_); focus exact xaC) | ((with_reducible refine xwE ?_ ?_); focus exact xaC) | (with_reducible intro hc; (try simp only [capsP, and_true] at hc); (try exact xfC)) | ((fail_if_success (with_reducible first | refine xgon ?_ | intro _)); (conv => whnf); (fail_if_success (fail_if_success (with_reducible first | refine xstp ?_ | refine Both.mk ?_ ?_ | refine xgon ?_ | intro _)))))
  · rename_i c2
    rw [ext_part hsz]
    refine ⟨⟨(i + 1, c2), by simp only; omega⟩, [2], by simp only; omega, ?_⟩
    (repeat' first | refine And.intro ?_ ?_ | exact xeC | fail)
    all_goals try rw [parts_succ]
    all_goals first | omega | (simp only [List.length_append, List.length_singleton]; done) | (rw [List.length_append, List.length_singleton]; omega) | (intro i hi; (first | refine app_rowG _ _ _ _ ?_ i hi | refine app_row _ _ _ ?_ i hi); first | rfl | (simp only [Int.toNat_natCast, Nat.zero_add]; rfl))
  · obtain rfl : i = n := by omega
    refine FinK.mk ⟨[0], _, _, ⟨c, rfl, rfl⟩, ?_⟩
    (repeat' first | refine And.intro ?_ ?_ | exact xeC | fail)

end Go.Proofs.Ytgaodeffbgppmaa


namespace Go.Proofs.Ytgaodeffbgppmaa
open Go.X
set_option linter.unusedSimpArgs false
set_option linter.unusedVariables false
open P4
open P5
theorem parts_get (id : Int) (l : List UInt8) (z n k i : Nat) (h : i < k) : (parts id l z n k).getD i default = part id l z n i := by
  simp [parts, List.getD, h]
theorem part_ok {id size : Int} {l : List UInt8} (h : okS id size) (hc : cnt l.length size.toNat ≤ 64) {i : Nat} (hi : i < cnt l.length size.toNat) : okF (part id l size.toNat (cnt l.length size.toNat) i) := by
  unfold okS at h
  unfold okF part
  simp only [List.length_take]
  have := cnt_le (n := l.length) (z := size.toNat) (k := 1)
  refine ⟨h.1, by omega, by omega, by omega⟩
theorem parts_flat (id : Int) (l : List UInt8) (z n : Nat) : ∀ k, (parts id l z n k).flatMap Fg.d = l.take (k * z)
  | 0 => by simp [parts]
  | k + 1 => by
    rw [parts_succ, List.flatMap_append, parts_flat id l z n k]
    simp only [part, List.flatMap_cons, List.flatMap_nil, List.append_nil]
    rw [Nat.add_mul, Nat.one_mul, List.take_add]
theorem frame_len {f : Fg} (h : okF f) : (frameL f).length ≤ 5000 := by
  unfold frameL
  rw [if_pos h]
  unfold okF at h
  unfold sealL frmL textL
  have h1 := venc_le f.id.toNat
  have h2 := venc_le f.ix.toNat
  have h3 := venc_le f.ct.toNat
  have h4 := venc_le f.d.length
  simp only [List.length_append, le_length]
  omega

end Go.Proofs.Ytgaodeffbgppmaa


namespace Go.Proofs.Ytgaodeffbgppmaa
open Go.X
set_option linter.unusedVariables false
set_option linter.unusedSimpArgs false
theorem remD_len (dn : List (Int × Int)) (p : Int × Int) : (remD dn p).length ≤ dn.length + 1 := by
  unfold remD
  rw [List.length_append, List.length_singleton]
  split
  · have := List.length_eraseP_le (l := dn) (p := fun q => decide (q.1 = p.1))
    omega
  · exact Nat.le_refl _
theorem AOk.mono {mo : Int} {N : Nat} {J J' : List Nat} {L : List Tx} {dn : List (Int × Int)} (h : AOk mo N J L dn) (hJ : ∀ j ∈ J', j < N + 1) (hl : J'.length ≤ 1) : AOk mo (N + 1) J' L dn :=
  ⟨h.mo1, h.mo2, h.len, h.dn, h.nd, fun t ht => Nat.lt_succ_of_lt (h.idN t ht), hJ, hl, h.ct, h.mlen, h.dat, h.ix, h.key⟩
theorem AOk.sub {mo : Int} {N : Nat} {J : List Nat} {L L' : List Tx} {dn dn' : List (Int × Int)} (h : AOk mo N J L dn) (hs : L'.Sublist L) (hd : dn'.length ≤ 1000000) : AOk mo N J L' dn' :=
  ⟨h.mo1, h.mo2, by have := h.len; have := hs.length_le; omega, hd, List.Nodup.sublist (hs.map Tx.id) h.nd, fun t ht => h.idN t (hs.subset ht), h.jN, h.jl, fun t ht => h.ct t (hs.subset ht), fun t ht => h.mlen t (hs.subset ht), fun t ht => h.dat t (hs.subset ht), fun t ht => h.ix t (hs.subset ht), fun t ht => h.key t (hs.subset ht)⟩
theorem cutL_sub (L : List Tx) (k : Nat) : (cutL L k).Sublist L := by
  unfold cutL
  conv => rhs; rw [← List.take_append_drop k L]
  exact List.Sublist.append_left (by rw [show k + 1 = k + 1 from rfl, ← List.drop_drop]; exact List.drop_sublist _ _) _
theorem AOk.ins {mo : Int} {N : Nat} {J : List Nat} {L : List Tx} {dn : List (Int × Int)} (h : AOk mo N J L dn) {k : Nat} {f : Fg} (hk : k < L.length) (hf : okF f) (hct : (L.getD k default).ct = f.ct) (hno : pget (L.getD k default).M f.ix = none) (hm : ((L.getD k default).M.length : Int) + 1 < f.ct) :
    AOk mo N J (L.set k (insT (L.getD k default) f)) dn := by
  have ht : L.getD k default ∈ L := by rw [getD_at hk]; exact List.getElem_mem _
  have hfk := hf
  unfold okF at hfk
  have hno' : ∀ i, i < (L.getD k default).M.length → ((L.getD k default).M.getD i default).2.1 ≠ f.ix := by
    intro i hi e
    unfold pget at hno
    have h1 : (L.getD k default).M.find? (fun e => e.2.1 == f.ix) = none := by
      cases hq : (L.getD k default).M.find? (fun e => e.2.1 == f.ix) with
      | none => rfl
      | some q => rw [hq] at hno; cases hno
    rw [List.find?_eq_none] at h1
    have := h1 _ (by rw [getD_at hi]; exact List.getElem_mem _ : (L.getD k default).M.getD i default ∈ (L.getD k default).M)
    rw [e] at this
    simp at this
  have hmem : ∀ t ∈ L.set k (insT (L.getD k default) f), t ∈ L ∨ t = insT (L.getD k default) f := fun t ht => List.mem_or_eq_of_mem_set ht
  refine ⟨h.mo1, h.mo2, by rw [List.length_set]; exact h.len, h.dn, by rw [idsOf_set hk]; exact h.nd, fun t ht' => ?_, h.jN, h.jl, fun t ht' => ?_, fun t ht' => ?_, fun t ht' => ?_, fun t ht' => ?_, fun t ht' => ?_⟩
  · rcases hmem t ht' with h1 | rfl
    · exact h.idN t h1
    · exact h.idN (L.getD k default) ht
  · rcases hmem t ht' with h1 | rfl
    · exact h.ct t h1
    · exact h.ct (L.getD k default) ht
  · rcases hmem t ht' with h1 | rfl
    · exact h.mlen t h1
    · show ((((L.getD k default).M ++ [((L.getD k default).ck, f.ix, f.d)]).length : Nat) : Int) < (L.getD k default).ct
      rw [List.length_append, List.length_singleton]
      omega
  · rcases hmem t ht' with h1 | rfl
    · exact h.dat t h1
    · intro e he
      rcases List.mem_append.1 he with he | he
      · exact h.dat _ ht e he
      · rw [List.mem_singleton.1 he]; exact hfk.2.2.2
  · rcases hmem t ht' with h1 | rfl
    · exact h.ix t h1
    · intro e he
      rcases List.mem_append.1 he with he | he
      · exact h.ix _ ht e he
      · rw [List.mem_singleton.1 he]
        show 0 ≤ f.ix ∧ f.ix < (L.getD k default).ct
        omega
  · rcases hmem t ht' with h1 | rfl
    · exact h.key t h1
    · exact key_snoc (h.key _ ht) hno'
theorem AOk.new {mo : Int} {N : Nat} {J J' : List Nat} {L : List Tx} {dn : List (Int × Int)} (h : AOk mo N J L dn) {fr : Int} {f : Fg} (hf : okF f) (hct : 1 < f.ct) (hL : (L.length : Int) + 1 ≤ mo) (hJ : ∀ j ∈ J', j < N + 1) (hl : J'.length ≤ 1) :
    AOk mo (N + 1) J' (L ++ [newT N fr f]) dn := by
  have hfk := hf
  unfold okF at hfk
  have hmem : ∀ t ∈ L ++ [newT N fr f], t ∈ L ∨ t = newT N fr f := fun t ht => by
    rcases List.mem_append.1 ht with h | h
    · exact Or.inl h
    · exact Or.inr (List.mem_singleton.1 h)
  refine ⟨h.mo1, h.mo2, by rw [List.length_append, List.length_singleton]; omega, h.dn, ?_, fun t ht' => ?_, hJ, hl, fun t ht' => ?_, fun t ht' => ?_, fun t ht' => ?_, fun t ht' => ?_, fun t ht' => ?_⟩
  · unfold idsOf
    rw [List.map_append, List.nodup_append]
    refine ⟨h.nd, by simp, fun a ha b hb => ?_⟩
    obtain ⟨t, ht, rfl⟩ := List.mem_map.1 ha
    have := h.idN t ht
    simp [newT] at hb
    omega
  · rcases hmem t ht' with h1 | rfl
    · exact Nat.lt_succ_of_lt (h.idN t h1)
    · exact Nat.lt_succ_self N
  · rcases hmem t ht' with h1 | rfl
    · exact h.ct t h1
    · exact hfk.2.1
  · rcases hmem t ht' with h1 | rfl
    · exact h.mlen t h1
    · exact hct
  · rcases hmem t ht' with h1 | rfl
    · exact h.dat t h1
    · intro e he
      rw [List.mem_singleton.1 he]; exact hfk.2.2.2
  · rcases hmem t ht' with h1 | rfl
    · exact h.ix t h1
    · intro e he
      rw [List.mem_singleton.1 he]
      exact hfk.2.2.1
  · rcases hmem t ht' with h1 | rfl
    · exact h.key t h1
    · intro i j hij hj
      simp [newT] at hj
      omega
theorem addA_ok {mo : Int} {N : Nat} {J J' : List Nat} {L : List Tx} {dn : List (Int × Int)} (h : AOk mo N J L dn) (fr : Int) (f : Fg) (hd : dn.length < 1000000) (hJ : ∀ j ∈ J', j < N + 1) (hl : J'.length ≤ 1) :
    AOk mo (N + 1) J' (addA mo N L dn fr f).1 (addA mo N L dn fr f).2.1 := by
  by_cases hok : (0 ≤ fr ∧ fr ≤ 7) ∧ okF f
  · rcases (by cases fnd L (fr, f.id) <;> simp : (∃ k, fnd L (fr, f.id) = some k) ∨ fnd L (fr, f.id) = none) with ⟨k, hf⟩ | hf
    · rw [addA_some hok hf]
      have hk := fnd_lt hf
      split
      · exact h.mono hJ hl
      rename_i hct
      split
      · split <;> exact h.mono hJ hl
      · rename_i hno
        split
        · rename_i hm
          exact (h.ins hk hok.2 (by simpa using hct) hno hm).mono hJ hl
        · have := remD_len dn (fr, f.id)
          exact (h.sub (cutL_sub L k) (by simp only; omega)).mono hJ hl
    · rw [addA_none hok hf]
      split
      · exact h.mono hJ hl
      split
      · rename_i hct
        have hlen := h.len
        by_cases hm : mo < L.length + 1
        · simp only [if_pos hm]
          have h1 := h.sub (L' := L.drop 1) (dn' := dn) (List.drop_sublist _ _) h.dn
          exact h1.new hok.2 hct (by rw [List.length_drop]; have := h.mo1; omega) hJ hl
        · simp only [if_neg hm]
          exact h.new hok.2 hct (by omega) hJ hl
      · have := remD_len dn (fr, f.id)
        exact (h.sub (List.Sublist.refl L) (by simp only; omega)).mono hJ hl
  · have : addA mo N L dn fr f = (L, dn, [], false, 4) := by unfold addA; rw [if_pos hok]
    rw [this]
    exact h.mono hJ hl
end Go.Proofs.Ytgaodeffbgppmaa


namespace Go.Proofs.Ytgaodeffbgppmaa
open Go.X
set_option linter.unusedVariables false
set_option linter.unusedSimpArgs false
theorem nodup_le : ∀ (n : Nat) (S : List Nat), S.Nodup → (∀ k ∈ S, k < n) → S.length ≤ n
  | 0, S, _, h => by
    cases S with
    | nil => exact Nat.le_refl _
    | cons a S => exact absurd (h a (List.mem_cons_self ..)) (Nat.not_lt_zero _)
  | n + 1, S, hn, h => by
    by_cases hm : n ∈ S
    · have h1 := nodup_le n (S.erase n) (hn.erase n) (fun k hk => by
        have := (hn.mem_erase_iff).1 hk
        have := h k this.2
        omega)
      rw [List.length_erase_of_mem hm] at h1
      omega
    · have := nodup_le n S hn (fun k hk => by
        have := h k hk
        have : k ≠ n := fun e => hm (e ▸ hk)
        omega)
      omega
theorem nodup_all {n : Nat} {S : List Nat} (hn : S.Nodup) (h : ∀ k ∈ S, k < n) (hl : S.length = n) {i : Nat} (hi : i < n) : i ∈ S := by
  apply Decidable.byContradiction
  intro hno
  have := nodup_le n (i :: S) (List.nodup_cons.2 ⟨hno, hn⟩) (fun k hk => by
    rcases List.mem_cons.1 hk with rfl | hk
    · exact hi
    · exact h k hk)
  rw [List.length_cons] at this
  omega
theorem pget_snd (M : List (Nat × Int × List UInt8)) (ix : Int) : pget M ix = ((M.map Prod.snd).find? fun e => e.1 == ix).map Prod.snd := by
  unfold pget
  rw [List.find?_map]
  simp only [Option.map_map]
  rfl
theorem pget_S {M : List (Nat × Int × List UInt8)} {S : List Nat} {D : Nat → List UInt8} (h : M.map Prod.snd = S.map fun (j : Nat) => ((j : Int), D j)) (k : Nat) : pget M (k : Int) = if k ∈ S then some (D k) else none := by
  rw [pget_snd, h, List.find?_map]
  by_cases hk : k ∈ S
  · rw [if_pos hk]
    have : S.find? ((fun e : Int × List UInt8 => e.1 == (k : Int)) ∘ fun j : Nat => ((j : Int), D j)) = some k := by
      have h1 : (S.find? ((fun e : Int × List UInt8 => e.1 == (k : Int)) ∘ fun j : Nat => ((j : Int), D j))).isSome := by
        rw [List.find?_isSome]
        exact ⟨k, hk, by simp⟩
      obtain ⟨q, hq⟩ := Option.isSome_iff_exists.1 h1
      have := List.find?_some hq
      simp at this
      rw [hq, show q = k by omega]
    rw [this]
    rfl
  · rw [if_neg hk]
    have : S.find? ((fun e : Int × List UInt8 => e.1 == (k : Int)) ∘ fun j : Nat => ((j : Int), D j)) = none := by
      rw [List.find?_eq_none]
      intro x hx e
      simp at e
      exact hk ((show x = k by omega) ▸ hx)
    rw [this]
    rfl
def outD (D : Nat → List UInt8) (n : Nat) : List UInt8 := (List.range n).flatMap D
theorem outS_D {M : List (Nat × Int × List UInt8)} {D : Nat → List UInt8} (ct : Int) {n : Nat} (h : ∀ i, i < n → pget M (i : Int) = some (D i)) : outS ct M n = outD D n := by
  unfold outS outD
  rw [List.flatMap_def, List.flatMap_def]
  congr 1
  apply List.map_congr_left
  intro i hi
  rw [h i (List.mem_range.1 hi)]
  rfl
end Go.Proofs.Ytgaodeffbgppmaa


namespace Go.Proofs.Ytgaodeffbgppmaa
open Go.X
set_option linter.unusedSimpArgs false
set_option linter.unusedVariables false
open P4
open P5
abbrev DD (l : List UInt8) (z k : Nat) : List UInt8 := (l.drop (k * z)).take z
theorem outD_all {l : List UInt8} {z n : Nat} (h : l.length ≤ n * z) : outD (DD l z) n = l := by
  have := parts_flat 9 l z n n
  unfold parts at this
  rw [List.flatMap_map, List.take_of_length_le h] at this
  exact this
structure Ai where
  (i : Nat) (S : List Nat) (N : Nat) (J : List Nat) (L : List Tx) (dn : List (Int × Int)) (c cd : Nat)

theorem all_len : ∀ {S : List Nat} (n : Nat), (∀ j, j < n → j ∈ S) → n ≤ S.length
  | S, 0, _ => Nat.zero_le _
  | S, n + 1, h => by
    have hm := h n (by omega)
    have := all_len (S := S.erase n) n (fun j hj => (List.mem_erase_of_ne (by omega)).2 (h j (by omega)))
    rw [List.length_erase_of_mem hm] at this
    have := List.length_pos_of_mem hm
    omega

end Go.Proofs.Ytgaodeffbgppmaa


namespace Go.Proofs.Ytgaodeffbgppmaa
open Go.X
open P4
open P5
set_option linter.unusedVariables false
set_option linter.unusedSimpArgs false
/-- The assembler has what is in S. -/
def RelZ (n : Nat) (D : Nat → List UInt8) (S : List Nat) (L : List Tx) (dn : List (Int × Int)) : Prop :=
  (S = [] ∧ L = [] ∧ dn = []) ∨ (0 < S.length ∧ S.length < n ∧ dn = [] ∧ ∃ x ck M, L = [⟨x, 0, 3, n, M, ck⟩] ∧ M.map Prod.snd = S.map fun (j : Nat) => ((j : Int), D j)) ∨ (S.length = n ∧ 0 < n ∧ L = [] ∧ dn = [(0, 3)])
theorem relZ_step {n N : Nat} {D : Nat → List UInt8} {S : List Nat} {L : List Tx} {dn : List (Int × Int)} (hR : RelZ n D S L dn) (hS : S.Nodup) (hlt : ∀ k ∈ S, k < n) {k : Nat} (hk : k < n) (hok : okF ⟨3, k, n, D k⟩) :
    (k ∈ S → addA 1 N L dn 0 ⟨3, k, n, D k⟩ = (L, dn, [], false, 0)) ∧
    (k ∉ S → ∃ L' dn', RelZ n D (S ++ [k]) L' dn' ∧ addA 1 N L dn 0 ⟨3, k, n, D k⟩ = (L', dn', if S.length + 1 = n then outD D n else [], decide (S.length + 1 = n), 0)) := by
  have hok' : ((0 : Int) ≤ 0 ∧ (0 : Int) ≤ 7) ∧ okF ⟨3, k, n, D k⟩ := ⟨⟨by decide, by decide⟩, hok⟩
  have hall : k ∉ S → S.length + 1 = n → ∀ i, i < n → i ∈ S ++ [k] := fun hno hl i hi =>
    nodup_all (List.nodup_append.2 ⟨hS, by simp, fun a ha b hb e => hno (by rw [List.mem_singleton.1 hb] at e; exact e ▸ ha)⟩) (fun j hj => by
      rcases List.mem_append.1 hj with hj | hj
      · exact hlt j hj
      · rw [List.mem_singleton.1 hj]; exact hk) (by rw [List.length_append, List.length_singleton]; exact hl) hi
  rcases hR with ⟨rfl, rfl, rfl⟩ | ⟨h0, h1, rfl, x, ck, M, rfl, hM⟩ | ⟨h1, h0, rfl, rfl⟩
  · refine ⟨fun h => absurd h (by simp), fun _ => ?_⟩
    have hf : fnd [] (0, (⟨3, k, n, D k⟩ : Fg).id) = none := rfl
    rw [addA_none hok' hf, if_neg (by simp)]
    by_cases hn : 1 < n
    · rw [if_pos (show (1 : Int) < (n : Int) by omega), if_neg (by simp), if_neg (by simp; omega)]
      refine ⟨_, _, Or.inr (Or.inl ⟨by simp, by simpa using hn, rfl, N, 1, [(0, (k : Int), D k)], rfl, rfl⟩), ?_⟩
      rw [decide_eq_false (by simp; omega)]
      rfl
    · rw [if_neg (show ¬ (1 : Int) < (n : Int) by omega), if_pos (by simp; omega)]
      obtain rfl : n = 1 := by omega
      obtain rfl : k = 0 := by omega
      refine ⟨[], [(0, 3)], Or.inr (Or.inr ⟨by simp, by omega, rfl, rfl⟩), ?_⟩
      rw [decide_eq_true (by simp)]
      simp [outD, remD, cntD]
  · have hf : fnd [⟨x, 0, 3, n, M, ck⟩] (0, (⟨3, k, n, D k⟩ : Fg).id) = some 0 := by simp [fnd]
    have hML : M.length = S.length := by have := congrArg List.length hM; simpa using this
    rw [addA_some hok' hf]
    have e0 : ([⟨x, 0, 3, n, M, ck⟩] : List Tx).getD 0 default = ⟨x, 0, 3, n, M, ck⟩ := rfl
    rw [e0]
    have hp := pget_S hM k
    refine ⟨fun hin => ?_, fun hno => ?_⟩
    · rw [if_pos hin] at hp
      simp only [hp]
      simp
    · rw [if_neg hno] at hp
      simp only [hp]
      rw [if_neg (by simp)]
      have hM2 : (M ++ [(ck, (k : Int), D k)]).map Prod.snd = (S ++ [k]).map fun (j : Nat) => ((j : Int), D j) := by simp [hM]
      by_cases hn : S.length + 1 = n
      · rw [if_neg (show ¬ ((M.length : Int) + 1 < (n : Int)) by omega), if_pos hn, decide_eq_true hn]
        refine ⟨[], [(0, 3)], Or.inr (Or.inr ⟨by rw [List.length_append, List.length_singleton]; exact hn, by omega, rfl, rfl⟩), ?_⟩
        have ho := outS_D (M := M ++ [(ck, (k : Int), D k)]) (D := D) (n : Int) (n := n) (fun i hi => by
          rw [pget_S hM2 i, if_pos (hall hno hn i hi)])
        have e1 : outS (n : Int) (insT ⟨x, 0, 3, n, M, ck⟩ ⟨3, k, n, D k⟩).M (n : Int).toNat = outD D n := by
          rw [Int.toNat_natCast]; exact ho
        rw [e1]
        simp [cutL, remD, cntD]
      · rw [if_pos (show ((M.length : Int) + 1 < (n : Int)) by omega), if_neg hn, decide_eq_false hn]
        exact ⟨_, _, Or.inr (Or.inl ⟨by simp, by rw [List.length_append, List.length_singleton]; omega, rfl, x, ck + 1, M ++ [(ck, (k : Int), D k)], rfl, hM2⟩), rfl⟩
  · have hin : ∀ i, i < n → i ∈ S := fun i hi => nodup_all hS hlt h1 hi
    refine ⟨fun _ => ?_, fun hno => absurd (hin k hk) hno⟩
    have hf : fnd [] (0, (⟨3, k, n, D k⟩ : Fg).id) = none := rfl
    rw [addA_none hok' hf, if_pos (by simp)]
theorem frame_small {f : Fg} (h : okF f) (hd : f.d.length ≤ 600) : (frameL f).length ≤ 1000 := by
  unfold frameL
  rw [if_pos h]
  unfold sealL frmL textL
  have h1 := venc_le f.id.toNat
  have h2 := venc_le f.ix.toNat
  have h3 := venc_le f.ct.toNat
  have h4 := venc_le f.d.length
  simp only [List.length_append, le_length]
  omega
/-- Faults that lose nothing. -/
def mild (F : List Nw.Flt) : Prop := F.length ≤ 30 ∧ ∀ f ∈ F, (f.kd = 2 ∨ f.kd = 3) ∧ 0 ≤ f.ex ∧ f.ex ≤ 255
theorem scn_mild {t fr to : Int} : ∀ (F : List Nw.Flt) (x : Int), (∀ f ∈ F, (f.kd = 2 ∨ f.kd = 3) ∧ 0 ≤ f.ex ∧ f.ex ≤ 255) → ∃ y, Nw.scn t fr to F x = some y ∧ x ≤ y ∧ y ≤ x + 255 * F.length
  | [], x, _ => ⟨x, rfl, Int.le_refl _, by simp⟩
  | f :: F, x, h => by
    have hf := h f (List.mem_cons_self ..)
    have hF : ∀ g ∈ F, (g.kd = 2 ∨ g.kd = 3) ∧ 0 ≤ g.ex ∧ g.ex ≤ 255 := fun g hg => h g (List.mem_cons_of_mem _ hg)
    rw [Nw.scn]
    rw [List.length_cons]
    split
    · rw [if_neg (by omega)]
      obtain ⟨y, h1, h2, h3⟩ := scn_mild F (if f.kd = 2 then x + f.ex else x) hF
      refine ⟨y, h1, ?_, ?_⟩
      · split at h2 <;> omega
      · split at h3 <;> (push_cast; omega)
    · obtain ⟨y, h1, h2, h3⟩ := scn_mild F x hF
      exact ⟨y, h1, h2, by push_cast; omega⟩
theorem adds_all {t fr to time : Int} : ∀ (F : List Nw.Flt) (P : List Nw.Arv) (a : Nw.Arv), (∀ f ∈ F, (f.kd = 2 ∨ f.kd = 3) ∧ 0 ≤ f.ex ∧ f.ex ≤ 255) →
    (∀ p ∈ P, p ∈ Nw.adds t fr to time F P a) ∧ ∀ p ∈ Nw.adds t fr to time F P a, p ∈ P ∨ (p.fr = a.fr ∧ p.d = a.d ∧ p.at_ ≤ time + 255)
  | [], P, a, _ => ⟨fun p hp => hp, fun p hp => Or.inl hp⟩
  | f :: F, P, a, h => by
    have hf := h f (List.mem_cons_self ..)
    have hF : ∀ g ∈ F, (g.kd = 2 ∨ g.kd = 3) ∧ 0 ≤ g.ex ∧ g.ex ≤ 255 := fun g hg => h g (List.mem_cons_of_mem _ hg)
    rw [Nw.adds]
    split
    · obtain ⟨h1, h2⟩ := adds_all F (Nw.insA P { a with cp := a.cp + 1, at_ := time + f.ex }) { a with cp := a.cp + 1, at_ := time + f.ex } hF
      refine ⟨fun p hp => h1 p (Nw.insA_mem.2 (Or.inr hp)), fun p hp => ?_⟩
      rcases h2 p hp with h3 | h3
      · rcases Nw.insA_mem.1 h3 with rfl | h3
        · exact Or.inr ⟨rfl, rfl, by show time + f.ex ≤ _; omega⟩
        · exact Or.inl h3
      · exact Or.inr h3
    · exact adds_all F P a hF
/-- What k fragments that were sent have come to. -/
structure TI (X : Nw.Nt) (D : Nat → ByteArray) (k : Nat) : Prop where
  m : X.m = 2
  lat : X.lat = 5
  F : mild X.F
  last : X.last ≤ k
  cnt : X.cnt = k
  len : X.P.length ≤ 31 * k
  all : ∀ a ∈ X.P, a.fr = 0 ∧ a.at_ ≤ 20000 ∧ ∃ j, j < k ∧ a.d = D j
  got : ∀ j, j < k → ∃ a ∈ X.P, a.d = D j
theorem TI.xb {X : Nw.Nt} {D : Nat → ByteArray} {k : Nat} (h : TI X D k) (hk : k ≤ 64) : Nw.XB X := by
  have := h.F.1
  have := h.len
  refine ⟨by omega, by rw [h.lat]; decide, fun f hf => ?_, by omega, by rw [h.cnt]; omega⟩
  have := h.F.2 f hf
  omega
theorem TI.ok {X : Nw.Nt} {D : Nat → ByteArray} {k : Nat} (h : TI X D k) (hk : k ≤ 64) {d : ByteArray} (hd : d.size ≤ 4000) : Nw.sndE X k 0 1 d = 0 := by
  have := h.len
  have := h.last
  unfold Nw.sndE
  rw [if_neg (not_not_intro (by unfold Nw.okS Nw.okNd; rw [h.m]; omega)), if_neg (by omega), if_neg (by omega), if_neg (by omega)]
theorem TI.snd {X : Nw.Nt} {D : Nat → ByteArray} {k : Nat} (h : TI X D k) (hk : k < 64) (hd : (D k).size ≤ 4000) : TI (Nw.snd X k 0 1 (D k)) D (k + 1) := by
  have h0 := h.ok (Nat.le_of_lt hk) hd
  have hS : Nw.snd X k 0 1 (D k) = { X with P := Nw.sndP X k 0 1 (D k), cnt := X.cnt + 1, last := k } := if_pos h0
  obtain ⟨y, hy, hy1, hy2⟩ := scn_mild (t := k) (fr := 0) (to := 1) X.F (k + X.lat) h.F.2
  have hP : Nw.sndP X k 0 1 (D k) = Nw.adds k 0 1 y X.F (Nw.insA X.P ⟨y, 0, 1, X.cnt + 1, 0, D k⟩) ⟨y, 0, 1, X.cnt + 1, 0, D k⟩ := by
    unfold Nw.sndP
    rw [hy]
  obtain ⟨a1, a2⟩ := adds_all (t := k) (fr := 0) (to := 1) (time := y) X.F (Nw.insA X.P ⟨y, 0, 1, X.cnt + 1, 0, D k⟩) ⟨y, 0, 1, X.cnt + 1, 0, D k⟩ h.F.2
  have hF := h.F.1
  have hlat := h.lat
  rw [hS]
  refine ⟨h.m, h.lat, h.F, by show (k : Int) ≤ _; push_cast; omega, by show X.cnt + 1 = _; rw [h.cnt]; push_cast; rfl, ?_, fun a ha => ?_, fun j hj => ?_⟩
  · show (Nw.sndP X k 0 1 (D k)).length ≤ _
    rw [hP]
    have := Nw.adds_len (t := k) (fr := 0) (to := 1) (time := y) X.F (Nw.insA X.P ⟨y, 0, 1, X.cnt + 1, 0, D k⟩) ⟨y, 0, 1, X.cnt + 1, 0, D k⟩
    rw [Nw.insA_len] at this
    have := h.len
    omega
  · have ha : a ∈ Nw.sndP X k 0 1 (D k) := ha
    rw [hP] at ha
    rcases a2 a ha with ha | ⟨e1, e2, e3⟩
    · rcases Nw.insA_mem.1 ha with rfl | ha
      · exact ⟨rfl, by show y ≤ _; omega, k, Nat.lt_succ_self k, rfl⟩
      · obtain ⟨b1, b2, j, b3, b4⟩ := h.all a ha
        exact ⟨b1, b2, j, by omega, b4⟩
    · exact ⟨e1, by omega, k, Nat.lt_succ_self k, e2⟩
  · show ∃ a ∈ Nw.sndP X k 0 1 (D k), a.d = D j
    rw [hP]
    by_cases hjk : j = k
    · subst hjk
      exact ⟨_, a1 _ (Nw.insA_mem.2 (Or.inl rfl)), rfl⟩
    · obtain ⟨a, ha, e⟩ := h.got j (by omega)
      exact ⟨a, a1 a (Nw.insA_mem.2 (Or.inr ha)), e⟩
end Go.Proofs.Ytgaodeffbgppmaa


namespace Go.Proofs.Ytgaodeffbgppmaa
open Go.X
set_option linter.unusedSimpArgs false
set_option linter.unusedVariables false
open P4
open P5
structure Q4 where
  (a b c d : Int)
deriving Inhabited
def enc4 (q : Q4) : List C := [.i .u8 q.a, .i .u8 q.b, .i .u8 q.c, .i .u8 q.d]
def Q4.ok (q : Q4) : Prop := (0 ≤ q.a ∧ q.a ≤ 255) ∧ (0 ≤ q.b ∧ q.b ≤ 255) ∧ (0 ≤ q.c ∧ q.c ≤ 255) ∧ (0 ≤ q.d ∧ q.d ≤ 255)
abbrev q4R (l : List Q4) (c : Nat) : Ck := .row false false 65 4 l.length c (rowOf enc4 l)
def flt (q : Q4) : Nw.Flt := ⟨2 + q.a % 2, 0, 1, q.b, q.b + q.c, q.d⟩
theorem flt_mild {l : List Q4} (h : ∀ q ∈ l, q.ok) (hl : l.length ≤ 30) : mild (l.map flt) := by
  refine ⟨by rw [List.length_map]; exact hl, fun f hf => ?_⟩
  obtain ⟨q, hq, rfl⟩ := List.mem_map.1 hf
  have := h q hq
  unfold Q4.ok at this
  unfold flt
  simp only
  omega
theorem flt_new {l : List Q4} (h : ∀ q ∈ l, q.ok) (hl : l.length ≤ 30) : Nw.newE 2 5 (l.map flt) = 0 := by
  refine Nw.newE_ok (by decide) (by rw [List.length_map]; omega) (fun i hi => ?_)
  rw [getD_at hi]
  obtain ⟨q, hq, e⟩ := List.mem_map.1 (List.getElem_mem hi)
  rw [← e]
  have := h q hq
  unfold Q4.ok at this
  unfold flt Nw.okF
  simp only
  omega
structure Az (G : List Nw.Arv) (n : Nat) (D : Nat → ByteArray) (l : List UInt8) (z i : Nat) (S : List Nat) (N : Nat) (J : List Nat) (L : List Tx) (dn : List (Int × Int)) : Prop where
  im : i ≤ G.length
  nd : S.Nodup
  lt : ∀ k ∈ S, k < n
  cov : ∀ q, q < i → ∃ k, k ∈ S ∧ (G.getD q default).d = D k
  ok : AOk 1 N J L dn
  dl : dn.length ≤ 1
  rel : RelZ n (DD l z) S L dn
theorem cov_step {G : List Nw.Arv} {D : Nat → ByteArray} {S : List Nat} {i k : Nat} (h : ∀ q, q < i → ∃ j, j ∈ S ∧ (G.getD q default).d = D j) (hk : k ∈ S) (hd : (G.getD i default).d = D k) : ∀ q, q < i + 1 → ∃ j, j ∈ S ∧ (G.getD q default).d = D j := fun q hq => by
  by_cases h1 : q = i
  · exact ⟨k, hk, by rw [h1]; exact hd⟩
  · exact h q (by omega)
theorem rH15yB0 {σ : List Sg} {H h' : List Fam} {v : T} {K : T → List Fam → Prop} {H' : List Fam} {v' : T} {N : Nat} (hk : K v' H') (hN : H.length = N := by (try simp only [↓List.length_cons, ↓List.length_nil, Nat.reduceAdd]) <;> rfl) (h : givesF σ N H σ h' = some H' := by (try simp (maxSteps := 1000000) only [givesF, setF, updF, Fam.zeroth, Fam.rk, Ck.rk, C.rk, E.rk, T.rk, key, List.map_cons, List.map_nil, List.cons_append, List.nil_append, List.length_cons, List.length_nil, Option.map_some, Option.bind_some, Nat.reduceAdd, Nat.zero_add, Nat.add_zero, Nat.add_sub_cancel_left, Int.toNat_natCast, reps, List.all_cons, List.all_nil, C.flat, List.append_eq, Bool.not_true, Bool.and_true, Bool.or_false, Bool.or_self, Bool.not_false, List.append_nil, Bool.and_self, ↓Nw.lsG_rk, ↓mtG_rk, ↓winO_rk, encG]) <;> rfl) (hv : v.rk σ N = v' := by (try simp only [givesF, setF, updF, Fam.zeroth, Fam.rk, Ck.rk, C.rk, E.rk, T.rk, key, List.map_cons, List.map_nil, List.cons_append, List.nil_append, List.length_cons, List.length_nil, Option.map_some, Option.bind_some, Nat.reduceAdd, Nat.zero_add, Nat.add_zero, Nat.add_sub_cancel_left, Int.toNat_natCast, reps, List.all_cons, List.all_nil, C.flat, List.append_eq, Bool.not_true, Bool.and_true, Bool.or_false, Bool.or_self, Bool.not_false, List.append_nil, Bool.and_self, ↓Nw.lsG_rk, ↓mtG_rk, ↓winO_rk, encG]) <;> rfl) : RetG σ H h' v K := ret_mk3 hN h hv hk
theorem rH15yB1 {σ : List Sg} {H h' : List Fam} {v : T} {K : T → List Fam → Prop} {H' : List Fam} {v' : T} {N : Nat} (hk : K v' H') (hN : H.length = N := by (try simp only [↓List.length_cons, ↓List.length_nil, Nat.reduceAdd]) <;> rfl) (h : givesF σ N H σ h' = some H' := by (try simp (maxSteps := 1000000) only [givesF, setF, updF, Fam.zeroth, Fam.rk, Ck.rk, C.rk, E.rk, T.rk, key, List.map_cons, List.map_nil, List.cons_append, List.nil_append, List.length_cons, List.length_nil, Option.map_some, Option.bind_some, Nat.reduceAdd, Nat.zero_add, Nat.add_zero, Nat.add_sub_cancel_left, Int.toNat_natCast, reps, List.all_cons, List.all_nil, C.flat, List.append_eq, Bool.not_true, Bool.and_true, Bool.or_false, Bool.or_self, Bool.not_false, List.append_nil, Bool.and_self, ↓Nw.lsG_rk, ↓mtG_rk, ↓winO_rk]) <;> rfl) (hv : v.rk σ N = v' := by (try simp only [givesF, setF, updF, Fam.zeroth, Fam.rk, Ck.rk, C.rk, E.rk, T.rk, key, List.map_cons, List.map_nil, List.cons_append, List.nil_append, List.length_cons, List.length_nil, Option.map_some, Option.bind_some, Nat.reduceAdd, Nat.zero_add, Nat.add_zero, Nat.add_sub_cancel_left, Int.toNat_natCast, reps, List.all_cons, List.all_nil, C.flat, List.append_eq, Bool.not_true, Bool.and_true, Bool.or_false, Bool.or_self, Bool.not_false, List.append_nil, Bool.and_self, ↓Nw.lsG_rk, ↓mtG_rk, ↓winO_rk]) <;> rfl) : RetG σ H h' v K := ret_mk3 hN h hv hk
theorem rH15yB2 {σ : List Sg} {H h' : List Fam} {v : T} {K : T → List Fam → Prop} {H' : List Fam} {v' : T} {N : Nat} (hk : K v' H') (hN : H.length = N := by (try simp only [↓List.length_cons, ↓List.length_nil, Nat.reduceAdd]) <;> rfl) (h : givesF σ N H σ h' = some H' := by (try simp (maxSteps := 1000000) only [givesF, setF, updF, Fam.zeroth, Fam.rk, Ck.rk, C.rk, E.rk, T.rk, key, List.map_cons, List.map_nil, List.cons_append, List.nil_append, List.length_cons, List.length_nil, Option.map_some, Option.bind_some, Nat.reduceAdd, Nat.zero_add, Nat.add_zero, Nat.add_sub_cancel_left, Int.toNat_natCast, reps, List.all_cons, List.all_nil, C.flat, List.append_eq, Bool.not_true, Bool.and_true, Bool.or_false, Bool.or_self, Bool.not_false, List.append_nil, Bool.and_self, ↓Nw.lsG_rk, ↓mtG_rk, ↓winO_rk, encG, encK, map_rk_id]) <;> rfl) (hv : v.rk σ N = v' := by (try simp only [givesF, setF, updF, Fam.zeroth, Fam.rk, Ck.rk, C.rk, E.rk, T.rk, key, List.map_cons, List.map_nil, List.cons_append, List.nil_append, List.length_cons, List.length_nil, Option.map_some, Option.bind_some, Nat.reduceAdd, Nat.zero_add, Nat.add_zero, Nat.add_sub_cancel_left, Int.toNat_natCast, reps, List.all_cons, List.all_nil, C.flat, List.append_eq, Bool.not_true, Bool.and_true, Bool.or_false, Bool.or_self, Bool.not_false, List.append_nil, Bool.and_self, ↓Nw.lsG_rk, ↓mtG_rk, ↓winO_rk, encG, encK, map_rk_id]) <;> rfl) : RetG σ H h' v K := ret_mk3 hN h hv hk
theorem cH15yB3 {P : Program} {F : Nat} {args : List T} {H : List Fam} {K : T → List Fam → Prop} {σ : List Sg} {nl : List Fam} {args0 : List T} {h0 : List Fam} {Q : T → List Fam → Prop} {H2 H1 : List Fam} {N n : Nat} (hc : Ctr P F args0 h0 Q) (hk : ∀ v h', Q v h' → capsP h' → RetG σ H2 h' v K) (hap : apart σ = true := by rfl) (hnl : nl.all nilB = true := by rfl) (h1 : H ++ nl = H1 := by first | exact List.append_nil _ | ((try simp only [List.cons_append, List.nil_append]) <;> rfl)) (hN : H1.length = N := by (try simp only [↓List.length_cons, ↓List.length_nil, Nat.reduceAdd]) <;> rfl) (hn : H.length = n := by (try simp only [↓List.length_cons, ↓List.length_nil, Nat.reduceAdd]) <;> rfl) (hH : givesF σ N H1 σ h0 = some H2 := by (try simp (maxSteps := 1000000) only [givesF, setF, updF, Fam.zeroth, Fam.rk, Ck.rk, C.rk, E.rk, T.rk, key, List.map_cons, List.map_nil, List.cons_append, List.nil_append, List.length_cons, List.length_nil, Option.map_some, Option.bind_some, Nat.reduceAdd, Nat.zero_add, Nat.add_zero, Nat.add_sub_cancel_left, Int.toNat_natCast, reps, List.all_cons, List.all_nil, C.flat, List.append_eq, Bool.not_true, Bool.and_true, Bool.or_false, Bool.or_self, Bool.not_false, List.append_nil, Bool.and_self, ↓Nw.lsG_rk, ↓mtG_rk, ↓winO_rk]) <;> rfl) (hle : leS n H1 σ N σ h0 (belsK N (h0.map (Fam.rk σ N)) (argsK n args (args0.map (T.rk σ N)) True)) := by repeat' first | refine And.intro ?_ ?_ | exact xeC | fail) : CallK P F args H K := CallK.mk3 hc hap hnl h1 hN hn hH hle hk
set_option maxRecDepth 20000 in
set_option maxHeartbeats 4000000 in
theorem ctravels (l : List UInt8) (sz : UInt8) (Q : List Q4) (c : Nat) (hl : l.length ≤ 9223372036854775807) (hQ : Q.length ≤ 9223372036854775807) (hok : ∀ q ∈ Q, q.ok) :
    Ctr Try.prog 9 [.c (.s (mkS l)), .c (.i .u8 (sz.toNat : Nat)), .c (.sl 0 0 4 0 Q.length c)] [.one (q4R Q c)] fun v _ => v = .c .tt := by
  have hzl : (mkS l).size = l.length := rfl
  have hmod : IntKind.i64.wrap ((sz.toNat : Int).tmod 100) = ((sz.toNat % 100 : Nat) : Int) := by
    rw [Int.tmod_eq_emod_of_nonneg (by omega), IntKind.wrap_i64]
    omega
  refine Ctr.mk' tbv mixed Try.func9 rfl rfl rfl (fun _ _ => by kernel_rfl) (by kernel_rfl) (by rfl) (by rfl) (by (repeat' first | refine And.intro ?_ ?_ | exact xeC | fail)) ?_
  repeat' (first | (fail_if_success (with_reducible refine xstp ?_)); first | ((with_reducible refine And.intro (fun (hb : _ = true) => ?_) (fun (hb : _ = false) => ?_)) <;> replace hb := xnC hb <;> (try first | exact xfC | exact bff hb (by assumption) | exact bff (by assumption) hb)) | (with_reducible refine Both.mk ?_ ?_) | ((with_reducible refine And.intro ?_ ?_); focus exact xoC) | ((with_reducible refine Or.inl ⟨?_, ?_, ?_⟩); (focus rfl); focus exact xaC) | ((with_reducible refine xwB ?_ ?_); focus exact xaC) | ((with_reducible refine xwC ?_ ?_); focus exact xaC) | ((with_reducible refine xwD ?_ ?_); focus exact xaC) | ((with_reducible refine xwE ?_ ?_); focus exact xaC) | (with_reducible intro hc; (try simp only [capsP, and_true] at hc); (try exact xfC)) | ((fail_if_success (with_reducible first | refine xgon ?_ | intro _)); (conv => whnf); (fail_if_success (fail_if_success (with_reducible first | refine xstp ?_ | refine Both.mk ?_ ?_ | refine xgon ?_ | intro _)))))
  · skip
    refine cH15yB3 (σ := []) (nl := []) (cawake) ?_
    rintro v h' ⟨rfl, rfl⟩ hcaps
    refine rH15yB0 ?_
    repeat' (first | (fail_if_success (with_reducible refine xstp ?_)); first | ((with_reducible refine And.intro (fun (hb : _ = true) => ?_) (fun (hb : _ = false) => ?_)) <;> replace hb := xnC hb <;> (try first | exact xfC | exact bff hb (by assumption) | exact bff (by assumption) hb)) | (with_reducible refine Both.mk ?_ ?_) | ((with_reducible refine And.intro ?_ ?_); focus exact xoC) | ((with_reducible refine Or.inl ⟨?_, ?_, ?_⟩); (focus rfl); focus exact xaC) | ((with_reducible refine xwB ?_ ?_); focus exact xaC) | ((with_reducible refine xwC ?_ ?_); focus exact xaC) | ((with_reducible refine xwD ?_ ?_); focus exact xaC) | ((with_reducible refine xwE ?_ ?_); focus exact xaC) | (with_reducible intro hc; (try simp only [capsP, and_true] at hc); (try exact xfC)) | ((fail_if_success (with_reducible first | refine xgon ?_ | intro _)); (conv => whnf); (fail_if_success (fail_if_success (with_reducible first | refine xstp ?_ | refine Both.mk ?_ ?_ | refine xgon ?_ | intro _)))))
    refine FinK.mk ⟨[0], _, [.one .no], rfl, ?_⟩
    (repeat' first | refine And.intro ?_ ?_ | exact xeC | fail)
  · skip
    refine cH15yB3 (σ := []) (nl := []) (cawake) ?_
    rintro v h' ⟨rfl, rfl⟩ hcaps
    refine rH15yB0 ?_
    repeat' (first | (fail_if_success (with_reducible refine xstp ?_)); first | ((with_reducible refine And.intro (fun (hb : _ = true) => ?_) (fun (hb : _ = false) => ?_)) <;> replace hb := xnC hb <;> (try first | exact xfC | exact bff hb (by assumption) | exact bff (by assumption) hb)) | (with_reducible refine Both.mk ?_ ?_) | ((with_reducible refine And.intro ?_ ?_); focus exact xoC) | ((with_reducible refine Or.inl ⟨?_, ?_, ?_⟩); (focus rfl); focus exact xaC) | ((with_reducible refine xwB ?_ ?_); focus exact xaC) | ((with_reducible refine xwC ?_ ?_); focus exact xaC) | ((with_reducible refine xwD ?_ ?_); focus exact xaC) | ((with_reducible refine xwE ?_ ?_); focus exact xaC) | (with_reducible intro hc; (try simp only [capsP, and_true] at hc); (try exact xfC)) | ((fail_if_success (with_reducible first | refine xgon ?_ | intro _)); (conv => whnf); (fail_if_success (fail_if_success (with_reducible first | refine xstp ?_ | refine Both.mk ?_ ?_ | refine xgon ?_ | intro _)))))
    refine FinK.mk ⟨[0], _, [.one .no], rfl, ?_⟩
    (repeat' first | refine And.intro ?_ ?_ | exact xeC | fail)
  refine LoopK.mk' {p : Nat × Nat // p.1 ≤ Q.length}
    (fun ⟨(i, c1), _⟩ => ⟨[(0, .c (.s (mkS l))), (1, .c (.i .u8 (sz.toNat : Nat))), (2, .c (.sl 0 0 4 0 Q.length c)), (7, .c (.sl 1 0 6 0 ((Q.take i).map flt).length c1)), (8, .c (.i .i64 (i : Nat)))],
      [.one (q4R Q c), .one (Nw.fltR true ((Q.take i).map flt) c1)]⟩) (fun p => Q.length - p.1.1)
    ⟨⟨(0, 0), Nat.zero_le _⟩, [0, 99], ?_⟩ ?_
  · (repeat' first | refine And.intro ?_ ?_ | exact xeC | fail)
    all_goals (intro i hi; exact absurd hi (Nat.not_lt_zero i))
  rintro ⟨⟨i, c1⟩, hi⟩
  simp only at hi
  have hq : i < Q.length → (Q.getD i default).ok := fun h => hok _ (by rw [getD_at h]; exact List.getElem_mem _)
  have hidx : 0 + ((i : Nat) : Int).toNat = i := by omega
  repeat' (first | (fail_if_success (with_reducible refine xstp ?_)); first | ((with_reducible refine And.intro (fun (hb : _ = true) => ?_) (fun (hb : _ = false) => ?_)) <;> replace hb := xnC hb <;> (try first | exact xfC | exact bff hb (by assumption) | exact bff (by assumption) hb)) | (with_reducible refine Both.mk ?_ ?_) | ((with_reducible refine And.intro ?_ ?_); focus exact xoC) | ((with_reducible refine Or.inl ⟨?_, ?_, ?_⟩); (focus rfl); focus exact xaC) | ((with_reducible refine xwB ?_ ?_); focus exact xaC) | ((with_reducible refine xwC ?_ ?_); focus exact xaC) | ((with_reducible refine xwD ?_ ?_); focus exact xaC) | ((with_reducible refine xwE ?_ ?_); focus exact xaC) | (with_reducible intro hc; (try simp only [capsP, and_true] at hc); (try exact xfC)) | ((fail_if_success (with_reducible first | refine xgon ?_ | intro _)); (conv => whnf); (fail_if_success (fail_if_success (with_reducible first | refine xstp ?_ | refine Both.mk ?_ ?_ | refine xgon ?_ | intro _)))))
  · have hq := hq (by omega)
    unfold Q4.ok at hq
    have w1 : IntKind.i64.wrap ((Q.getD i default).a.tmod 2) = (Q.getD i default).a % 2 := by rw [Int.tmod_eq_emod_of_nonneg hq.1.1, IntKind.wrap_i64]; omega
    have w2 : IntKind.i64.wrap (Q.getD i default).b = (Q.getD i default).b := by rw [IntKind.wrap_i64]; omega
    have w3 : IntKind.i64.wrap (Q.getD i default).c = (Q.getD i default).c := by rw [IntKind.wrap_i64]; omega
    have w4 : IntKind.i64.wrap (Q.getD i default).d = (Q.getD i default).d := by rw [IntKind.wrap_i64]; omega
    have hms : (Q.take (i + 1)).map flt = (Q.take i).map flt ++ [flt (Q.getD i default)] := by rw [take_snocG Q (by omega), List.map_append]; rfl
    have hml : ((Q.take i).map flt).length = i := by rw [List.length_map, List.length_take]; omega
    rw [hidx, w1]
    repeat' (first | (fail_if_success (with_reducible refine xstp ?_)); first | ((with_reducible refine And.intro (fun (hb : _ = true) => ?_) (fun (hb : _ = false) => ?_)) <;> replace hb := xnC hb <;> (try first | exact xfC | exact bff hb (by assumption) | exact bff (by assumption) hb)) | (with_reducible refine Both.mk ?_ ?_) | ((with_reducible refine And.intro ?_ ?_); focus exact xoC) | ((with_reducible refine Or.inl ⟨?_, ?_, ?_⟩); (focus rfl); focus exact xaC) | ((with_reducible refine xwB ?_ ?_); focus exact xaC) | ((with_reducible refine xwC ?_ ?_); focus exact xaC) | ((with_reducible refine xwD ?_ ?_); focus exact xaC) | ((with_reducible refine xwE ?_ ?_); focus exact xaC) | (with_reducible intro hc; (try simp only [capsP, and_true] at hc); (try exact xfC)) | ((fail_if_success (with_reducible first | refine xgon ?_ | intro _)); (conv => whnf); (fail_if_success (fail_if_success (with_reducible first | refine xstp ?_ | refine Both.mk ?_ ?_ | refine xgon ?_ | intro _)))))
    rw [w2, w3]
    repeat' (first | (fail_if_success (with_reducible refine xstp ?_)); first | ((with_reducible refine And.intro (fun (hb : _ = true) => ?_) (fun (hb : _ = false) => ?_)) <;> replace hb := xnC hb <;> (try first | exact xfC | exact bff hb (by assumption) | exact bff (by assumption) hb)) | (with_reducible refine Both.mk ?_ ?_) | ((with_reducible refine And.intro ?_ ?_); focus exact xoC) | ((with_reducible refine Or.inl ⟨?_, ?_, ?_⟩); (focus rfl); focus exact xaC) | ((with_reducible refine xwB ?_ ?_); focus exact xaC) | ((with_reducible refine xwC ?_ ?_); focus exact xaC) | ((with_reducible refine xwD ?_ ?_); focus exact xaC) | ((with_reducible refine xwE ?_ ?_); focus exact xaC) | (with_reducible intro hc; (try simp only [capsP, and_true] at hc); (try exact xfC)) | ((fail_if_success (with_reducible first | refine xgon ?_ | intro _)); (conv => whnf); (fail_if_success (fail_if_success (with_reducible first | refine xstp ?_ | refine Both.mk ?_ ?_ | refine xgon ?_ | intro _)))))
    rw [w4]
    repeat' (first | (fail_if_success (with_reducible refine xstp ?_)); first | ((with_reducible refine And.intro (fun (hb : _ = true) => ?_) (fun (hb : _ = false) => ?_)) <;> replace hb := xnC hb <;> (try first | exact xfC | exact bff hb (by assumption) | exact bff (by assumption) hb)) | (with_reducible refine Both.mk ?_ ?_) | ((with_reducible refine And.intro ?_ ?_); focus exact xoC) | ((with_reducible refine Or.inl ⟨?_, ?_, ?_⟩); (focus rfl); focus exact xaC) | ((with_reducible refine xwB ?_ ?_); focus exact xaC) | ((with_reducible refine xwC ?_ ?_); focus exact xaC) | ((with_reducible refine xwD ?_ ?_); focus exact xaC) | ((with_reducible refine xwE ?_ ?_); focus exact xaC) | (with_reducible intro hc; (try simp only [capsP, and_true] at hc); (try exact xfC)) | ((fail_if_success (with_reducible first | refine xgon ?_ | intro _)); (conv => whnf); (fail_if_success (fail_if_success (with_reducible first | refine xstp ?_ | refine Both.mk ?_ ?_ | refine xgon ?_ | intro _)))))
    rename_i c3
    refine ⟨⟨(i + 1, c3), by simp only; omega⟩, [0, 4], by simp only; omega, ?_⟩
    (repeat' first | refine And.intro ?_ ?_ | exact xeC | fail)
    all_goals try rw [hms]
    all_goals first | omega | (simp only [List.length_append, List.length_singleton]; done) | (rw [List.length_append, List.length_singleton]; omega) | (intro i hi; (first | refine app_rowG _ _ _ _ ?_ i hi | refine app_row _ _ _ ?_ i hi); first | rfl | (simp only [Int.toNat_natCast, Nat.zero_add]; rfl))
  · have hil : i = Q.length := by omega
    rw [hil, List.take_of_length_le (Nat.le_refl _)]
    have hn0 := flt_new hok (by omega)
    have hmi := flt_mild hok (by omega)
    refine cH15yB3 (σ := [.whole 1]) (nl := []) (Nw.cNew 2 5 (Q.map flt) c1 true (by rw [List.length_map]; omega)) ?_
    rintro v h' (⟨h1, rfl, rfl⟩ | ⟨h1, c2, rfl, rfl⟩) hcaps
    · exact absurd hn0 h1
    refine rH15yB1 ?_
    repeat' (first | (fail_if_success (with_reducible refine xstp ?_)); first | ((with_reducible refine And.intro (fun (hb : _ = true) => ?_) (fun (hb : _ = false) => ?_)) <;> replace hb := xnC hb <;> (try first | exact xfC | exact bff hb (by assumption) | exact bff (by assumption) hb)) | (with_reducible refine Both.mk ?_ ?_) | ((with_reducible refine And.intro ?_ ?_); focus exact xoC) | ((with_reducible refine Or.inl ⟨?_, ?_, ?_⟩); (focus rfl); focus exact xaC) | ((with_reducible refine xwB ?_ ?_); focus exact xaC) | ((with_reducible refine xwC ?_ ?_); focus exact xaC) | ((with_reducible refine xwD ?_ ?_); focus exact xaC) | ((with_reducible refine xwE ?_ ?_); focus exact xaC) | (with_reducible intro hc; (try simp only [capsP, and_true] at hc); (try exact xfC)) | ((fail_if_success (with_reducible first | refine xgon ?_ | intro _)); (conv => whnf); (fail_if_success (fail_if_success (with_reducible first | refine xstp ?_ | refine Both.mk ?_ ?_ | refine xgon ?_ | intro _)))))
    rw [hmod]
    obtain ⟨z, hz⟩ : ∃ z : Nat, z = sz.toNat % 100 + 10 := ⟨_, rfl⟩
    have hzz : ((sz.toNat % 100 : Nat) : Int) + 10 = (z : Nat) := by omega
    have hz1 : 10 ≤ z ∧ z ≤ 109 := by omega
    rw [hzz]
    have hoks : okS 3 (z : Int) := by unfold okS; omega
    have hcn : cnt l.length z ≤ 64 := by have := (cnt_64 (n := l.length) (z := z) (by omega)).1; omega
    have hcn1 : 1 ≤ cnt l.length z := by unfold cnt; omega
    have hge := cnt_ge (n := l.length) (z := z) (by omega)
    have hspl : spl 3 l (z : Int) = (parts 3 l z (cnt l.length z) (cnt l.length z), 0) := by
      unfold spl
      rw [if_neg (by simpa using hoks), if_neg (by rw [Int.toNat_natCast]; omega), Int.toNat_natCast]
    have hpok : ∀ k, k < cnt l.length z → okF (part 3 l z (cnt l.length z) k) := fun k hk => by
      have := part_ok (id := 3) (size := (z : Int)) (l := l) hoks (by rw [Int.toNat_natCast]; exact hcn) (i := k) (by rw [Int.toNat_natCast]; exact hk)
      rw [Int.toNat_natCast] at this
      exact this
    generalize hn : cnt l.length z = n at *
    have hpl := parts_len 3 l z n n
    refine cH15yB3 (σ := []) (nl := []) (cSplit 3 l (z : Int) (by omega)) ?_
    rw [hspl]
    rintro v h' ⟨c3, rfl, rfl⟩ hcaps
    refine rH15yB1 ?_
    repeat' (first | (fail_if_success (with_reducible refine xstp ?_)); first | ((with_reducible refine And.intro (fun (hb : _ = true) => ?_) (fun (hb : _ = false) => ?_)) <;> replace hb := xnC hb <;> (try first | exact xfC | exact bff hb (by assumption) | exact bff (by assumption) hb)) | (with_reducible refine Both.mk ?_ ?_) | ((with_reducible refine And.intro ?_ ?_); focus exact xoC) | ((with_reducible refine Or.inl ⟨?_, ?_, ?_⟩); (focus rfl); focus exact xaC) | ((with_reducible refine xwB ?_ ?_); focus exact xaC) | ((with_reducible refine xwC ?_ ?_); focus exact xaC) | ((with_reducible refine xwD ?_ ?_); focus exact xaC) | ((with_reducible refine xwE ?_ ?_); focus exact xaC) | (with_reducible intro hc; (try simp only [capsP, and_true] at hc); (try exact xfC)) | ((fail_if_success (with_reducible first | refine xgon ?_ | intro _)); (conv => whnf); (fail_if_success (fail_if_success (with_reducible first | refine xstp ?_ | refine Both.mk ?_ ?_ | refine xgon ?_ | intro _)))))
    refine cH15yB3 (σ := []) (nl := []) (cNewA 1) ?_
    rintro v h' ⟨rfl, rfl⟩ hcaps
    refine rH15yB1 ?_
    repeat' (first | (fail_if_success (with_reducible refine xstp ?_)); first | ((with_reducible refine And.intro (fun (hb : _ = true) => ?_) (fun (hb : _ = false) => ?_)) <;> replace hb := xnC hb <;> (try first | exact xfC | exact bff hb (by assumption) | exact bff (by assumption) hb)) | (with_reducible refine Both.mk ?_ ?_) | ((with_reducible refine And.intro ?_ ?_); focus exact xoC) | ((with_reducible refine Or.inl ⟨?_, ?_, ?_⟩); (focus rfl); focus exact xaC) | ((with_reducible refine xwB ?_ ?_); focus exact xaC) | ((with_reducible refine xwC ?_ ?_); focus exact xaC) | ((with_reducible refine xwD ?_ ?_); focus exact xaC) | ((with_reducible refine xwE ?_ ?_); focus exact xaC) | (with_reducible intro hc; (try simp only [capsP, and_true] at hc); (try exact xfC)) | ((fail_if_success (with_reducible first | refine xgon ?_ | intro _)); (conv => whnf); (fail_if_success (fail_if_success (with_reducible first | refine xstp ?_ | refine Both.mk ?_ ?_ | refine xgon ?_ | intro _)))))
    obtain ⟨D, hD⟩ : ∃ D : Nat → ByteArray, D = fun j => mkS (frameL (part 3 l z n j)) := ⟨_, rfl⟩
    have hDs : ∀ k, k < n → (D k).size ≤ 4000 := fun k hk => by
      rw [hD]
      have h1 := frame_small (hpok k hk) (by unfold part; simp only [List.length_take, List.length_drop]; omega)
      show (frameL (part 3 l z n k)).length ≤ 4000
      omega
    refine LoopK.mk' {p : Nat × Nw.Pg × Nw.Nt × (Nat → Nat) // p.1 ≤ n ∧ Nw.Rl p.2.1 p.2.2.1 ∧ TI p.2.2.1 D p.1}
      (fun ⟨(k, N, X, cs), _⟩ => ⟨[(0, .c (.s (mkS l))), (10, .c (.p 1 0 0)), (12, .c (.sl 5 0 4 0 (parts 3 l z n n).length c3)), (14, .c (.p 6 0 0)), (15, .c (.i .i64 (k : Nat)))],
        [.one (q4R Q c), .one (.cells true [.i .i64 N.m, .i .i64 N.lat, .sl 2 0 6 0 N.F.length c2, .mp 3 0, .i .i64 N.cnt, .i .i64 N.sent, .i .i64 N.now]), .one (Nw.fltR true N.F c2), .one (Nw.mapN 4 N.M N.D cs N.ck), Nw.arrs N.D cs, .one (fgR (parts 3 l z n n) c3),
          .one (asm 1 7 8 0 0 0 0 0), .one (opnR 9 [] 0), .one (donR [] 0), .many (txO 10 []), .many (paO [])]⟩) (fun p => n - p.1.1)
      ⟨⟨(0, Nw.N0 2 5 (Q.map flt), Nw.X0 2 5 (Q.map flt), fun _ => 0), Nat.zero_le _, Nw.rl0 _ _ _, ⟨rfl, rfl, hmi, Int.le_refl _, rfl, Nat.le_refl _, fun a ha => absurd ha List.not_mem_nil, fun j hj => absurd hj (Nat.not_lt_zero j)⟩⟩, [0, 2, 3, 4, 5, 6, 7, 8, 9, 10, 11], ?_⟩ ?_
    · (repeat' first | refine And.intro ?_ ?_ | exact xeC | fail)
      all_goals first | (exact xmC) | exact fun x => Nw.lsG_le | exact fun x => Nw.lsG_bel | exact fun x => Nw.lsG_belR | (intro i hi; exact absurd hi (Nat.not_lt_zero i)) | skip
    rintro ⟨⟨k, N, X, cs⟩, hk, hr, hT⟩
    simp only at hk hr hT
    repeat' (first | (fail_if_success (with_reducible refine xstp ?_)); first | ((with_reducible refine And.intro (fun (hb : _ = true) => ?_) (fun (hb : _ = false) => ?_)) <;> replace hb := xnC hb <;> (try first | exact xfC | exact bff hb (by assumption) | exact bff (by assumption) hb)) | (with_reducible refine Both.mk ?_ ?_) | ((with_reducible refine And.intro ?_ ?_); focus exact xoC) | ((with_reducible refine Or.inl ⟨?_, ?_, ?_⟩); (focus rfl); focus exact xaC) | ((with_reducible refine xwB ?_ ?_); focus exact xaC) | ((with_reducible refine xwC ?_ ?_); focus exact xaC) | ((with_reducible refine xwD ?_ ?_); focus exact xaC) | ((with_reducible refine xwE ?_ ?_); focus exact xaC) | (with_reducible intro hc; (try simp only [capsP, and_true] at hc); (try exact xfC)) | ((fail_if_success (with_reducible first | refine xgon ?_ | intro _)); (conv => whnf); (fail_if_success (fail_if_success (with_reducible first | refine xstp ?_ | refine Both.mk ?_ ?_ | refine xgon ?_ | intro _)))))
    · have hkn : k < n := by omega
      have hkd : 0 + ((k : Nat) : Int).toNat = k := by omega
      have hg := parts_get 3 l z n n k hkn
      rw [hkd, hg]
      refine cH15yB3 (σ := []) (nl := []) (cFrame (part 3 l z n k) (by unfold part; simp only [List.length_take, List.length_drop]; omega)) ?_
      rw [show mkS (frameL (part 3 l z n k)) = D k by rw [hD]]
      rintro v h' ⟨rfl, rfl⟩ hcaps
      refine rH15yB0 ?_
      repeat' (first | (fail_if_success (with_reducible refine xstp ?_)); first | ((with_reducible refine And.intro (fun (hb : _ = true) => ?_) (fun (hb : _ = false) => ?_)) <;> replace hb := xnC hb <;> (try first | exact xfC | exact bff hb (by assumption) | exact bff (by assumption) hb)) | (with_reducible refine Both.mk ?_ ?_) | ((with_reducible refine And.intro ?_ ?_); focus exact xoC) | ((with_reducible refine Or.inl ⟨?_, ?_, ?_⟩); (focus rfl); focus exact xaC) | ((with_reducible refine xwB ?_ ?_); focus exact xaC) | ((with_reducible refine xwC ?_ ?_); focus exact xaC) | ((with_reducible refine xwD ?_ ?_); focus exact xaC) | ((with_reducible refine xwE ?_ ?_); focus exact xaC) | (with_reducible intro hc; (try simp only [capsP, and_true] at hc); (try exact xfC)) | ((fail_if_success (with_reducible first | refine xgon ?_ | intro _)); (conv => whnf); (fail_if_success (fail_if_success (with_reducible first | refine xstp ?_ | refine Both.mk ?_ ?_ | refine xgon ?_ | intro _)))))
      have h0 := hT.ok (by omega) (hDs k hkn)
      have hT' := hT.snd (by omega) (hDs k hkn)
      refine cH15yB3 (σ := [.whole 1, .whole 2, .whole 3, .whole 4]) (nl := []) (Nw.cSend3 hr (hT.xb (by omega)) (by rw [hT.cnt]; omega) c2 cs (k : Nat) 0 1 (D k)) ?_ (hle := by (repeat' first | refine And.intro ?_ ?_ | exact xeC | fail) <;> (first | exact fun x => Nw.lsG_le | exact fun x => Nw.lsG_bel | exact fun x => Nw.lsG_belR))
      rw [h0]
      rintro v h' ⟨N', cs', hr', rfl, rfl⟩ hcaps
      refine rH15yB0 ?_
      repeat' (first | (fail_if_success (with_reducible refine xstp ?_)); first | ((with_reducible refine And.intro (fun (hb : _ = true) => ?_) (fun (hb : _ = false) => ?_)) <;> replace hb := xnC hb <;> (try first | exact xfC | exact bff hb (by assumption) | exact bff (by assumption) hb)) | (with_reducible refine Both.mk ?_ ?_) | ((with_reducible refine And.intro ?_ ?_); focus exact xoC) | ((with_reducible refine Or.inl ⟨?_, ?_, ?_⟩); (focus rfl); focus exact xaC) | ((with_reducible refine xwB ?_ ?_); focus exact xaC) | ((with_reducible refine xwC ?_ ?_); focus exact xaC) | ((with_reducible refine xwD ?_ ?_); focus exact xaC) | ((with_reducible refine xwE ?_ ?_); focus exact xaC) | (with_reducible intro hc; (try simp only [capsP, and_true] at hc); (try exact xfC)) | ((fail_if_success (with_reducible first | refine xgon ?_ | intro _)); (conv => whnf); (fail_if_success (fail_if_success (with_reducible first | refine xstp ?_ | refine Both.mk ?_ ?_ | refine xgon ?_ | intro _)))))
      refine ⟨⟨(k + 1, N', Nw.snd X (k : Nat) 0 1 (D k), cs'), by simp only; omega, hr', hT'⟩, [0, 1, 2, 3, 11, 5, 6, 7, 8, 9, 10], by simp only; omega, ?_⟩
      (repeat' first | refine And.intro ?_ ?_ | exact xeC | fail)
      all_goals first | (exact xmC) | exact fun x => Nw.lsG_le | exact fun x => Nw.lsG_bel | exact fun x => Nw.lsG_belR | skip
    · obtain rfl : n = k := by omega
      have hall : Nw.rcvP 1000000 X.P = X.P := by
        unfold Nw.rcvP
        rw [List.filter_eq_self]
        intro a ha
        have := (hT.all a ha).2.1
        exact decide_eq_true (by omega)
      refine cH15yB3 (σ := [.whole 1, .name 2, .whole 3, .whole 4]) (nl := []) (Nw.cRecv3 hr (hT.xb (by omega)) c2 cs 1000000) ?_ (hle := by (repeat' first | refine And.intro ?_ ?_ | exact xeC | fail) <;> (first | exact fun x => Nw.lsG_le | exact fun x => Nw.lsG_bel | exact fun x => Nw.lsG_belR))
      rw [hall]
      rintro v h' ⟨N', c4, hr', hF', rfl, rfl⟩ hcaps
      refine rH15yB0 ?_
      repeat' (first | (fail_if_success (with_reducible refine xstp ?_)); first | ((with_reducible refine And.intro (fun (hb : _ = true) => ?_) (fun (hb : _ = false) => ?_)) <;> replace hb := xnC hb <;> (try first | exact xfC | exact bff hb (by assumption) | exact bff (by assumption) hb)) | (with_reducible refine Both.mk ?_ ?_) | ((with_reducible refine And.intro ?_ ?_); focus exact xoC) | ((with_reducible refine Or.inl ⟨?_, ?_, ?_⟩); (focus rfl); focus exact xaC) | ((with_reducible refine xwB ?_ ?_); focus exact xaC) | ((with_reducible refine xwC ?_ ?_); focus exact xaC) | ((with_reducible refine xwD ?_ ?_); focus exact xaC) | ((with_reducible refine xwE ?_ ?_); focus exact xaC) | (with_reducible intro hc; (try simp only [capsP, and_true] at hc); (try exact xfC)) | ((fail_if_success (with_reducible first | refine xgon ?_ | intro _)); (conv => whnf); (fail_if_success (fail_if_success (with_reducible first | refine xstp ?_ | refine Both.mk ?_ ?_ | refine xgon ?_ | intro _)))))
      obtain ⟨G, hG⟩ : ∃ G, G = X.P := ⟨_, rfl⟩
      rw [← hG]
      have hGl : G.length ≤ 100000 := by rw [hG]; have := hT.len; omega
      refine LoopK.mk' {p : Ai // Az G n D l z p.i p.S p.N p.J p.L p.dn}
        (fun ⟨⟨i, S, N, J, L, dn, c2, cd⟩, _⟩ => ⟨[(0, .c (.s (mkS l))), (14, .c (.p 1 0 0)), (18, .c (.i .i64 ((if S.length = n then 1 else 0 : Nat) : Nat))), (19, .c (.sl 6 0 5 0 G.length c4)), (20, .c (.i .i64 (i : Nat)))],
          [.one (q4R Q c), .one (asm 1 2 3 J.length L.length c2 dn.length cd), .one (opnR 4 (J ++ idsOf L) (J.length + c2)), .one (donR dn cd), .many (txO 5 L), .many (paO L), .one (Nw.arvP G c4)]⟩) (fun p => G.length - p.1.i)
        ⟨⟨⟨0, [], 0, [], [], [], 0, 0⟩, ⟨Nat.zero_le _, by simp, by simp, fun q hq => absurd hq (Nat.not_lt_zero q), aok0 (by decide) (by decide), by simp, Or.inl ⟨rfl, rfl, rfl⟩⟩⟩, [0, 6, 7, 8, 9, 10, 11], ?_⟩ ?_
      · (repeat' first | refine And.intro ?_ ?_ | exact xeC | fail)
        all_goals first | (exact xmC) | (rw [if_neg (by rw [List.length_nil]; omega)]; rfl) | skip
      rintro ⟨⟨i, S, N, J, L, dn, c2, cd⟩, him, hnd, hlt, hcov, hA, hdl, hR⟩
      simp only at him hnd hlt hcov hA hdl hR
      have hSn := nodup_le n S hnd hlt
      have hix : 0 + ((i : Nat) : Int).toNat = i := by omega
      repeat' (first | (fail_if_success (with_reducible refine xstp ?_)); first | ((with_reducible refine And.intro (fun (hb : _ = true) => ?_) (fun (hb : _ = false) => ?_)) <;> replace hb := xnC hb <;> (try first | exact xfC | exact bff hb (by assumption) | exact bff (by assumption) hb)) | (with_reducible refine Both.mk ?_ ?_) | ((with_reducible refine And.intro ?_ ?_); focus exact xoC) | ((with_reducible refine Or.inl ⟨?_, ?_, ?_⟩); (focus rfl); focus exact xaC) | ((with_reducible refine xwB ?_ ?_); focus exact xaC) | ((with_reducible refine xwC ?_ ?_); focus exact xaC) | ((with_reducible refine xwD ?_ ?_); focus exact xaC) | ((with_reducible refine xwE ?_ ?_); focus exact xaC) | (with_reducible intro hc; (try simp only [capsP, and_true] at hc); (try exact xfC)) | ((fail_if_success (with_reducible first | refine xgon ?_ | intro _)); (conv => whnf); (fail_if_success (fail_if_success (with_reducible first | refine xstp ?_ | refine Both.mk ?_ ?_ | refine xgon ?_ | intro _)))))
      · obtain ⟨b1, _, k, hkn, hd⟩ := hT.all (G.getD i default) (by rw [← hG, getD_at (by omega)]; exact List.getElem_mem _)
        rw [hix, hd]
        rw [show D k = mkS (frameL (part 3 l z n k)) by rw [hD]]
        refine cH15yB3 (σ := []) (nl := []) (cUnframe (frameL (part 3 l z n k)) (by have := frame_len (hpok k hkn); omega)) ?_
        rw [unf_fw (hpok k hkn)]
        rintro v h' ⟨rfl, rfl⟩ hcaps
        refine rH15yB0 ?_
        repeat' (first | (fail_if_success (with_reducible refine xstp ?_)); first | ((with_reducible refine And.intro (fun (hb : _ = true) => ?_) (fun (hb : _ = false) => ?_)) <;> replace hb := xnC hb <;> (try first | exact xfC | exact bff hb (by assumption) | exact bff (by assumption) hb)) | (with_reducible refine Both.mk ?_ ?_) | ((with_reducible refine And.intro ?_ ?_); focus exact xoC) | ((with_reducible refine Or.inl ⟨?_, ?_, ?_⟩); (focus rfl); focus exact xaC) | ((with_reducible refine xwB ?_ ?_); focus exact xaC) | ((with_reducible refine xwC ?_ ?_); focus exact xaC) | ((with_reducible refine xwD ?_ ?_); focus exact xaC) | ((with_reducible refine xwE ?_ ?_); focus exact xaC) | (with_reducible intro hc; (try simp only [capsP, and_true] at hc); (try exact xfC)) | ((fail_if_success (with_reducible first | refine xgon ?_ | intro _)); (conv => whnf); (fail_if_success (fail_if_success (with_reducible first | refine xstp ?_ | refine Both.mk ?_ ?_ | refine xgon ?_ | intro _)))))
        rw [hix, b1]
        refine cH15yB3 (σ := [.whole 1, .whole 2, .whole 3, .whole 4, .whole 5]) (nl := []) (cAdd 1 N J L dn c2 cd 0 (part 3 l z n k) hA) ?_ (hle := by (repeat' first | refine And.intro ?_ ?_ | exact xeC | fail) <;> (exact xmC))
        rintro v h' ⟨J', c5, cd3, hJ', hJl', rfl, rfl⟩ hcaps
        have hst := relZ_step (N := N) hR hnd hlt hkn (hpok k hkn)
        have hA' := addA_ok hA 0 (part 3 l z n k) (by omega) hJ' hJl'
        have hfold : (⟨3, (k : Nat), (n : Nat), DD l z k⟩ : Fg) = part 3 l z n k := rfl
        rw [hfold] at hst
        by_cases hin : k ∈ S
        · rw [hst.1 hin] at hA' ⊢
          refine rH15yB2 ?_
          repeat' (first | (fail_if_success (with_reducible refine xstp ?_)); first | ((with_reducible refine And.intro (fun (hb : _ = true) => ?_) (fun (hb : _ = false) => ?_)) <;> replace hb := xnC hb <;> (try first | exact xfC | exact bff hb (by assumption) | exact bff (by assumption) hb)) | (with_reducible refine Both.mk ?_ ?_) | ((with_reducible refine And.intro ?_ ?_); focus exact xoC) | ((with_reducible refine Or.inl ⟨?_, ?_, ?_⟩); (focus rfl); focus exact xaC) | ((with_reducible refine xwB ?_ ?_); focus exact xaC) | ((with_reducible refine xwC ?_ ?_); focus exact xaC) | ((with_reducible refine xwD ?_ ?_); focus exact xaC) | ((with_reducible refine xwE ?_ ?_); focus exact xaC) | (with_reducible intro hc; (try simp only [capsP, and_true] at hc); (try exact xfC)) | ((fail_if_success (with_reducible first | refine xgon ?_ | intro _)); (conv => whnf); (fail_if_success (fail_if_success (with_reducible first | refine xstp ?_ | refine Both.mk ?_ ?_ | refine xgon ?_ | intro _)))))
          refine ⟨⟨⟨i + 1, S, N + 1, J', L, dn, c5, cd3⟩, ⟨by simp only; omega, hnd, hlt, cov_step hcov hin hd, hA', hdl, hR⟩⟩, [0, 1, 8, 9, 10, 11, 6], by simp only; omega, ?_⟩
          (repeat' first | refine And.intro ?_ ?_ | exact xeC | fail)
          all_goals (exact xmC)
        · obtain ⟨L', dn', hR', hadd⟩ := hst.2 hin
          have hnd' : (S ++ [k]).Nodup := List.nodup_append.2 ⟨hnd, by simp, fun a ha b hb e => hin (by rw [List.mem_singleton.1 hb] at e; exact e ▸ ha)⟩
          have hlt' : ∀ j ∈ S ++ [k], j < n := fun j hj => by
            rcases List.mem_append.1 hj with hj | hj
            · exact hlt j hj
            · rw [List.mem_singleton.1 hj]; exact hkn
          have hcv' : ∀ q, q < i → ∃ j, j ∈ S ++ [k] ∧ (G.getD q default).d = D j := fun q hq => by
            obtain ⟨j, h1, h2⟩ := hcov q hq
            exact ⟨j, List.mem_append_left _ h1, h2⟩
          have hdl' : dn'.length ≤ 1 := by
            rcases hR' with ⟨_, _, rfl⟩ | ⟨_, _, rfl, _⟩ | ⟨_, _, _, rfl⟩ <;> simp
          have hSl : (S ++ [k]).length = S.length + 1 := by rw [List.length_append, List.length_singleton]
          have hSn' := nodup_le n _ hnd' hlt'
          have hne : S.length ≠ n := by omega
          rw [if_neg hne] at *
          by_cases hfin : S.length + 1 = n
          · rw [if_pos hfin, decide_eq_true hfin, outD_all hge] at hadd
            rw [hadd] at hA' ⊢
            refine rH15yB2 ?_
            repeat' (first | (fail_if_success (with_reducible refine xstp ?_)); first | ((with_reducible refine And.intro (fun (hb : _ = true) => ?_) (fun (hb : _ = false) => ?_)) <;> replace hb := xnC hb <;> (try first | exact xfC | exact bff hb (by assumption) | exact bff (by assumption) hb)) | (with_reducible refine Both.mk ?_ ?_) | ((with_reducible refine And.intro ?_ ?_); focus exact xoC) | ((with_reducible refine Or.inl ⟨?_, ?_, ?_⟩); (focus rfl); focus exact xaC) | ((with_reducible refine xwB ?_ ?_); focus exact xaC) | ((with_reducible refine xwC ?_ ?_); focus exact xaC) | ((with_reducible refine xwD ?_ ?_); focus exact xaC) | ((with_reducible refine xwE ?_ ?_); focus exact xaC) | (with_reducible intro hc; (try simp only [capsP, and_true] at hc); (try exact xfC)) | ((fail_if_success (with_reducible first | refine xgon ?_ | intro _)); (conv => whnf); (fail_if_success (fail_if_success (with_reducible first | refine xstp ?_ | refine Both.mk ?_ ?_ | refine xgon ?_ | intro _)))))
            refine ⟨⟨⟨i + 1, S ++ [k], N + 1, J', L', dn', c5, cd3⟩, ⟨by simp only; omega, hnd', hlt', cov_step hcv' (List.mem_append_right _ (List.mem_singleton_self _)) hd, hA', hdl', hR'⟩⟩, [0, 1, 8, 9, 10, 11, 6], by simp only; omega, ?_⟩
            (repeat' first | refine And.intro ?_ ?_ | exact xeC | fail)
            all_goals first
              | (exact xmC)
              | (rw [hSl, if_pos hfin]; rfl)
          · rw [if_neg hfin, decide_eq_false hfin] at hadd
            rw [hadd] at hA' ⊢
            refine rH15yB2 ?_
            repeat' (first | (fail_if_success (with_reducible refine xstp ?_)); first | ((with_reducible refine And.intro (fun (hb : _ = true) => ?_) (fun (hb : _ = false) => ?_)) <;> replace hb := xnC hb <;> (try first | exact xfC | exact bff hb (by assumption) | exact bff (by assumption) hb)) | (with_reducible refine Both.mk ?_ ?_) | ((with_reducible refine And.intro ?_ ?_); focus exact xoC) | ((with_reducible refine Or.inl ⟨?_, ?_, ?_⟩); (focus rfl); focus exact xaC) | ((with_reducible refine xwB ?_ ?_); focus exact xaC) | ((with_reducible refine xwC ?_ ?_); focus exact xaC) | ((with_reducible refine xwD ?_ ?_); focus exact xaC) | ((with_reducible refine xwE ?_ ?_); focus exact xaC) | (with_reducible intro hc; (try simp only [capsP, and_true] at hc); (try exact xfC)) | ((fail_if_success (with_reducible first | refine xgon ?_ | intro _)); (conv => whnf); (fail_if_success (fail_if_success (with_reducible first | refine xstp ?_ | refine Both.mk ?_ ?_ | refine xgon ?_ | intro _)))))
            refine ⟨⟨⟨i + 1, S ++ [k], N + 1, J', L', dn', c5, cd3⟩, ⟨by simp only; omega, hnd', hlt', cov_step hcv' (List.mem_append_right _ (List.mem_singleton_self _)) hd, hA', hdl', hR'⟩⟩, [0, 1, 8, 9, 10, 11, 6], by simp only; omega, ?_⟩
            (repeat' first | refine And.intro ?_ ?_ | exact xeC | fail)
            all_goals first
              | (exact xmC)
              | (rw [hSl, if_neg hfin]; done)
      all_goals (
        have hfull : S.length = n := by
          have hall2 : ∀ j, j < n → j ∈ S := fun j hj => by
            obtain ⟨a, ha, e⟩ := hT.got j hj
            rw [← hG] at ha
            obtain ⟨q, hq, rfl⟩ := List.mem_iff_getElem.1 ha
            obtain ⟨k, hk, e2⟩ := hcov q (by omega)
            rw [getD_at hq, e] at e2
            have : j = k := by
              rw [hD] at e2
              have e3 : frameL (part 3 l z n j) = frameL (part 3 l z n k) := mkS_inj.1 e2
              have e4 := unf_fw (hpok j hj)
              rw [e3, unf_fw (hpok k (hlt k hk))] at e4
              have e5 := congrArg (fun p => p.1.ix) e4
              have e6 : (k : Int) = (j : Int) := e5
              omega
            rw [this]
            exact hk
          have := all_len (S := S) n hall2
          omega)
      · have hL : L = [] := by
          rcases hR with ⟨rfl, _, _⟩ | ⟨_, h, _⟩ | ⟨_, _, h, _⟩
          · simp at hfull; omega
          · omega
          · exact h
        refine cH15yB3 (σ := [.whole 1, .name 2, .name 3]) (nl := []) (cOpenA 1 J L dn c2 cd) ?_
        rintro v h' ⟨rfl, rfl⟩ hcaps
        rw [hL]
        refine rH15yB0 ?_
        repeat' (first | (fail_if_success (with_reducible refine xstp ?_)); first | ((with_reducible refine And.intro (fun (hb : _ = true) => ?_) (fun (hb : _ = false) => ?_)) <;> replace hb := xnC hb <;> (try first | exact xfC | exact bff hb (by assumption) | exact bff (by assumption) hb)) | (with_reducible refine Both.mk ?_ ?_) | ((with_reducible refine And.intro ?_ ?_); focus exact xoC) | ((with_reducible refine Or.inl ⟨?_, ?_, ?_⟩); (focus rfl); focus exact xaC) | ((with_reducible refine xwB ?_ ?_); focus exact xaC) | ((with_reducible refine xwC ?_ ?_); focus exact xaC) | ((with_reducible refine xwD ?_ ?_); focus exact xaC) | ((with_reducible refine xwE ?_ ?_); focus exact xaC) | (with_reducible intro hc; (try simp only [capsP, and_true] at hc); (try exact xfC)) | ((fail_if_success (with_reducible first | refine xgon ?_ | intro _)); (conv => whnf); (fail_if_success (fail_if_success (with_reducible first | refine xstp ?_ | refine Both.mk ?_ ?_ | refine xgon ?_ | intro _)))))
        refine cH15yB3 (σ := []) (nl := []) (cawake) ?_
        rintro v h' ⟨rfl, rfl⟩ hcaps
        refine rH15yB0 ?_
        repeat' (first | (fail_if_success (with_reducible refine xstp ?_)); first | ((with_reducible refine And.intro (fun (hb : _ = true) => ?_) (fun (hb : _ = false) => ?_)) <;> replace hb := xnC hb <;> (try first | exact xfC | exact bff hb (by assumption) | exact bff (by assumption) hb)) | (with_reducible refine Both.mk ?_ ?_) | ((with_reducible refine And.intro ?_ ?_); focus exact xoC) | ((with_reducible refine Or.inl ⟨?_, ?_, ?_⟩); (focus rfl); focus exact xaC) | ((with_reducible refine xwB ?_ ?_); focus exact xaC) | ((with_reducible refine xwC ?_ ?_); focus exact xaC) | ((with_reducible refine xwD ?_ ?_); focus exact xaC) | ((with_reducible refine xwE ?_ ?_); focus exact xaC) | (with_reducible intro hc; (try simp only [capsP, and_true] at hc); (try exact xfC)) | ((fail_if_success (with_reducible first | refine xgon ?_ | intro _)); (conv => whnf); (fail_if_success (fail_if_success (with_reducible first | refine xstp ?_ | refine Both.mk ?_ ?_ | refine xgon ?_ | intro _)))))
        refine FinK.mk ⟨[0], _, [.one .no], rfl, ?_⟩
        (repeat' first | refine And.intro ?_ ?_ | exact xeC | fail)
      · rw [if_pos hfull] at hb
        exact absurd rfl hb
end Go.Proofs.Ytgaodeffbgppmaa


namespace Go.Proofs.Ytgaodeffbgppmaa
open Go.X Go.RowKit
set_option linter.unusedVariables false
theorem ft_Q4 {l : List C} (h : FT [.i .u8, .i .u8, .i .u8, .i .u8] l) : ∃ x : Q4, l = enc4 x ∧ x.ok := by
  obtain ⟨a, _, rfl, ha, h1⟩ := FT_i h
  obtain ⟨b, _, rfl, hb, h2⟩ := FT_i h1
  obtain ⟨c, _, rfl, hc, h3⟩ := FT_i h2
  obtain ⟨d, _, rfl, hd, h4⟩ := FT_i h3
  obtain rfl := FT_nil h4
  exact ⟨⟨a, b, c, d⟩, rfl, ha, hb, hc, hd⟩
theorem walk_PacketTravels (W : World) (a0 : ByteArray) (s0 : a0.size ≤ 140737488351232) (a1 : Int) (w1 : (Lit.int .u8 a1).wf = true) (v2 : Value) (k2 : VK W (.sl [.i .u8, .i .u8, .i .u8, .i .u8]) v2) (e2 : ∀ a n c, v2 = .slice (some a) n c → a.spot = none) :
    Calls Try.prog 9 #[.string a0, .int .u8 a1, v2] W fun e W' => e = .returned (.bool true) ∧ Below W.heap.size W W' := by
  obtain ⟨A, n, c, g, hv, hh, hn, hc, hnc, hg⟩ := row_view (by rfl) k2 e2
  obtain ⟨Q, hl, hge, hp⟩ := list_of enc4 (Pr := Q4.ok) (fun i hi => ft_Q4 (hg i hi))
  subst hl
  obtain ⟨hf, hno⟩ := one_read (β := nmL [A]) (W := W) (ck := q4R Q c) (holds_row_congr (hh _ _) hge) rfl
  have hv' : C.ren (nmL [A]) (C.sl 0 0 4 0 Q.length c) = v2 := hv (nmL [A]) 0 0 rfl
  have hw : 0 ≤ a1 ∧ a1 ≤ 255 := by
    have := wf_bounds w1
    exact this
  have ha : (((UInt8.ofNat a1.toNat).toNat : Nat) : Int) = a1 := by
    rw [P4.ofNat_lt (by omega), Int.toNat_of_nonneg hw.1]
  have := glue (ctravels a0.data.toList (UInt8.ofNat a1.toNat) Q c (by rw [P4.size_len]; omega) (by unfold maxLen at hn; omega) hp) hf hno
  rw [mkS_of, ha] at this
  simp only [List.map_cons, List.map_nil, T.ren, hv', show C.ren (nmL [A]) (.s a0) = .string a0 from rfl, show C.ren (nmL [A]) (.i .u8 a1) = .int .u8 a1 from rfl] at this
  exact this
end Go.Proofs.Ytgaodeffbgppmaa

