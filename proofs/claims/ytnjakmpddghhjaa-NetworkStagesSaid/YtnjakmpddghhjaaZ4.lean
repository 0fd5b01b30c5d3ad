/- Part 4 of the texts that a walk of this program rests on: an abstract machine, its soundness, contracts of functions. No statement of the seat is proved in this file. -/
import Derived.Test.YtnjakmpddghhjaaZ3
namespace Go.Proofs.Ytnjakmpddghhjaa
open Go.X
set_option linter.unusedSimpArgs false
set_option linter.unusedVariables false
def addN (N : Pg) (a : Arv) : Pg := { N with D := addD N.D a, M := (addM N.M N.D N.ck a).1, ck := (addM N.M N.D N.ck a).2, cnt := N.cnt + 1 }
def adN (time : Int) : List Flt → Pg → Arv → Pg
  | [], N, _ => N
  | f :: F, N, a => adN time F (addN N { a with cp := a.cp + 1, at_ := time + f.ex }) { a with cp := a.cp + 1, at_ := time + f.ex }
def pgE (N : Pg) (t fr to : Int) (d : ByteArray) : Int :=
  if ¬ ((okNd N.m fr ∧ okNd N.m to ∧ fr ≠ to) ∧ (0 ≤ t ∧ t ≤ 1099511627776)) then 4 else if 4000 < d.size then 3 else if t < N.now then 17 else if 65536 ≤ N.cnt then 15 else 0
def frc (F : List Flt) (kd t fr to : Int) : List Flt := F.filter fun f => decide (f.kd = kd ∧ apl f t fr to)
def sumX : List Flt → Int → Int
  | [], x => x
  | f :: F, x => sumX F (x + f.ex)
def pgSend (N : Pg) (t fr to : Int) (d : ByteArray) : Pg :=
  if pgE N t fr to d = 0 then
    (if 0 < (frc N.F 4 t fr to).length ∨ 0 < (frc N.F 1 t fr to).length then { N with sent := N.sent + 1, now := t }
     else adN (sumX (frc N.F 2 t fr to) (t + N.lat)) (frc N.F 3 t fr to) (addN { N with sent := N.sent + 1, now := t } ⟨sumX (frc N.F 2 t fr to) (t + N.lat), fr, to, N.sent + 1, 0, d⟩) ⟨sumX (frc N.F 2 t fr to) (t + N.lat), fr, to, N.sent + 1, 0, d⟩)
  else N
structure PgI (N : Pg) : Prop where
  ok : PgOk N.M N.D N.ck
  len : ∀ x, ((N.D x).length : Int) ≤ N.cnt
  cnt : 0 ≤ N.cnt
  tot : ∃ P : List Arv, (∀ x : Nat, N.D x = P.filter fun a => decide (a.at_ = (x : Int))) ∧ (∀ a ∈ P, 0 ≤ a.at_) ∧ N.cnt = P.length
theorem getD_snoc {α : Type} [Inhabited α] {l : List α} {x : α} {i : Nat} (h : i < (l ++ [x]).length) : (l ++ [x]).getD i default = if i = l.length then x else l.getD i default := by
  split
  · rename_i e; subst e; simp [List.getD]
  · have : i < l.length := by simp at h; omega
    simp [List.getD, List.getElem?_append_left this]
theorem add_ok {M : List (Nat × Nat)} {D : Nat → List Arv} {ck : Nat} (h : PgOk M D ck) {a : Arv} : PgOk (addM M D ck a).1 (addD D a) (addM M D ck a).2 := by
  unfold addM
  by_cases he : D a.at_.toNat = []
  · rw [if_pos he]
    have hno : ∀ i, i < M.length → (M.getD i default).2 ≠ a.at_.toNat := fun i hi e => h.ne i hi (by rw [e]; exact he)
    refine ⟨fun i j hij hj => ?_, fun i j hij hj => ?_, fun i hi => ?_, fun i hi => ?_, fun x hx => ?_⟩
    · have hj' : j < M.length + 1 := by simpa using hj
      rw [getD_snoc hj, getD_snoc (by simp; omega), if_neg (by omega)]
      split
      · exact hno i (by omega)
      · exact h.key i j hij (by omega)
    · have hj' : j < M.length + 1 := by simpa using hj
      rw [getD_snoc hj, getD_snoc (by simp; omega), if_neg (by omega)]
      split
      · have := h.lt i (by omega); simp only; omega
      · exact h.st i j hij (by omega)
    · have hi' : i < M.length + 1 := by simpa using hi
      rw [getD_snoc hi]
      split
      · simp
      · have := h.lt i (by omega); simp only; omega
    · have hi' : i < M.length + 1 := by simpa using hi
      rw [getD_snoc hi]
      split
      · rw [addD_at rfl]; simp
      · rw [addD_ne (hno i (by omega))]; exact h.ne i (by omega)
    · by_cases hxa : x = a.at_.toNat
      · exact ⟨M.length, by simp, by rw [getD_snoc (by simp), if_pos rfl]; exact hxa.symm⟩
      · rw [addD_ne hxa] at hx
        obtain ⟨i, hi, e⟩ := h.all x hx
        exact ⟨i, by simp; omega, by rw [getD_snoc (by simp; omega), if_neg (by omega)]; exact e⟩
  · rw [if_neg he]
    refine ⟨h.key, h.st, h.lt, fun i hi => ?_, fun x hx => ?_⟩
    · by_cases hxa : (M.getD i default).2 = a.at_.toNat
      · rw [addD_at hxa]; simp
      · rw [addD_ne hxa]; exact h.ne i hi
    · by_cases hxa : x = a.at_.toNat
      · subst hxa; exact h.all _ he
      · rw [addD_ne hxa] at hx; exact h.all x hx
theorem addN_ok {N : Pg} (h : PgI N) {a : Arv} (ha : 0 ≤ a.at_) : PgI (addN N a) := by
  refine ⟨add_ok h.ok, fun x => ?_, by show 0 ≤ N.cnt + 1; have := h.cnt; omega, ?_⟩
  · show ((addD N.D a x).length : Int) ≤ N.cnt + 1
    have := h.len x
    by_cases hxa : x = a.at_.toNat
    · rw [addD_at hxa, List.length_append, List.length_singleton]; omega
    · rw [addD_ne hxa]; omega
  · obtain ⟨P, h1, h2, h3⟩ := h.tot
    refine ⟨P ++ [a], fun x => ?_, fun y hy => ?_, ?_⟩
    · show addD N.D a x = _
      by_cases hxa : x = a.at_.toNat
      · rw [addD_at hxa, h1, filt_y (p := fun a : Arv => decide (a.at_ = (x : Int))) (decide_eq_true (by omega))]
      · rw [addD_ne hxa, h1, filt_n (p := fun a : Arv => decide (a.at_ = (x : Int))) (decide_eq_false (by omega))]
    · rcases List.mem_append.1 hy with hy | hy
      · exact h2 y hy
      · rw [List.mem_singleton.1 hy]; exact ha
    · show N.cnt + 1 = _
      rw [List.length_append, List.length_singleton, h3]
      push_cast
      rfl
theorem frc_len (F : List Flt) (kd t fr to : Int) : (frc F kd t fr to).length ≤ F.length := List.length_filter_le ..
theorem frc_mem {F : List Flt} {kd t fr to : Int} {f : Flt} (h : f ∈ frc F kd t fr to) : f ∈ F := (List.mem_filter.1 h).1
abbrev Zp := (Nat → List Arv) × List (Nat × Nat) × Nat × Int
abbrev zN (N : Pg) : Zp := (N.D, N.M, N.ck, N.cnt)
abbrev qN (N : Pg) (t : Int) (z : Zp) : Pg := { N with D := z.1, M := z.2.1, ck := z.2.2.1, cnt := z.2.2.2, sent := N.sent + 1, now := t }
theorem rH14aE0 {σ : List Sg} {H h' : List Fam} {v : T} {K : T → List Fam → Prop} {H' : List Fam} {v' : T} {N : Nat} (hk : K v' H') (hN : H.length = N := by (try simp only [↓List.length_cons, ↓List.length_nil, Nat.reduceAdd]) <;> rfl) (h : givesF σ N H σ h' = some H' := by (try simp (maxSteps := 1000000) only [givesF, setF, updF, Fam.zeroth, Fam.rk, Ck.rk, C.rk, E.rk, T.rk, key, List.map_cons, List.map_nil, List.cons_append, List.nil_append, List.length_cons, List.length_nil, Option.map_some, Option.bind_some, Nat.reduceAdd, Nat.zero_add, Nat.add_zero, Nat.add_sub_cancel_left, Int.toNat_natCast, reps, List.all_cons, List.all_nil, C.flat, List.append_eq, Bool.not_true, Bool.and_true, Bool.or_false, Bool.or_self, Bool.not_false, List.append_nil, Bool.and_self, ↓lsG_rk]) <;> rfl) (hv : v.rk σ N = v' := by (try simp only [givesF, setF, updF, Fam.zeroth, Fam.rk, Ck.rk, C.rk, E.rk, T.rk, key, List.map_cons, List.map_nil, List.cons_append, List.nil_append, List.length_cons, List.length_nil, Option.map_some, Option.bind_some, Nat.reduceAdd, Nat.zero_add, Nat.add_zero, Nat.add_sub_cancel_left, Int.toNat_natCast, reps, List.all_cons, List.all_nil, C.flat, List.append_eq, Bool.not_true, Bool.and_true, Bool.or_false, Bool.or_self, Bool.not_false, List.append_nil, Bool.and_self, ↓lsG_rk]) <;> rfl) : RetG σ H h' v K := ret_mk3 hN h hv hk
theorem rH14aE1 {σ : List Sg} {H h' : List Fam} {v : T} {K : T → List Fam → Prop} {H' : List Fam} {v' : T} {N : Nat} (hk : K v' H') (hN : H.length = N := by (try simp only [↓List.length_cons, ↓List.length_nil, Nat.reduceAdd]) <;> rfl) (h : givesF σ N H σ h' = some H' := by (try simp (maxSteps := 1000000) only [givesF, setF, updF, Fam.zeroth, Fam.rk, Ck.rk, C.rk, E.rk, T.rk, key, List.map_cons, List.map_nil, List.cons_append, List.nil_append, List.length_cons, List.length_nil, Option.map_some, Option.bind_some, Nat.reduceAdd, Nat.zero_add, Nat.add_zero, Nat.add_sub_cancel_left, Int.toNat_natCast, reps, List.all_cons, List.all_nil, C.flat, List.append_eq, Bool.not_true, Bool.and_true, Bool.or_false, Bool.or_self, Bool.not_false, List.append_nil, Bool.and_self, ↓lsG_rk, encA]) <;> rfl) (hv : v.rk σ N = v' := by (try simp only [givesF, setF, updF, Fam.zeroth, Fam.rk, Ck.rk, C.rk, E.rk, T.rk, key, List.map_cons, List.map_nil, List.cons_append, List.nil_append, List.length_cons, List.length_nil, Option.map_some, Option.bind_some, Nat.reduceAdd, Nat.zero_add, Nat.add_zero, Nat.add_sub_cancel_left, Int.toNat_natCast, reps, List.all_cons, List.all_nil, C.flat, List.append_eq, Bool.not_true, Bool.and_true, Bool.or_false, Bool.or_self, Bool.not_false, List.append_nil, Bool.and_self, ↓lsG_rk, encA]) <;> rfl) : RetG σ H h' v K := ret_mk3 hN h hv hk
theorem cH14aE2 {P : Program} {F : Nat} {args : List T} {H : List Fam} {K : T → List Fam → Prop} {σ : List Sg} {nl : List Fam} {args0 : List T} {h0 : List Fam} {Q : T → List Fam → Prop} {H2 H1 : List Fam} {N n : Nat} (hc : Ctr P F args0 h0 Q) (hk : ∀ v h', Q v h' → capsP h' → RetG σ H2 h' v K) (hap : apart σ = true := by rfl) (hnl : nl.all nilB = true := by rfl) (h1 : H ++ nl = H1 := by first | exact List.append_nil _ | ((try simp only [List.cons_append, List.nil_append]) <;> rfl)) (hN : H1.length = N := by (try simp only [↓List.length_cons, ↓List.length_nil, Nat.reduceAdd]) <;> rfl) (hn : H.length = n := by (try simp only [↓List.length_cons, ↓List.length_nil, Nat.reduceAdd]) <;> rfl) (hH : givesF σ N H1 σ h0 = some H2 := by (try simp (maxSteps := 1000000) only [givesF, setF, updF, Fam.zeroth, Fam.rk, Ck.rk, C.rk, E.rk, T.rk, key, List.map_cons, List.map_nil, List.cons_append, List.nil_append, List.length_cons, List.length_nil, Option.map_some, Option.bind_some, Nat.reduceAdd, Nat.zero_add, Nat.add_zero, Nat.add_sub_cancel_left, Int.toNat_natCast, reps, List.all_cons, List.all_nil, C.flat, List.append_eq, Bool.not_true, Bool.and_true, Bool.or_false, Bool.or_self, Bool.not_false, List.append_nil, Bool.and_self, ↓lsG_rk]) <;> rfl) (hle : leS n H1 σ N σ h0 (belsK N (h0.map (Fam.rk σ N)) (argsK n args (args0.map (T.rk σ N)) True)) := by repeat' first | refine And.intro ?_ ?_ | exact xeC | fail) : CallK P F args H K := CallK.mk3 hc hap hnl h1 hN hn hH hle hk
set_option maxRecDepth 10000 in
set_option maxHeartbeats 4000000 in
theorem cSend (N : Pg) (c : Nat) (cs : Nat → Nat) (t a b : Int) (d : ByteArray) (hN : PgI N) (hF : N.F.length ≤ 64) (hlat : 0 ≤ N.lat ∧ N.lat ≤ 1099511627776) (hex : ∀ f ∈ N.F, 0 ≤ f.ex ∧ f.ex ≤ 1099511627776) (hcn : N.cnt ≤ 66000) (hsn : 0 ≤ N.sent ∧ N.sent ≤ 1099511627776) :
    Ctr Try.prog 20 [.c (.p 0 0 0), .c (.i .i64 t), .c (.i .i64 a), .c (.i .i64 b), .c (.s d)] (pgH N c cs)
      fun v h => ∃ cs', v = .t [.c (.i .i64 (if pgE N t a b d = 0 then N.sent + 1 else 0)), .c (.i .i64 (pgE N t a b d))] ∧ h = [.one (pgC (pgSend N t a b d) c), .one (fltR true N.F c), .one (mapN 4 (pgSend N t a b d).M (pgSend N t a b d).D cs' (pgSend N t a b d).ck), .one .no, arrs (pgSend N t a b d).D cs'] := by
  refine Ctr.mk' tbv mixed Try.func20 rfl rfl rfl (fun _ _ => by kernel_rfl) (by kernel_rfl) (by rfl) (by rfl) (by (repeat' first | refine And.intro ?_ ?_ | exact xeC | fail) <;> exact fun x => lsG_bel) ?_
  repeat' (first | (fail_if_success (with_reducible refine xstp ?_)); first | ((with_reducible refine And.intro (fun (hb : _ = true) => ?_) (fun (hb : _ = false) => ?_)) <;> replace hb := xnC hb <;> (try first | exact xfC | exact bff hb (by assumption) | exact bff (by assumption) hb)) | (with_reducible refine Both.mk ?_ ?_) | ((with_reducible refine And.intro ?_ ?_); focus exact xoC) | ((with_reducible refine Or.inl ⟨?_, ?_, ?_⟩); (focus rfl); focus exact xaC) | ((with_reducible refine xwB ?_ ?_); focus exact xaC) | ((with_reducible refine xwC ?_ ?_); focus exact xaC) | ((with_reducible refine xwD ?_ ?_); focus exact xaC) | ((with_reducible refine xwE ?_ ?_); focus exact xaC) | (with_reducible intro hc; (try simp only [capsP, and_true] at hc); (try exact xfC)) | ((fail_if_success (with_reducible first | refine xgon ?_ | intro _)); (conv => whnf); (fail_if_success (fail_if_success (with_reducible first | refine xstp ?_ | refine Both.mk ?_ ?_ | refine xgon ?_ | intro _)))))
  refine cH14aE2 (σ := []) (nl := []) (cvalid N.m a) ?_
  rintro v h' ⟨rfl, rfl⟩ hcaps
  refine rH14aE0 ?_
  repeat' (first | (fail_if_success (with_reducible refine xstp ?_)); first | ((with_reducible refine And.intro (fun (hb : _ = true) => ?_) (fun (hb : _ = false) => ?_)) <;> replace hb := xnC hb <;> (try first | exact xfC | exact bff hb (by assumption) | exact bff (by assumption) hb)) | (with_reducible refine Both.mk ?_ ?_) | ((with_reducible refine And.intro ?_ ?_); focus exact xoC) | ((with_reducible refine Or.inl ⟨?_, ?_, ?_⟩); (focus rfl); focus exact xaC) | ((with_reducible refine xwB ?_ ?_); focus exact xaC) | ((with_reducible refine xwC ?_ ?_); focus exact xaC) | ((with_reducible refine xwD ?_ ?_); focus exact xaC) | ((with_reducible refine xwE ?_ ?_); focus exact xaC) | (with_reducible intro hc; (try simp only [capsP, and_true] at hc); (try exact xfC)) | ((fail_if_success (with_reducible first | refine xgon ?_ | intro _)); (conv => whnf); (fail_if_success (fail_if_success (with_reducible first | refine xstp ?_ | refine Both.mk ?_ ?_ | refine xgon ?_ | intro _)))))
  · skip
    have hE : pgE N t a b d = 4 := (if_pos (by unfold okNd; omega))
    have hS : pgSend N t a b d = N := if_neg (by rw [hE]; decide)
    rw [hE, hS, if_neg (by decide)]
    refine FinK.mk ⟨[0, 1, 2, 3, 3], _, _, ⟨cs, rfl, rfl⟩, ?_⟩
    (repeat' first | refine And.intro ?_ ?_ | exact xeC | fail)
    all_goals first | exact fun x => lsG_le | exact fun x => lsG_bel | exact fun x => lsG_belR
  refine cH14aE2 (σ := []) (nl := []) (cvalid N.m b) ?_
  rintro v h' ⟨rfl, rfl⟩ hcaps
  refine rH14aE0 ?_
  repeat' (first | (fail_if_success (with_reducible refine xstp ?_)); first | ((with_reducible refine And.intro (fun (hb : _ = true) => ?_) (fun (hb : _ = false) => ?_)) <;> replace hb := xnC hb <;> (try first | exact xfC | exact bff hb (by assumption) | exact bff (by assumption) hb)) | (with_reducible refine Both.mk ?_ ?_) | ((with_reducible refine And.intro ?_ ?_); focus exact xoC) | ((with_reducible refine Or.inl ⟨?_, ?_, ?_⟩); (focus rfl); focus exact xaC) | ((with_reducible refine xwB ?_ ?_); focus exact xaC) | ((with_reducible refine xwC ?_ ?_); focus exact xaC) | ((with_reducible refine xwD ?_ ?_); focus exact xaC) | ((with_reducible refine xwE ?_ ?_); focus exact xaC) | (with_reducible intro hc; (try simp only [capsP, and_true] at hc); (try exact xfC)) | ((fail_if_success (with_reducible first | refine xgon ?_ | intro _)); (conv => whnf); (fail_if_success (fail_if_success (with_reducible first | refine xstp ?_ | refine Both.mk ?_ ?_ | refine xgon ?_ | intro _)))))
  · skip
    have hE : pgE N t a b d = 4 := (if_pos (by unfold okNd; omega))
    have hS : pgSend N t a b d = N := if_neg (by rw [hE]; decide)
    rw [hE, hS, if_neg (by decide)]
    refine FinK.mk ⟨[0, 1, 2, 3, 3], _, _, ⟨cs, rfl, rfl⟩, ?_⟩
    (repeat' first | refine And.intro ?_ ?_ | exact xeC | fail)
    all_goals first | exact fun x => lsG_le | exact fun x => lsG_bel | exact fun x => lsG_belR
  · skip
    have hE : pgE N t a b d = 4 := (if_pos (by unfold okNd; omega))
    have hS : pgSend N t a b d = N := if_neg (by rw [hE]; decide)
    rw [hE, hS, if_neg (by decide)]
    refine FinK.mk ⟨[0, 1, 2, 3, 3], _, _, ⟨cs, rfl, rfl⟩, ?_⟩
    (repeat' first | refine And.intro ?_ ?_ | exact xeC | fail)
    all_goals first | exact fun x => lsG_le | exact fun x => lsG_bel | exact fun x => lsG_belR
  · skip
    have hE : pgE N t a b d = 4 := (if_pos (by unfold okNd; omega))
    have hS : pgSend N t a b d = N := if_neg (by rw [hE]; decide)
    rw [hE, hS, if_neg (by decide)]
    refine FinK.mk ⟨[0, 1, 2, 3, 3], _, _, ⟨cs, rfl, rfl⟩, ?_⟩
    (repeat' first | refine And.intro ?_ ?_ | exact xeC | fail)
    all_goals first | exact fun x => lsG_le | exact fun x => lsG_bel | exact fun x => lsG_belR
  · skip
    have hE : pgE N t a b d = 4 := (if_pos (by unfold okNd; omega))
    have hS : pgSend N t a b d = N := if_neg (by rw [hE]; decide)
    rw [hE, hS, if_neg (by decide)]
    refine FinK.mk ⟨[0, 1, 2, 3, 3], _, _, ⟨cs, rfl, rfl⟩, ?_⟩
    (repeat' first | refine And.intro ?_ ?_ | exact xeC | fail)
    all_goals first | exact fun x => lsG_le | exact fun x => lsG_bel | exact fun x => lsG_belR
  all_goals (
    have hok : (okNd N.m a ∧ okNd N.m b ∧ a ≠ b) ∧ (0 ≤ t ∧ t ≤ 1099511627776) := by
      unfold okNd
      omega
    have hok2 := not_not_intro hok)
  · skip
    have hE : pgE N t a b d = 3 := (by unfold pgE; rw [if_neg hok2, if_pos (by omega)])
    have hS : pgSend N t a b d = N := if_neg (by rw [hE]; decide)
    rw [hE, hS, if_neg (by decide)]
    refine FinK.mk ⟨[0, 1, 2, 3, 3], _, _, ⟨cs, rfl, rfl⟩, ?_⟩
    (repeat' first | refine And.intro ?_ ?_ | exact xeC | fail)
    all_goals first | exact fun x => lsG_le | exact fun x => lsG_bel | exact fun x => lsG_belR
  · skip
    have hE : pgE N t a b d = 17 := (by unfold pgE; rw [if_neg hok2, if_neg (by omega), if_pos (by omega)])
    have hS : pgSend N t a b d = N := if_neg (by rw [hE]; decide)
    rw [hE, hS, if_neg (by decide)]
    refine FinK.mk ⟨[0, 1, 2, 3, 3], _, _, ⟨cs, rfl, rfl⟩, ?_⟩
    (repeat' first | refine And.intro ?_ ?_ | exact xeC | fail)
    all_goals first | exact fun x => lsG_le | exact fun x => lsG_bel | exact fun x => lsG_belR
  · skip
    have hE : pgE N t a b d = 15 := (by unfold pgE; rw [if_neg hok2, if_neg (by omega), if_neg (by omega), if_pos (by omega)])
    have hS : pgSend N t a b d = N := if_neg (by rw [hE]; decide)
    rw [hE, hS, if_neg (by decide)]
    refine FinK.mk ⟨[0, 1, 2, 3, 3], _, _, ⟨cs, rfl, rfl⟩, ?_⟩
    (repeat' first | refine And.intro ?_ ?_ | exact xeC | fail)
    all_goals first | exact fun x => lsG_le | exact fun x => lsG_bel | exact fun x => lsG_belR
  have hE : pgE N t a b d = 0 := by unfold pgE; rw [if_neg hok2, if_neg (by omega), if_neg (by omega), if_neg (by omega)]
  rw [hE, if_pos rfl]
  obtain ⟨hnd, ht⟩ := hok
  refine cH14aE2 (σ := [.whole 0, .whole 1, .name 2]) (nl := []) (cForce { N with sent := N.sent + 1, now := t } c 4 t a b hF) ?_
  rintro v h' ⟨c1, rfl, rfl⟩ hcaps
  refine rH14aE0 ?_
  repeat' (first | (fail_if_success (with_reducible refine xstp ?_)); first | ((with_reducible refine And.intro (fun (hb : _ = true) => ?_) (fun (hb : _ = false) => ?_)) <;> replace hb := xnC hb <;> (try first | exact xfC | exact bff hb (by assumption) | exact bff (by assumption) hb)) | (with_reducible refine Both.mk ?_ ?_) | ((with_reducible refine And.intro ?_ ?_); focus exact xoC) | ((with_reducible refine Or.inl ⟨?_, ?_, ?_⟩); (focus rfl); focus exact xaC) | ((with_reducible refine xwB ?_ ?_); focus exact xaC) | ((with_reducible refine xwC ?_ ?_); focus exact xaC) | ((with_reducible refine xwD ?_ ?_); focus exact xaC) | ((with_reducible refine xwE ?_ ?_); focus exact xaC) | (with_reducible intro hc; (try simp only [capsP, and_true] at hc); (try exact xfC)) | ((fail_if_success (with_reducible first | refine xgon ?_ | intro _)); (conv => whnf); (fail_if_success (fail_if_success (with_reducible first | refine xstp ?_ | refine Both.mk ?_ ?_ | refine xgon ?_ | intro _)))))
  · have hl : 0 < (frc N.F 4 t a b).length ∨ 0 < (frc N.F 1 t a b).length := .inl (by unfold frc; omega)
    have hP : pgSend N t a b d = { N with sent := N.sent + 1, now := t } := by
      unfold pgSend
      rw [if_pos hE, if_pos hl]
    rw [hP]
    refine FinK.mk ⟨[0, 1, 2, 3, 3], _, _, ⟨cs, rfl, rfl⟩, ?_⟩
    (repeat' first | refine And.intro ?_ ?_ | exact xeC | fail)
    all_goals first | exact fun x => lsG_le | exact fun x => lsG_bel | exact fun x => lsG_belR
  refine cH14aE2 (σ := [.whole 0, .whole 1, .name 2]) (nl := []) (cForce { N with sent := N.sent + 1, now := t } c 1 t a b hF) ?_
  rintro v h' ⟨c2, rfl, rfl⟩ hcaps
  refine rH14aE0 ?_
  repeat' (first | (fail_if_success (with_reducible refine xstp ?_)); first | ((with_reducible refine And.intro (fun (hb : _ = true) => ?_) (fun (hb : _ = false) => ?_)) <;> replace hb := xnC hb <;> (try first | exact xfC | exact bff hb (by assumption) | exact bff (by assumption) hb)) | (with_reducible refine Both.mk ?_ ?_) | ((with_reducible refine And.intro ?_ ?_); focus exact xoC) | ((with_reducible refine Or.inl ⟨?_, ?_, ?_⟩); (focus rfl); focus exact xaC) | ((with_reducible refine xwB ?_ ?_); focus exact xaC) | ((with_reducible refine xwC ?_ ?_); focus exact xaC) | ((with_reducible refine xwD ?_ ?_); focus exact xaC) | ((with_reducible refine xwE ?_ ?_); focus exact xaC) | (with_reducible intro hc; (try simp only [capsP, and_true] at hc); (try exact xfC)) | ((fail_if_success (with_reducible first | refine xgon ?_ | intro _)); (conv => whnf); (fail_if_success (fail_if_success (with_reducible first | refine xstp ?_ | refine Both.mk ?_ ?_ | refine xgon ?_ | intro _)))))
  · have hl : 0 < (frc N.F 4 t a b).length ∨ 0 < (frc N.F 1 t a b).length := .inr (by unfold frc; omega)
    have hP : pgSend N t a b d = { N with sent := N.sent + 1, now := t } := by
      unfold pgSend
      rw [if_pos hE, if_pos hl]
    rw [hP]
    refine FinK.mk ⟨[0, 1, 2, 3, 3], _, _, ⟨cs, rfl, rfl⟩, ?_⟩
    (repeat' first | refine And.intro ?_ ?_ | exact xeC | fail)
    all_goals first | exact fun x => lsG_le | exact fun x => lsG_bel | exact fun x => lsG_belR
  · skip
    have hl : ¬ (0 < (frc N.F 4 t a b).length ∨ 0 < (frc N.F 1 t a b).length) := by unfold frc; omega
    have hP : pgSend N t a b d = adN (sumX (frc N.F 2 t a b) (t + N.lat)) (frc N.F 3 t a b) (addN { N with sent := N.sent + 1, now := t } ⟨sumX (frc N.F 2 t a b) (t + N.lat), a, b, N.sent + 1, 0, d⟩) ⟨sumX (frc N.F 2 t a b) (t + N.lat), a, b, N.sent + 1, 0, d⟩ := by
      unfold pgSend
      rw [if_pos hE, if_neg hl]
    refine cH14aE2 (σ := [.whole 0, .whole 1, .name 2]) (nl := []) (cForce { N with sent := N.sent + 1, now := t } c 2 t a b hF) ?_
    rintro v h' ⟨c3, rfl, rfl⟩ hcaps
    refine rH14aE0 ?_
    repeat' (first | (fail_if_success (with_reducible refine xstp ?_)); first | ((with_reducible refine And.intro (fun (hb : _ = true) => ?_) (fun (hb : _ = false) => ?_)) <;> replace hb := xnC hb <;> (try first | exact xfC | exact bff hb (by assumption) | exact bff (by assumption) hb)) | (with_reducible refine Both.mk ?_ ?_) | ((with_reducible refine And.intro ?_ ?_); focus exact xoC) | ((with_reducible refine Or.inl ⟨?_, ?_, ?_⟩); (focus rfl); focus exact xaC) | ((with_reducible refine xwB ?_ ?_); focus exact xaC) | ((with_reducible refine xwC ?_ ?_); focus exact xaC) | ((with_reducible refine xwD ?_ ?_); focus exact xaC) | ((with_reducible refine xwE ?_ ?_); focus exact xaC) | (with_reducible intro hc; (try simp only [capsP, and_true] at hc); (try exact xfC)) | ((fail_if_success (with_reducible first | refine xgon ?_ | intro _)); (conv => whnf); (fail_if_success (fail_if_success (with_reducible first | refine xstp ?_ | refine Both.mk ?_ ?_ | refine xgon ?_ | intro _)))))
    have hF2 := frc_len N.F 2 t a b
    have hF3 := frc_len N.F 3 t a b
    refine LoopK.mk' {p : Nat × Int // p.1 ≤ (frc N.F 2 t a b).length ∧ sumX ((frc N.F 2 t a b).drop p.1) p.2 = sumX (frc N.F 2 t a b) (t + N.lat) ∧ 0 ≤ p.2 ∧ p.2 ≤ 1099511627776 * (2 + p.1)}
      (fun ⟨(i, x), _⟩ => ⟨[(0, .c (.p 0 0 0)), (1, .c (.i .i64 t)), (2, .c (.i .i64 a)), (3, .c (.i .i64 b)), (12, .c (.p 4 0 0)), (116, .c (.sl 5 0 6 0 (frc N.F 2 t a b).length c3)), (117, .c (.i .i64 (frc N.F 2 t a b).length)), (118, .c (.i .i64 (i : Nat)))],
        [.one (pgC { N with sent := N.sent + 1, now := t } c), .one (fltR true N.F c), .one (mapN 3 N.M N.D cs N.ck), arrs N.D cs, .one (.cells true [.i .i64 x, .i .i64 a, .i .i64 b, .i .i64 (N.sent + 1), .s d]), .one (fltR true (frc N.F 2 t a b) c3)]⟩) (fun q => (frc N.F 2 t a b).length - q.1.1)
      ⟨⟨(0, t + N.lat), Nat.zero_le _, rfl, by simp only; omega, by simp only; omega⟩, [0, 1, 2, 3, 6, 7], ?_⟩ ?_
    · (repeat' first | refine And.intro ?_ ?_ | exact xeC | fail)
      all_goals first | exact fun x => lsG_le | exact fun x => lsG_bel | exact fun x => lsG_belR
    rintro ⟨⟨i, x⟩, hi, hs, hx0, hx1⟩
    simp only at hi hs hx0 hx1
    repeat' (first | (fail_if_success (with_reducible refine xstp ?_)); first | ((with_reducible refine And.intro (fun (hb : _ = true) => ?_) (fun (hb : _ = false) => ?_)) <;> replace hb := xnC hb <;> (try first | exact xfC | exact bff hb (by assumption) | exact bff (by assumption) hb)) | (with_reducible refine Both.mk ?_ ?_) | ((with_reducible refine And.intro ?_ ?_); focus exact xoC) | ((with_reducible refine Or.inl ⟨?_, ?_, ?_⟩); (focus rfl); focus exact xaC) | ((with_reducible refine xwB ?_ ?_); focus exact xaC) | ((with_reducible refine xwC ?_ ?_); focus exact xaC) | ((with_reducible refine xwD ?_ ?_); focus exact xaC) | ((with_reducible refine xwE ?_ ?_); focus exact xaC) | (with_reducible intro hc; (try simp only [capsP, and_true] at hc); (try exact xfC)) | ((fail_if_success (with_reducible first | refine xgon ?_ | intro _)); (conv => whnf); (fail_if_success (fail_if_success (with_reducible first | refine xstp ?_ | refine Both.mk ?_ ?_ | refine xgon ?_ | intro _)))))
    · have hlt : i < (frc N.F 2 t a b).length := by omega
      have hxi := hex ((frc N.F 2 t a b).getD i default) (frc_mem (by rw [getD_at hlt]; exact List.getElem_mem _))
      have hd := drop_consG (frc N.F 2 t a b) hlt
      rw [hd, sumX] at hs
      have e1 : 0 + ((i : Nat) : Int).toNat = i := by omega
      rw [e1]
      repeat' (first | (fail_if_success (with_reducible refine xstp ?_)); first | ((with_reducible refine And.intro (fun (hb : _ = true) => ?_) (fun (hb : _ = false) => ?_)) <;> replace hb := xnC hb <;> (try first | exact xfC | exact bff hb (by assumption) | exact bff (by assumption) hb)) | (with_reducible refine Both.mk ?_ ?_) | ((with_reducible refine And.intro ?_ ?_); focus exact xoC) | ((with_reducible refine Or.inl ⟨?_, ?_, ?_⟩); (focus rfl); focus exact xaC) | ((with_reducible refine xwB ?_ ?_); focus exact xaC) | ((with_reducible refine xwC ?_ ?_); focus exact xaC) | ((with_reducible refine xwD ?_ ?_); focus exact xaC) | ((with_reducible refine xwE ?_ ?_); focus exact xaC) | (with_reducible intro hc; (try simp only [capsP, and_true] at hc); (try exact xfC)) | ((fail_if_success (with_reducible first | refine xgon ?_ | intro _)); (conv => whnf); (fail_if_success (fail_if_success (with_reducible first | refine xstp ?_ | refine Both.mk ?_ ?_ | refine xgon ?_ | intro _)))))
      refine ⟨⟨(i + 1, x + ((frc N.F 2 t a b).getD i default).ex), by simp only; omega, hs, by simp only; omega, by simp only; omega⟩, [0, 1, 2, 3, 4, 5], by simp only; omega, ?_⟩
      (repeat' first | refine And.intro ?_ ?_ | exact xeC | fail)
      all_goals first | exact fun x => lsG_le | exact fun x => lsG_bel | exact fun x => lsG_belR
    obtain rfl : i = (frc N.F 2 t a b).length := by omega
    rw [List.drop_length, sumX] at hs
    rw [← hs] at hP
    have hl0 := hN.len x.toNat
    refine cH14aE2 (σ := [.whole 0, .name 1, .whole 2, .whole 3]) (nl := []) (cAdd { N with sent := N.sent + 1, now := t } c cs ⟨x, a, b, N.sent + 1, 0, d⟩ hN.ok hx0 (by simp only; omega) (by have := hN.cnt; simp only; omega)) ?_ (hle := by (repeat' first | refine And.intro ?_ ?_ | exact xeC | fail) <;> (first | exact fun x => lsG_le | exact fun x => lsG_bel | exact fun x => lsG_belR))
    rintro v h' ⟨cs1, rfl, rfl⟩ hcaps
    refine rH14aE1 ?_
    repeat' (first | (fail_if_success (with_reducible refine xstp ?_)); first | ((with_reducible refine And.intro (fun (hb : _ = true) => ?_) (fun (hb : _ = false) => ?_)) <;> replace hb := xnC hb <;> (try first | exact xfC | exact bff hb (by assumption) | exact bff (by assumption) hb)) | (with_reducible refine Both.mk ?_ ?_) | ((with_reducible refine And.intro ?_ ?_); focus exact xoC) | ((with_reducible refine Or.inl ⟨?_, ?_, ?_⟩); (focus rfl); focus exact xaC) | ((with_reducible refine xwB ?_ ?_); focus exact xaC) | ((with_reducible refine xwC ?_ ?_); focus exact xaC) | ((with_reducible refine xwD ?_ ?_); focus exact xaC) | ((with_reducible refine xwE ?_ ?_); focus exact xaC) | (with_reducible intro hc; (try simp only [capsP, and_true] at hc); (try exact xfC)) | ((fail_if_success (with_reducible first | refine xgon ?_ | intro _)); (conv => whnf); (fail_if_success (fail_if_success (with_reducible first | refine xstp ?_ | refine Both.mk ?_ ?_ | refine xgon ?_ | intro _)))))
    have hI0 : PgI { N with sent := N.sent + 1, now := t } := ⟨hN.ok, hN.len, hN.cnt, hN.tot⟩
    have hI1 := addN_ok hI0 (a := ⟨x, a, b, N.sent + 1, 0, d⟩) hx0
    refine cH14aE2 (σ := [.whole 0, .whole 1, .name 2]) (nl := []) (cForce (addN { N with sent := N.sent + 1, now := t } ⟨x, a, b, N.sent + 1, 0, d⟩) c 3 t a b hF) ?_
    rintro v h' ⟨c5, rfl, rfl⟩ hcaps
    refine rH14aE0 ?_
    repeat' (first | (fail_if_success (with_reducible refine xstp ?_)); first | ((with_reducible refine And.intro (fun (hb : _ = true) => ?_) (fun (hb : _ = false) => ?_)) <;> replace hb := xnC hb <;> (try first | exact xfC | exact bff hb (by assumption) | exact bff (by assumption) hb)) | (with_reducible refine Both.mk ?_ ?_) | ((with_reducible refine And.intro ?_ ?_); focus exact xoC) | ((with_reducible refine Or.inl ⟨?_, ?_, ?_⟩); (focus rfl); focus exact xaC) | ((with_reducible refine xwB ?_ ?_); focus exact xaC) | ((with_reducible refine xwC ?_ ?_); focus exact xaC) | ((with_reducible refine xwD ?_ ?_); focus exact xaC) | ((with_reducible refine xwE ?_ ?_); focus exact xaC) | (with_reducible intro hc; (try simp only [capsP, and_true] at hc); (try exact xfC)) | ((fail_if_success (with_reducible first | refine xgon ?_ | intro _)); (conv => whnf); (fail_if_success (fail_if_success (with_reducible first | refine xstp ?_ | refine Both.mk ?_ ?_ | refine xgon ?_ | intro _)))))
    refine LoopK.mk' {p : Nat × Zp × Int × Int × (Nat → Nat) // p.1 ≤ (frc N.F 3 t a b).length ∧ PgI (qN N t p.2.1) ∧ p.2.1.2.2.2 ≤ 66001 + p.1 ∧
        adN x ((frc N.F 3 t a b).drop p.1) (qN N t p.2.1) ⟨p.2.2.1, a, b, N.sent + 1, p.2.2.2.1, d⟩ = adN x (frc N.F 3 t a b) (addN { N with sent := N.sent + 1, now := t } ⟨x, a, b, N.sent + 1, 0, d⟩) ⟨x, a, b, N.sent + 1, 0, d⟩}
      (fun ⟨(i, Q, q, cp, cs2), _⟩ => ⟨[(0, .c (.p 0 0 0)), (1, .c (.i .i64 t)), (2, .c (.i .i64 a)), (3, .c (.i .i64 b)), (12, .c (.p 5 0 0)), (136, .c (.sl 6 0 6 0 (frc N.F 3 t a b).length c5)), (137, .c (.i .i64 (frc N.F 3 t a b).length)), (138, .c (.i .i64 (i : Nat)))],
        [.one (pgC (qN N t Q) c), .one (fltR true N.F c), .one (mapN 4 Q.2.1 Q.1 cs2 Q.2.2.1), .one .no, arrs Q.1 cs2, .one (.cells true [.i .i64 x, .i .i64 a, .i .i64 b, .i .i64 (N.sent + 1), .s d]), .one (fltR true (frc N.F 3 t a b) c5)]⟩) (fun q => (frc N.F 3 t a b).length - q.1.1)
      ⟨⟨(0, zN (addN { N with sent := N.sent + 1, now := t } ⟨x, a, b, N.sent + 1, 0, d⟩), x, 0, cs1), Nat.zero_le _, hI1, by show N.cnt + 1 ≤ _; omega, rfl⟩, [0, 1, 2, 3, 6, 4, 7], ?_⟩ ?_
    · (repeat' first | refine And.intro ?_ ?_ | exact xeC | fail)
      all_goals first | exact fun x => lsG_le | exact fun x => lsG_bel | exact fun x => lsG_belR
    rintro ⟨⟨i, Q, q, cp, cs2⟩, hi, hI, hQc, hs2⟩
    simp only at hi hI hQc hs2
    repeat' (first | (fail_if_success (with_reducible refine xstp ?_)); first | ((with_reducible refine And.intro (fun (hb : _ = true) => ?_) (fun (hb : _ = false) => ?_)) <;> replace hb := xnC hb <;> (try first | exact xfC | exact bff hb (by assumption) | exact bff (by assumption) hb)) | (with_reducible refine Both.mk ?_ ?_) | ((with_reducible refine And.intro ?_ ?_); focus exact xoC) | ((with_reducible refine Or.inl ⟨?_, ?_, ?_⟩); (focus rfl); focus exact xaC) | ((with_reducible refine xwB ?_ ?_); focus exact xaC) | ((with_reducible refine xwC ?_ ?_); focus exact xaC) | ((with_reducible refine xwD ?_ ?_); focus exact xaC) | ((with_reducible refine xwE ?_ ?_); focus exact xaC) | (with_reducible intro hc; (try simp only [capsP, and_true] at hc); (try exact xfC)) | ((fail_if_success (with_reducible first | refine xgon ?_ | intro _)); (conv => whnf); (fail_if_success (fail_if_success (with_reducible first | refine xstp ?_ | refine Both.mk ?_ ?_ | refine xgon ?_ | intro _)))))
    · have hlt : i < (frc N.F 3 t a b).length := by omega
      have hxi := hex ((frc N.F 3 t a b).getD i default) (frc_mem (by rw [getD_at hlt]; exact List.getElem_mem _))
      have hd := drop_consG (frc N.F 3 t a b) hlt
      rw [hd, adN] at hs2
      have e1 : 0 + ((i : Nat) : Int).toNat = i := by omega
      rw [e1]
      repeat' (first | (fail_if_success (with_reducible refine xstp ?_)); first | ((with_reducible refine And.intro (fun (hb : _ = true) => ?_) (fun (hb : _ = false) => ?_)) <;> replace hb := xnC hb <;> (try first | exact xfC | exact bff hb (by assumption) | exact bff (by assumption) hb)) | (with_reducible refine Both.mk ?_ ?_) | ((with_reducible refine And.intro ?_ ?_); focus exact xoC) | ((with_reducible refine Or.inl ⟨?_, ?_, ?_⟩); (focus rfl); focus exact xaC) | ((with_reducible refine xwB ?_ ?_); focus exact xaC) | ((with_reducible refine xwC ?_ ?_); focus exact xaC) | ((with_reducible refine xwD ?_ ?_); focus exact xaC) | ((with_reducible refine xwE ?_ ?_); focus exact xaC) | (with_reducible intro hc; (try simp only [capsP, and_true] at hc); (try exact xfC)) | ((fail_if_success (with_reducible first | refine xgon ?_ | intro _)); (conv => whnf); (fail_if_success (fail_if_success (with_reducible first | refine xstp ?_ | refine Both.mk ?_ ?_ | refine xgon ?_ | intro _)))))
      have hl1 : (((qN N t Q).D (x + ((frc N.F 3 t a b).getD i default).ex).toNat).length : Int) ≤ Q.2.2.2 := hI.len (x + ((frc N.F 3 t a b).getD i default).ex).toNat
      have hl2 : 0 ≤ Q.2.2.2 := hI.cnt
      have hI2 := addN_ok hI (a := ⟨x + ((frc N.F 3 t a b).getD i default).ex, a, b, N.sent + 1, cp + 1, d⟩) (by simp only; omega)
      refine cH14aE2 (σ := [.whole 0, .name 1, .whole 2, .whole 4]) (nl := []) (cAdd (qN N t Q) c cs2 ⟨x + ((frc N.F 3 t a b).getD i default).ex, a, b, N.sent + 1, cp + 1, d⟩ hI.ok (by simp only; omega) (by show ((qN N t Q).D (x + ((frc N.F 3 t a b).getD i default).ex).toNat).length ≤ 100000; omega) ⟨hl2, by show Q.2.2.2 ≤ _; omega⟩) ?_ (hle := by (repeat' first | refine And.intro ?_ ?_ | exact xeC | fail) <;> (first | exact fun x => lsG_le | exact fun x => lsG_bel | exact fun x => lsG_belR))
      rintro v h' ⟨cs3, rfl, rfl⟩ hcaps
      refine rH14aE1 ?_
      repeat' (first | (fail_if_success (with_reducible refine xstp ?_)); first | ((with_reducible refine And.intro (fun (hb : _ = true) => ?_) (fun (hb : _ = false) => ?_)) <;> replace hb := xnC hb <;> (try first | exact xfC | exact bff hb (by assumption) | exact bff (by assumption) hb)) | (with_reducible refine Both.mk ?_ ?_) | ((with_reducible refine And.intro ?_ ?_); focus exact xoC) | ((with_reducible refine Or.inl ⟨?_, ?_, ?_⟩); (focus rfl); focus exact xaC) | ((with_reducible refine xwB ?_ ?_); focus exact xaC) | ((with_reducible refine xwC ?_ ?_); focus exact xaC) | ((with_reducible refine xwD ?_ ?_); focus exact xaC) | ((with_reducible refine xwE ?_ ?_); focus exact xaC) | (with_reducible intro hc; (try simp only [capsP, and_true] at hc); (try exact xfC)) | ((fail_if_success (with_reducible first | refine xgon ?_ | intro _)); (conv => whnf); (fail_if_success (fail_if_success (with_reducible first | refine xstp ?_ | refine Both.mk ?_ ?_ | refine xgon ?_ | intro _)))))
      refine ⟨⟨(i + 1, zN (addN (qN N t Q) ⟨x + ((frc N.F 3 t a b).getD i default).ex, a, b, N.sent + 1, cp + 1, d⟩), x + ((frc N.F 3 t a b).getD i default).ex, cp + 1, cs3), by simp only; omega, hI2, by show Q.2.2.2 + 1 ≤ _; simp only; omega, hs2⟩, [0, 1, 2, 3, 9, 5, 6], by simp only; omega, ?_⟩
      (repeat' first | refine And.intro ?_ ?_ | exact xeC | fail)
      all_goals first | exact fun x => lsG_le | exact fun x => lsG_bel | exact fun x => lsG_belR | skip
    obtain rfl : i = (frc N.F 3 t a b).length := by omega
    rw [List.drop_length, adN] at hs2
    rw [hP, ← hs2]
    refine FinK.mk ⟨[0, 1, 2, 3, 4], _, _, ⟨cs2, rfl, rfl⟩, ?_⟩
    (repeat' first | refine And.intro ?_ ?_ | exact xeC | fail)
    all_goals first | exact fun x => lsG_le | exact fun x => lsG_bel | exact fun x => lsG_belR | skip
  · skip
    have hl : ¬ (0 < (frc N.F 4 t a b).length ∨ 0 < (frc N.F 1 t a b).length) := by unfold frc; omega
    have hP : pgSend N t a b d = adN (sumX (frc N.F 2 t a b) (t + N.lat)) (frc N.F 3 t a b) (addN { N with sent := N.sent + 1, now := t } ⟨sumX (frc N.F 2 t a b) (t + N.lat), a, b, N.sent + 1, 0, d⟩) ⟨sumX (frc N.F 2 t a b) (t + N.lat), a, b, N.sent + 1, 0, d⟩ := by
      unfold pgSend
      rw [if_pos hE, if_neg hl]
    refine cH14aE2 (σ := [.whole 0, .whole 1, .name 2]) (nl := []) (cForce { N with sent := N.sent + 1, now := t } c 2 t a b hF) ?_
    rintro v h' ⟨c3, rfl, rfl⟩ hcaps
    refine rH14aE0 ?_
    repeat' (first | (fail_if_success (with_reducible refine xstp ?_)); first | ((with_reducible refine And.intro (fun (hb : _ = true) => ?_) (fun (hb : _ = false) => ?_)) <;> replace hb := xnC hb <;> (try first | exact xfC | exact bff hb (by assumption) | exact bff (by assumption) hb)) | (with_reducible refine Both.mk ?_ ?_) | ((with_reducible refine And.intro ?_ ?_); focus exact xoC) | ((with_reducible refine Or.inl ⟨?_, ?_, ?_⟩); (focus rfl); focus exact xaC) | ((with_reducible refine xwB ?_ ?_); focus exact xaC) | ((with_reducible refine xwC ?_ ?_); focus exact xaC) | ((with_reducible refine xwD ?_ ?_); focus exact xaC) | ((with_reducible refine xwE ?_ ?_); focus exact xaC) | (with_reducible intro hc; (try simp only [capsP, and_true] at hc); (try exact xfC)) | ((fail_if_success (with_reducible first | refine xgon ?_ | intro _)); (conv => whnf); (fail_if_success (fail_if_success (with_reducible first | refine xstp ?_ | refine Both.mk ?_ ?_ | refine xgon ?_ | intro _)))))
    have hF2 := frc_len N.F 2 t a b
    have hF3 := frc_len N.F 3 t a b
    refine LoopK.mk' {p : Nat × Int // p.1 ≤ (frc N.F 2 t a b).length ∧ sumX ((frc N.F 2 t a b).drop p.1) p.2 = sumX (frc N.F 2 t a b) (t + N.lat) ∧ 0 ≤ p.2 ∧ p.2 ≤ 1099511627776 * (2 + p.1)}
      (fun ⟨(i, x), _⟩ => ⟨[(0, .c (.p 0 0 0)), (1, .c (.i .i64 t)), (2, .c (.i .i64 a)), (3, .c (.i .i64 b)), (12, .c (.p 4 0 0)), (116, .c (.sl 5 0 6 0 (frc N.F 2 t a b).length c3)), (117, .c (.i .i64 (frc N.F 2 t a b).length)), (118, .c (.i .i64 (i : Nat)))],
        [.one (pgC { N with sent := N.sent + 1, now := t } c), .one (fltR true N.F c), .one (mapN 3 N.M N.D cs N.ck), arrs N.D cs, .one (.cells true [.i .i64 x, .i .i64 a, .i .i64 b, .i .i64 (N.sent + 1), .s d]), .one (fltR true (frc N.F 2 t a b) c3)]⟩) (fun q => (frc N.F 2 t a b).length - q.1.1)
      ⟨⟨(0, t + N.lat), Nat.zero_le _, rfl, by simp only; omega, by simp only; omega⟩, [0, 1, 2, 3, 6, 7], ?_⟩ ?_
    · (repeat' first | refine And.intro ?_ ?_ | exact xeC | fail)
      all_goals first | exact fun x => lsG_le | exact fun x => lsG_bel | exact fun x => lsG_belR
    rintro ⟨⟨i, x⟩, hi, hs, hx0, hx1⟩
    simp only at hi hs hx0 hx1
    repeat' (first | (fail_if_success (with_reducible refine xstp ?_)); first | ((with_reducible refine And.intro (fun (hb : _ = true) => ?_) (fun (hb : _ = false) => ?_)) <;> replace hb := xnC hb <;> (try first | exact xfC | exact bff hb (by assumption) | exact bff (by assumption) hb)) | (with_reducible refine Both.mk ?_ ?_) | ((with_reducible refine And.intro ?_ ?_); focus exact xoC) | ((with_reducible refine Or.inl ⟨?_, ?_, ?_⟩); (focus rfl); focus exact xaC) | ((with_reducible refine xwB ?_ ?_); focus exact xaC) | ((with_reducible refine xwC ?_ ?_); focus exact xaC) | ((with_reducible refine xwD ?_ ?_); focus exact xaC) | ((with_reducible refine xwE ?_ ?_); focus exact xaC) | (with_reducible intro hc; (try simp only [capsP, and_true] at hc); (try exact xfC)) | ((fail_if_success (with_reducible first | refine xgon ?_ | intro _)); (conv => whnf); (fail_if_success (fail_if_success (with_reducible first | refine xstp ?_ | refine Both.mk ?_ ?_ | refine xgon ?_ | intro _)))))
    · have hlt : i < (frc N.F 2 t a b).length := by omega
      have hxi := hex ((frc N.F 2 t a b).getD i default) (frc_mem (by rw [getD_at hlt]; exact List.getElem_mem _))
      have hd := drop_consG (frc N.F 2 t a b) hlt
      rw [hd, sumX] at hs
      have e1 : 0 + ((i : Nat) : Int).toNat = i := by omega
      rw [e1]
      repeat' (first | (fail_if_success (with_reducible refine xstp ?_)); first | ((with_reducible refine And.intro (fun (hb : _ = true) => ?_) (fun (hb : _ = false) => ?_)) <;> replace hb := xnC hb <;> (try first | exact xfC | exact bff hb (by assumption) | exact bff (by assumption) hb)) | (with_reducible refine Both.mk ?_ ?_) | ((with_reducible refine And.intro ?_ ?_); focus exact xoC) | ((with_reducible refine Or.inl ⟨?_, ?_, ?_⟩); (focus rfl); focus exact xaC) | ((with_reducible refine xwB ?_ ?_); focus exact xaC) | ((with_reducible refine xwC ?_ ?_); focus exact xaC) | ((with_reducible refine xwD ?_ ?_); focus exact xaC) | ((with_reducible refine xwE ?_ ?_); focus exact xaC) | (with_reducible intro hc; (try simp only [capsP, and_true] at hc); (try exact xfC)) | ((fail_if_success (with_reducible first | refine xgon ?_ | intro _)); (conv => whnf); (fail_if_success (fail_if_success (with_reducible first | refine xstp ?_ | refine Both.mk ?_ ?_ | refine xgon ?_ | intro _)))))
      refine ⟨⟨(i + 1, x + ((frc N.F 2 t a b).getD i default).ex), by simp only; omega, hs, by simp only; omega, by simp only; omega⟩, [0, 1, 2, 3, 4, 5], by simp only; omega, ?_⟩
      (repeat' first | refine And.intro ?_ ?_ | exact xeC | fail)
      all_goals first | exact fun x => lsG_le | exact fun x => lsG_bel | exact fun x => lsG_belR
    obtain rfl : i = (frc N.F 2 t a b).length := by omega
    rw [List.drop_length, sumX] at hs
    rw [← hs] at hP
    have hl0 := hN.len x.toNat
    refine cH14aE2 (σ := [.whole 0, .name 1, .whole 2, .whole 3]) (nl := []) (cAdd { N with sent := N.sent + 1, now := t } c cs ⟨x, a, b, N.sent + 1, 0, d⟩ hN.ok hx0 (by simp only; omega) (by have := hN.cnt; simp only; omega)) ?_ (hle := by (repeat' first | refine And.intro ?_ ?_ | exact xeC | fail) <;> (first | exact fun x => lsG_le | exact fun x => lsG_bel | exact fun x => lsG_belR))
    rintro v h' ⟨cs1, rfl, rfl⟩ hcaps
    refine rH14aE1 ?_
    repeat' (first | (fail_if_success (with_reducible refine xstp ?_)); first | ((with_reducible refine And.intro (fun (hb : _ = true) => ?_) (fun (hb : _ = false) => ?_)) <;> replace hb := xnC hb <;> (try first | exact xfC | exact bff hb (by assumption) | exact bff (by assumption) hb)) | (with_reducible refine Both.mk ?_ ?_) | ((with_reducible refine And.intro ?_ ?_); focus exact xoC) | ((with_reducible refine Or.inl ⟨?_, ?_, ?_⟩); (focus rfl); focus exact xaC) | ((with_reducible refine xwB ?_ ?_); focus exact xaC) | ((with_reducible refine xwC ?_ ?_); focus exact xaC) | ((with_reducible refine xwD ?_ ?_); focus exact xaC) | ((with_reducible refine xwE ?_ ?_); focus exact xaC) | (with_reducible intro hc; (try simp only [capsP, and_true] at hc); (try exact xfC)) | ((fail_if_success (with_reducible first | refine xgon ?_ | intro _)); (conv => whnf); (fail_if_success (fail_if_success (with_reducible first | refine xstp ?_ | refine Both.mk ?_ ?_ | refine xgon ?_ | intro _)))))
    have hI0 : PgI { N with sent := N.sent + 1, now := t } := ⟨hN.ok, hN.len, hN.cnt, hN.tot⟩
    have hI1 := addN_ok hI0 (a := ⟨x, a, b, N.sent + 1, 0, d⟩) hx0
    refine cH14aE2 (σ := [.whole 0, .whole 1, .name 2]) (nl := []) (cForce (addN { N with sent := N.sent + 1, now := t } ⟨x, a, b, N.sent + 1, 0, d⟩) c 3 t a b hF) ?_
    rintro v h' ⟨c5, rfl, rfl⟩ hcaps
    refine rH14aE0 ?_
    repeat' (first | (fail_if_success (with_reducible refine xstp ?_)); first | ((with_reducible refine And.intro (fun (hb : _ = true) => ?_) (fun (hb : _ = false) => ?_)) <;> replace hb := xnC hb <;> (try first | exact xfC | exact bff hb (by assumption) | exact bff (by assumption) hb)) | (with_reducible refine Both.mk ?_ ?_) | ((with_reducible refine And.intro ?_ ?_); focus exact xoC) | ((with_reducible refine Or.inl ⟨?_, ?_, ?_⟩); (focus rfl); focus exact xaC) | ((with_reducible refine xwB ?_ ?_); focus exact xaC) | ((with_reducible refine xwC ?_ ?_); focus exact xaC) | ((with_reducible refine xwD ?_ ?_); focus exact xaC) | ((with_reducible refine xwE ?_ ?_); focus exact xaC) | (with_reducible intro hc; (try simp only [capsP, and_true] at hc); (try exact xfC)) | ((fail_if_success (with_reducible first | refine xgon ?_ | intro _)); (conv => whnf); (fail_if_success (fail_if_success (with_reducible first | refine xstp ?_ | refine Both.mk ?_ ?_ | refine xgon ?_ | intro _)))))
    refine LoopK.mk' {p : Nat × Zp × Int × Int × (Nat → Nat) // p.1 ≤ (frc N.F 3 t a b).length ∧ PgI (qN N t p.2.1) ∧ p.2.1.2.2.2 ≤ 66001 + p.1 ∧
        adN x ((frc N.F 3 t a b).drop p.1) (qN N t p.2.1) ⟨p.2.2.1, a, b, N.sent + 1, p.2.2.2.1, d⟩ = adN x (frc N.F 3 t a b) (addN { N with sent := N.sent + 1, now := t } ⟨x, a, b, N.sent + 1, 0, d⟩) ⟨x, a, b, N.sent + 1, 0, d⟩}
      (fun ⟨(i, Q, q, cp, cs2), _⟩ => ⟨[(0, .c (.p 0 0 0)), (1, .c (.i .i64 t)), (2, .c (.i .i64 a)), (3, .c (.i .i64 b)), (12, .c (.p 5 0 0)), (136, .c (.sl 6 0 6 0 (frc N.F 3 t a b).length c5)), (137, .c (.i .i64 (frc N.F 3 t a b).length)), (138, .c (.i .i64 (i : Nat)))],
        [.one (pgC (qN N t Q) c), .one (fltR true N.F c), .one (mapN 4 Q.2.1 Q.1 cs2 Q.2.2.1), .one .no, arrs Q.1 cs2, .one (.cells true [.i .i64 x, .i .i64 a, .i .i64 b, .i .i64 (N.sent + 1), .s d]), .one (fltR true (frc N.F 3 t a b) c5)]⟩) (fun q => (frc N.F 3 t a b).length - q.1.1)
      ⟨⟨(0, zN (addN { N with sent := N.sent + 1, now := t } ⟨x, a, b, N.sent + 1, 0, d⟩), x, 0, cs1), Nat.zero_le _, hI1, by show N.cnt + 1 ≤ _; omega, rfl⟩, [0, 1, 2, 3, 6, 4, 7], ?_⟩ ?_
    · (repeat' first | refine And.intro ?_ ?_ | exact xeC | fail)
      all_goals first | exact fun x => lsG_le | exact fun x => lsG_bel | exact fun x => lsG_belR
    rintro ⟨⟨i, Q, q, cp, cs2⟩, hi, hI, hQc, hs2⟩
    simp only at hi hI hQc hs2
    repeat' (first | (fail_if_success (with_reducible refine xstp ?_)); first | ((with_reducible refine And.intro (fun (hb : _ = true) => ?_) (fun (hb : _ = false) => ?_)) <;> replace hb := xnC hb <;> (try first | exact xfC | exact bff hb (by assumption) | exact bff (by assumption) hb)) | (with_reducible refine Both.mk ?_ ?_) | ((with_reducible refine And.intro ?_ ?_); focus exact xoC) | ((with_reducible refine Or.inl ⟨?_, ?_, ?_⟩); (focus rfl); focus exact xaC) | ((with_reducible refine xwB ?_ ?_); focus exact xaC) | ((with_reducible refine xwC ?_ ?_); focus exact xaC) | ((with_reducible refine xwD ?_ ?_); focus exact xaC) | ((with_reducible refine xwE ?_ ?_); focus exact xaC) | (with_reducible intro hc; (try simp only [capsP, and_true] at hc); (try exact xfC)) | ((fail_if_success (with_reducible first | refine xgon ?_ | intro _)); (conv => whnf); (fail_if_success (fail_if_success (with_reducible first | refine xstp ?_ | refine Both.mk ?_ ?_ | refine xgon ?_ | intro _)))))
    · have hlt : i < (frc N.F 3 t a b).length := by omega
      have hxi := hex ((frc N.F 3 t a b).getD i default) (frc_mem (by rw [getD_at hlt]; exact List.getElem_mem _))
      have hd := drop_consG (frc N.F 3 t a b) hlt
      rw [hd, adN] at hs2
      have e1 : 0 + ((i : Nat) : Int).toNat = i := by omega
      rw [e1]
      repeat' (first | (fail_if_success (with_reducible refine xstp ?_)); first | ((with_reducible refine And.intro (fun (hb : _ = true) => ?_) (fun (hb : _ = false) => ?_)) <;> replace hb := xnC hb <;> (try first | exact xfC | exact bff hb (by assumption) | exact bff (by assumption) hb)) | (with_reducible refine Both.mk ?_ ?_) | ((with_reducible refine And.intro ?_ ?_); focus exact xoC) | ((with_reducible refine Or.inl ⟨?_, ?_, ?_⟩); (focus rfl); focus exact xaC) | ((with_reducible refine xwB ?_ ?_); focus exact xaC) | ((with_reducible refine xwC ?_ ?_); focus exact xaC) | ((with_reducible refine xwD ?_ ?_); focus exact xaC) | ((with_reducible refine xwE ?_ ?_); focus exact xaC) | (with_reducible intro hc; (try simp only [capsP, and_true] at hc); (try exact xfC)) | ((fail_if_success (with_reducible first | refine xgon ?_ | intro _)); (conv => whnf); (fail_if_success (fail_if_success (with_reducible first | refine xstp ?_ | refine Both.mk ?_ ?_ | refine xgon ?_ | intro _)))))
      have hl1 : (((qN N t Q).D (x + ((frc N.F 3 t a b).getD i default).ex).toNat).length : Int) ≤ Q.2.2.2 := hI.len (x + ((frc N.F 3 t a b).getD i default).ex).toNat
      have hl2 : 0 ≤ Q.2.2.2 := hI.cnt
      have hI2 := addN_ok hI (a := ⟨x + ((frc N.F 3 t a b).getD i default).ex, a, b, N.sent + 1, cp + 1, d⟩) (by simp only; omega)
      refine cH14aE2 (σ := [.whole 0, .name 1, .whole 2, .whole 4]) (nl := []) (cAdd (qN N t Q) c cs2 ⟨x + ((frc N.F 3 t a b).getD i default).ex, a, b, N.sent + 1, cp + 1, d⟩ hI.ok (by simp only; omega) (by show ((qN N t Q).D (x + ((frc N.F 3 t a b).getD i default).ex).toNat).length ≤ 100000; omega) ⟨hl2, by show Q.2.2.2 ≤ _; omega⟩) ?_ (hle := by (repeat' first | refine And.intro ?_ ?_ | exact xeC | fail) <;> (first | exact fun x => lsG_le | exact fun x => lsG_bel | exact fun x => lsG_belR))
      rintro v h' ⟨cs3, rfl, rfl⟩ hcaps
      refine rH14aE1 ?_
      repeat' (first | (fail_if_success (with_reducible refine xstp ?_)); first | ((with_reducible refine And.intro (fun (hb : _ = true) => ?_) (fun (hb : _ = false) => ?_)) <;> replace hb := xnC hb <;> (try first | exact xfC | exact bff hb (by assumption) | exact bff (by assumption) hb)) | (with_reducible refine Both.mk ?_ ?_) | ((with_reducible refine And.intro ?_ ?_); focus exact xoC) | ((with_reducible refine Or.inl ⟨?_, ?_, ?_⟩); (focus rfl); focus exact xaC) | ((with_reducible refine xwB ?_ ?_); focus exact xaC) | ((with_reducible refine xwC ?_ ?_); focus exact xaC) | ((with_reducible refine xwD ?_ ?_); focus exact xaC) | ((with_reducible refine xwE ?_ ?_); focus exact xaC) | (with_reducible intro hc; (try simp only [capsP, and_true] at hc); (try exact xfC)) | ((fail_if_success (with_reducible first | refine xgon ?_ | intro _)); (conv => whnf); (fail_if_success (fail_if_success (with_reducible first | refine xstp ?_ | refine Both.mk ?_ ?_ | refine xgon ?_ | intro _)))))
      refine ⟨⟨(i + 1, zN (addN (qN N t Q) ⟨x + ((frc N.F 3 t a b).getD i default).ex, a, b, N.sent + 1, cp + 1, d⟩), x + ((frc N.F 3 t a b).getD i default).ex, cp + 1, cs3), by simp only; omega, hI2, by show Q.2.2.2 + 1 ≤ _; simp only; omega, hs2⟩, [0, 1, 2, 3, 9, 5, 6], by simp only; omega, ?_⟩
      (repeat' first | refine And.intro ?_ ?_ | exact xeC | fail)
      all_goals first | exact fun x => lsG_le | exact fun x => lsG_bel | exact fun x => lsG_belR | skip
    obtain rfl : i = (frc N.F 3 t a b).length := by omega
    rw [List.drop_length, adN] at hs2
    rw [hP, ← hs2]
    refine FinK.mk ⟨[0, 1, 2, 3, 4], _, _, ⟨cs2, rfl, rfl⟩, ?_⟩
    (repeat' first | refine And.intro ?_ ?_ | exact xeC | fail)
    all_goals first | exact fun x => lsG_le | exact fun x => lsG_bel | exact fun x => lsG_belR | skip
end Go.Proofs.Ytnjakmpddghhjaa

namespace Go.Proofs.Ytnjakmpddghhjaa
open Go.X
set_option linter.unusedSimpArgs false
set_option linter.unusedVariables false
theorem nodup_leN : ∀ (m : Nat) (S : List Nat), S.Nodup → (∀ k ∈ S, k < m) → S.length ≤ m
  | 0, S, _, h => by
    cases S with
    | nil => exact Nat.le_refl _
    | cons a S => exact absurd (h a (List.mem_cons_self ..)) (Nat.not_lt_zero _)
  | m + 1, S, hn, h => by
    by_cases hm : m ∈ S
    · have h1 := nodup_leN m (S.erase m) (hn.erase m) (fun k hk => by
        have := (hn.mem_erase_iff).1 hk
        have := h k this.2
        omega)
      rw [List.length_erase_of_mem hm] at h1
      omega
    · have := nodup_leN m S hn (fun k hk => by
        have := h k hk
        have : k ≠ m := fun e => hm (e ▸ hk)
        omega)
      omega
/-- What a range has seen: entries, each once. -/
structure Seen (M : List (Nat × Nat)) (Q : List Nat) : Prop where
  nd : Q.Nodup
  lt : ∀ q ∈ Q, q < M.length
theorem Seen.le {M : List (Nat × Nat)} {Q : List Nat} (h : Seen M Q) : Q.length ≤ M.length := nodup_leN _ _ h.nd h.lt
theorem Seen.snoc {M : List (Nat × Nat)} {Q : List Nat} (h : Seen M Q) {i : Nat} (hi : i < M.length) (hc : (M.getD i default).1 ∉ Q.map fun q => (M.getD q default).1) : Seen M (Q ++ [i]) := by
  have hiQ : i ∉ Q := fun h => hc (List.mem_map.2 ⟨i, h, rfl⟩)
  refine ⟨List.nodup_append.2 ⟨h.nd, by simp, fun a ha b hb e => hiQ (by rw [List.mem_singleton.1 hb] at e; exact e ▸ ha)⟩, fun q hq => ?_⟩
  rcases List.mem_append.1 hq with hq | hq
  · exact h.lt q hq
  · rw [List.mem_singleton.1 hq]; exact hi
theorem Seen.all {M : List (Nat × Nat)} {D : Nat → List Arv} {ck : Nat} (hO : PgOk M D ck) {Q : List Nat} (h : Seen M Q) (hc : ∀ i, i < M.length → (M.getD i default).1 ∈ Q.map fun q => (M.getD q default).1) : ∀ i, i < M.length → i ∈ Q := fun i hi => by
  obtain ⟨q, hq, e⟩ := List.mem_map.1 (hc i hi)
  have hq2 := h.lt q hq
  rcases (by omega : i < q ∨ q < i ∨ i = q) with h | h | h
  · exact absurd e.symm (hO.st i q h hq2)
  · exact absurd e (hO.st q i h hi)
  · exact h ▸ hq
set_option maxRecDepth 10000 in
theorem cSent (N : Pg) (c : Nat) : Ctr Try.prog 12 [.c (.p 0 0 0)] [.one (pgC N c), .one .no, .one .no] fun v h => v = .c (.i .i64 N.sent) ∧ h = [.one (pgC N c), .one .no, .one .no] := by
  refine Ctr.mk' tbv mixed Try.func12 rfl rfl rfl (fun _ _ => by kernel_rfl) (by kernel_rfl) (by rfl) (by rfl) (by (repeat' first | refine And.intro ?_ ?_ | exact xeC | fail)) ?_
  repeat' (first | (fail_if_success (with_reducible refine xstp ?_)); first | ((with_reducible refine And.intro (fun (hb : _ = true) => ?_) (fun (hb : _ = false) => ?_)) <;> replace hb := xnC hb <;> (try first | exact xfC | exact bff hb (by assumption) | exact bff (by assumption) hb)) | (with_reducible refine Both.mk ?_ ?_) | ((with_reducible refine And.intro ?_ ?_); focus exact xoC) | ((with_reducible refine Or.inl ⟨?_, ?_, ?_⟩); (focus rfl); focus exact xaC) | ((with_reducible refine xwB ?_ ?_); focus exact xaC) | ((with_reducible refine xwC ?_ ?_); focus exact xaC) | ((with_reducible refine xwD ?_ ?_); focus exact xaC) | ((with_reducible refine xwE ?_ ?_); focus exact xaC) | (with_reducible intro hc; (try simp only [capsP, and_true] at hc); (try exact xfC)) | ((fail_if_success (with_reducible first | refine xgon ?_ | intro _)); (conv => whnf); (fail_if_success (fail_if_success (with_reducible first | refine xstp ?_ | refine Both.mk ?_ ?_ | refine xgon ?_ | intro _)))))
  refine FinK.mk ⟨[0, 1, 2], _, _, ⟨rfl, rfl⟩, ?_⟩; (repeat' first | refine And.intro ?_ ?_ | exact xeC | fail)
theorem rH14aF0 {σ : List Sg} {H h' : List Fam} {v : T} {K : T → List Fam → Prop} {H' : List Fam} {v' : T} {N : Nat} (hk : K v' H') (hN : H.length = N := by (try simp only [↓List.length_cons, ↓List.length_nil, Nat.reduceAdd]) <;> rfl) (h : givesF σ N H σ h' = some H' := by (try simp (maxSteps := 1000000) only [givesF, setF, updF, Fam.zeroth, Fam.rk, Ck.rk, C.rk, E.rk, T.rk, key, List.map_cons, List.map_nil, List.cons_append, List.nil_append, List.length_cons, List.length_nil, Option.map_some, Option.bind_some, Nat.reduceAdd, Nat.zero_add, Nat.add_zero, Nat.add_sub_cancel_left, Int.toNat_natCast, reps, List.all_cons, List.all_nil, C.flat, List.append_eq, Bool.not_true, Bool.and_true, Bool.or_false, Bool.or_self, Bool.not_false, List.append_nil, Bool.and_self, ↓lsG_rk]) <;> rfl) (hv : v.rk σ N = v' := by (try simp only [givesF, setF, updF, Fam.zeroth, Fam.rk, Ck.rk, C.rk, E.rk, T.rk, key, List.map_cons, List.map_nil, List.cons_append, List.nil_append, List.length_cons, List.length_nil, Option.map_some, Option.bind_some, Nat.reduceAdd, Nat.zero_add, Nat.add_zero, Nat.add_sub_cancel_left, Int.toNat_natCast, reps, List.all_cons, List.all_nil, C.flat, List.append_eq, Bool.not_true, Bool.and_true, Bool.or_false, Bool.or_self, Bool.not_false, List.append_nil, Bool.and_self, ↓lsG_rk]) <;> rfl) : RetG σ H h' v K := ret_mk3 hN h hv hk
theorem cH14aF1 {P : Program} {F : Nat} {args : List T} {H : List Fam} {K : T → List Fam → Prop} {σ : List Sg} {nl : List Fam} {args0 : List T} {h0 : List Fam} {Q : T → List Fam → Prop} {H2 H1 : List Fam} {N n : Nat} (hc : Ctr P F args0 h0 Q) (hk : ∀ v h', Q v h' → capsP h' → RetG σ H2 h' v K) (hap : apart σ = true := by rfl) (hnl : nl.all nilB = true := by rfl) (h1 : H ++ nl = H1 := by first | exact List.append_nil _ | ((try simp only [List.cons_append, List.nil_append]) <;> rfl)) (hN : H1.length = N := by (try simp only [↓List.length_cons, ↓List.length_nil, Nat.reduceAdd]) <;> rfl) (hn : H.length = n := by (try simp only [↓List.length_cons, ↓List.length_nil, Nat.reduceAdd]) <;> rfl) (hH : givesF σ N H1 σ h0 = some H2 := by (try simp (maxSteps := 1000000) only [givesF, setF, updF, Fam.zeroth, Fam.rk, Ck.rk, C.rk, E.rk, T.rk, key, List.map_cons, List.map_nil, List.cons_append, List.nil_append, List.length_cons, List.length_nil, Option.map_some, Option.bind_some, Nat.reduceAdd, Nat.zero_add, Nat.add_zero, Nat.add_sub_cancel_left, Int.toNat_natCast, reps, List.all_cons, List.all_nil, C.flat, List.append_eq, Bool.not_true, Bool.and_true, Bool.or_false, Bool.or_self, Bool.not_false, List.append_nil, Bool.and_self, ↓lsG_rk]) <;> rfl) (hle : leS n H1 σ N σ h0 (belsK N (h0.map (Fam.rk σ N)) (argsK n args (args0.map (T.rk σ N)) True)) := by repeat' first | refine And.intro ?_ ?_ | exact xeC | fail) : CallK P F args H K := CallK.mk3 hc hap hnl h1 hN hn hH hle hk
set_option maxRecDepth 10000 in
set_option maxHeartbeats 4000000 in
theorem cCut (N : Pg) (c : Nat) (t a b : Int) (hF : N.F.length ≤ 64) : Ctr Try.prog 25 [.c (.p 0 0 0), .c (.i .i64 t), .c (.i .i64 a), .c (.i .i64 b)] [.one (pgC N c), .one (fltR true N.F c), .one .no]
    fun v h => v = .c (.b (decide ((okNd N.m a ∧ okNd N.m b ∧ a ≠ b) ∧ 0 < (frc N.F 4 t a b).length))) ∧ h = [.one (pgC N c), .one (fltR true N.F c), .one .no] := by
  have hN : ¬ ((okNd N.m a ∧ okNd N.m b ∧ a ≠ b) ∧ 0 < (frc N.F 4 t a b).length) → decide ((okNd N.m a ∧ okNd N.m b ∧ a ≠ b) ∧ 0 < (frc N.F 4 t a b).length) = false := fun h => decide_eq_false h
  refine Ctr.mk' tbv mixed Try.func25 rfl rfl rfl (fun _ _ => by kernel_rfl) (by kernel_rfl) (by rfl) (by rfl) (by (repeat' first | refine And.intro ?_ ?_ | exact xeC | fail)) ?_
  repeat' (first | (fail_if_success (with_reducible refine xstp ?_)); first | ((with_reducible refine And.intro (fun (hb : _ = true) => ?_) (fun (hb : _ = false) => ?_)) <;> replace hb := xnC hb <;> (try first | exact xfC | exact bff hb (by assumption) | exact bff (by assumption) hb)) | (with_reducible refine Both.mk ?_ ?_) | ((with_reducible refine And.intro ?_ ?_); focus exact xoC) | ((with_reducible refine Or.inl ⟨?_, ?_, ?_⟩); (focus rfl); focus exact xaC) | ((with_reducible refine xwB ?_ ?_); focus exact xaC) | ((with_reducible refine xwC ?_ ?_); focus exact xaC) | ((with_reducible refine xwD ?_ ?_); focus exact xaC) | ((with_reducible refine xwE ?_ ?_); focus exact xaC) | (with_reducible intro hc; (try simp only [capsP, and_true] at hc); (try exact xfC)) | ((fail_if_success (with_reducible first | refine xgon ?_ | intro _)); (conv => whnf); (fail_if_success (fail_if_success (with_reducible first | refine xstp ?_ | refine Both.mk ?_ ?_ | refine xgon ?_ | intro _)))))
  refine cH14aF1 (σ := []) (nl := []) (cvalid N.m a) ?_
  rintro v h' ⟨rfl, rfl⟩ hcaps
  refine rH14aF0 ?_
  repeat' (first | (fail_if_success (with_reducible refine xstp ?_)); first | ((with_reducible refine And.intro (fun (hb : _ = true) => ?_) (fun (hb : _ = false) => ?_)) <;> replace hb := xnC hb <;> (try first | exact xfC | exact bff hb (by assumption) | exact bff (by assumption) hb)) | (with_reducible refine Both.mk ?_ ?_) | ((with_reducible refine And.intro ?_ ?_); focus exact xoC) | ((with_reducible refine Or.inl ⟨?_, ?_, ?_⟩); (focus rfl); focus exact xaC) | ((with_reducible refine xwB ?_ ?_); focus exact xaC) | ((with_reducible refine xwC ?_ ?_); focus exact xaC) | ((with_reducible refine xwD ?_ ?_); focus exact xaC) | ((with_reducible refine xwE ?_ ?_); focus exact xaC) | (with_reducible intro hc; (try simp only [capsP, and_true] at hc); (try exact xfC)) | ((fail_if_success (with_reducible first | refine xgon ?_ | intro _)); (conv => whnf); (fail_if_success (fail_if_success (with_reducible first | refine xstp ?_ | refine Both.mk ?_ ?_ | refine xgon ?_ | intro _)))))
  · rw [hN (fun h => by have := h.1; unfold okNd at this; omega)]
    refine FinK.mk ⟨[0, 1, 2], _, _, ⟨rfl, rfl⟩, ?_⟩; (repeat' first | refine And.intro ?_ ?_ | exact xeC | fail)
  refine cH14aF1 (σ := []) (nl := []) (cvalid N.m b) ?_
  rintro v h' ⟨rfl, rfl⟩ hcaps
  refine rH14aF0 ?_
  repeat' (first | (fail_if_success (with_reducible refine xstp ?_)); first | ((with_reducible refine And.intro (fun (hb : _ = true) => ?_) (fun (hb : _ = false) => ?_)) <;> replace hb := xnC hb <;> (try first | exact xfC | exact bff hb (by assumption) | exact bff (by assumption) hb)) | (with_reducible refine Both.mk ?_ ?_) | ((with_reducible refine And.intro ?_ ?_); focus exact xoC) | ((with_reducible refine Or.inl ⟨?_, ?_, ?_⟩); (focus rfl); focus exact xaC) | ((with_reducible refine xwB ?_ ?_); focus exact xaC) | ((with_reducible refine xwC ?_ ?_); focus exact xaC) | ((with_reducible refine xwD ?_ ?_); focus exact xaC) | ((with_reducible refine xwE ?_ ?_); focus exact xaC) | (with_reducible intro hc; (try simp only [capsP, and_true] at hc); (try exact xfC)) | ((fail_if_success (with_reducible first | refine xgon ?_ | intro _)); (conv => whnf); (fail_if_success (fail_if_success (with_reducible first | refine xstp ?_ | refine Both.mk ?_ ?_ | refine xgon ?_ | intro _)))))
  · rw [hN (fun h => by have := h.1; unfold okNd at this; omega)]
    refine FinK.mk ⟨[0, 1, 2], _, _, ⟨rfl, rfl⟩, ?_⟩; (repeat' first | refine And.intro ?_ ?_ | exact xeC | fail)
  · rw [hN (fun h => by have := h.1; unfold okNd at this; omega)]
    refine FinK.mk ⟨[0, 1, 2], _, _, ⟨rfl, rfl⟩, ?_⟩; (repeat' first | refine And.intro ?_ ?_ | exact xeC | fail)
  refine cH14aF1 (σ := [.whole 0, .whole 1, .name 2]) (nl := []) (cForce N c 4 t a b hF) ?_
  rintro v h' ⟨c1, rfl, rfl⟩ hcaps
  refine rH14aF0 ?_
  repeat' (first | (fail_if_success (with_reducible refine xstp ?_)); first | ((with_reducible refine And.intro (fun (hb : _ = true) => ?_) (fun (hb : _ = false) => ?_)) <;> replace hb := xnC hb <;> (try first | exact xfC | exact bff hb (by assumption) | exact bff (by assumption) hb)) | (with_reducible refine Both.mk ?_ ?_) | ((with_reducible refine And.intro ?_ ?_); focus exact xoC) | ((with_reducible refine Or.inl ⟨?_, ?_, ?_⟩); (focus rfl); focus exact xaC) | ((with_reducible refine xwB ?_ ?_); focus exact xaC) | ((with_reducible refine xwC ?_ ?_); focus exact xaC) | ((with_reducible refine xwD ?_ ?_); focus exact xaC) | ((with_reducible refine xwE ?_ ?_); focus exact xaC) | (with_reducible intro hc; (try simp only [capsP, and_true] at hc); (try exact xfC)) | ((fail_if_success (with_reducible first | refine xgon ?_ | intro _)); (conv => whnf); (fail_if_success (fail_if_success (with_reducible first | refine xstp ?_ | refine Both.mk ?_ ?_ | refine xgon ?_ | intro _)))))
  have hnd : okNd N.m a ∧ okNd N.m b ∧ a ≠ b := by
    unfold okNd
    omega
  refine FinK.mk ⟨[0, 1, 2], _, _, ⟨rfl, rfl⟩, ?_⟩; (repeat' first | refine And.intro ?_ ?_ | exact xeC | fail)
  exact decide_eq_decide.2 ⟨fun h => ⟨hnd, by unfold frc; omega⟩, fun h => by have := h.2; unfold frc at this; omega⟩
set_option maxRecDepth 10000 in
set_option maxHeartbeats 4000000 in
theorem cNext (N : Pg) (c : Nat) (cs : Nat → Nat) (hO : PgOk N.M N.D N.ck) :
    Ctr Try.prog 21 [.c (.p 0 0 0)] [.one (pgC N c), .one .no, .one (mapN 3 N.M N.D cs N.ck), .one .no]
      fun v h => ∃ (l : Int) (o : Bool), v = .t [.c (.i .i64 l), .c (.b o)] ∧ h = [.one (pgC N c), .one .no, .one (mapN 3 N.M N.D cs N.ck), .one .no] ∧
        (N.M.length = 0 → l = 0 ∧ o = false) ∧ (0 < N.M.length → o = true ∧ (∃ i, i < N.M.length ∧ l = (N.M.getD i default).2) ∧ ∀ i, i < N.M.length → l ≤ (N.M.getD i default).2) := by
  refine Ctr.mk' tbv mixed Try.func21 rfl rfl rfl (fun _ _ => by kernel_rfl) (by kernel_rfl) (by rfl) (by rfl) (by (repeat' first | refine And.intro ?_ ?_ | exact xeC | fail)) ?_
  repeat' (first | (fail_if_success (with_reducible refine xstp ?_)); first | ((with_reducible refine And.intro (fun (hb : _ = true) => ?_) (fun (hb : _ = false) => ?_)) <;> replace hb := xnC hb <;> (try first | exact xfC | exact bff hb (by assumption) | exact bff (by assumption) hb)) | (with_reducible refine Both.mk ?_ ?_) | ((with_reducible refine And.intro ?_ ?_); focus exact xoC) | ((with_reducible refine Or.inl ⟨?_, ?_, ?_⟩); (focus rfl); focus exact xaC) | ((with_reducible refine xwB ?_ ?_); focus exact xaC) | ((with_reducible refine xwC ?_ ?_); focus exact xaC) | ((with_reducible refine xwD ?_ ?_); focus exact xaC) | ((with_reducible refine xwE ?_ ?_); focus exact xaC) | (with_reducible intro hc; (try simp only [capsP, and_true] at hc); (try exact xfC)) | ((fail_if_success (with_reducible first | refine xgon ?_ | intro _)); (conv => whnf); (fail_if_success (fail_if_success (with_reducible first | refine xstp ?_ | refine Both.mk ?_ ?_ | refine xgon ?_ | intro _)))))
  refine LoopK.mk' {p : List Nat × Int × Bool // Seen N.M p.1 ∧ (p.1 = [] → p.2.1 = 0 ∧ p.2.2 = false) ∧ (p.1 ≠ [] → p.2.2 = true ∧ (∃ i, i < N.M.length ∧ p.2.1 = (N.M.getD i default).2) ∧ ∀ q ∈ p.1, p.2.1 ≤ (N.M.getD q default).2)}
    (fun ⟨(Q, l, o), _⟩ => ⟨[(0, .c (.p 0 0 0)), (4, .c (.i .i64 l)), (5, .c (.b o)), (13, .c (.p 4 0 0))],
      [.one (pgC N c), .one .no, .one (mapN 3 N.M N.D cs N.ck), .one .no, .one (.iter 2 0 N.ck (Q.map fun q => (N.M.getD q default).1))]⟩) (fun p => N.M.length - p.1.1.length)
    ⟨⟨([], 0, false), ⟨List.nodup_nil, fun q hq => by cases hq⟩, fun _ => ⟨rfl, rfl⟩, fun h => absurd rfl h⟩, [0, 1, 2, 3, 4], ?_⟩ ?_
  · (repeat' first | refine And.intro ?_ ?_ | exact xeC | fail)
  rintro ⟨⟨Q, l, o⟩, hQ, h0, h1⟩
  simp only at hQ h0 h1
  have hQl := hQ.le
  repeat' (first | (fail_if_success (with_reducible refine xstp ?_)); first | ((with_reducible refine And.intro (fun (hb : _ = true) => ?_) (fun (hb : _ = false) => ?_)) <;> replace hb := xnC hb <;> (try first | exact xfC | exact bff hb (by assumption) | exact bff (by assumption) hb)) | (with_reducible refine Both.mk ?_ ?_) | ((with_reducible refine And.intro ?_ ?_); focus exact xoC) | ((with_reducible refine Or.inl ⟨?_, ?_, ?_⟩); (focus rfl); focus exact xaC) | ((with_reducible refine xwB ?_ ?_); focus exact xaC) | ((with_reducible refine xwC ?_ ?_); focus exact xaC) | ((with_reducible refine xwD ?_ ?_); focus exact xaC) | ((with_reducible refine xwE ?_ ?_); focus exact xaC) | (with_reducible intro hc; (try simp only [capsP, and_true] at hc); (try exact xfC)) | ((fail_if_success (with_reducible first | refine xgon ?_ | intro _)); (conv => whnf); (fail_if_success (fail_if_success (with_reducible first | refine xstp ?_ | refine Both.mk ?_ ?_ | refine xgon ?_ | intro _)))))
  · rename_i i hi
    have hQ' := hQ.snoc hi hc
    have hQl' := hQ'.le
    refine ⟨i, hi, List.getLast?_concat, ?_⟩
    repeat' (first | (fail_if_success (with_reducible refine xstp ?_)); first | ((with_reducible refine And.intro (fun (hb : _ = true) => ?_) (fun (hb : _ = false) => ?_)) <;> replace hb := xnC hb <;> (try first | exact xfC | exact bff hb (by assumption) | exact bff (by assumption) hb)) | (with_reducible refine Both.mk ?_ ?_) | ((with_reducible refine And.intro ?_ ?_); focus exact xoC) | ((with_reducible refine Or.inl ⟨?_, ?_, ?_⟩); (focus rfl); focus exact xaC) | ((with_reducible refine xwB ?_ ?_); focus exact xaC) | ((with_reducible refine xwC ?_ ?_); focus exact xaC) | ((with_reducible refine xwD ?_ ?_); focus exact xaC) | ((with_reducible refine xwE ?_ ?_); focus exact xaC) | (with_reducible intro hc; (try simp only [capsP, and_true] at hc); (try exact xfC)) | ((fail_if_success (with_reducible first | refine xgon ?_ | intro _)); (conv => whnf); (fail_if_success (fail_if_success (with_reducible first | refine xstp ?_ | refine Both.mk ?_ ?_ | refine xgon ?_ | intro _)))))
    · refine ⟨⟨(Q ++ [i], ((N.M.getD i default).2 : Nat), true), hQ', fun h => absurd h (by simp), fun _ => ⟨rfl, ⟨i, hi, rfl⟩, fun q hq => ?_⟩⟩, [0, 1, 2, 3, 4], by simp only [List.length_append, List.length_singleton] at hQl' ⊢; omega, ?_⟩
      · have hQe : Q = [] := by
          by_cases h : Q = []
          · exact h
          · rw [(h1 h).1] at hb; cases hb
        subst hQe
        rw [List.mem_singleton.1 hq]
        exact Int.le_refl _
      (repeat' first | refine And.intro ?_ ?_ | exact xeC | fail)
      all_goals first | rfl | (rw [List.map_append]; rfl)
    · refine ⟨⟨(Q ++ [i], ((N.M.getD i default).2 : Nat), true), hQ', fun h => absurd h (by simp), fun _ => ⟨rfl, ⟨i, hi, rfl⟩, fun q hq => ?_⟩⟩, [0, 1, 2, 3, 4], by simp only [List.length_append, List.length_singleton] at hQl' ⊢; omega, ?_⟩
      · rcases List.mem_append.1 hq with hq | hq
        · have := (h1 (fun e => by rw [e] at hq; cases hq)).2.2 q hq
          simp only
          omega
        · rw [List.mem_singleton.1 hq]
          exact Int.le_refl _
      (repeat' first | refine And.intro ?_ ?_ | exact xeC | fail)
      all_goals first | rfl | (rw [List.map_append]; rfl)
    · have hne : Q ≠ [] := fun e => by rw [(h0 e).2] at *; contradiction
      obtain ⟨g1, g2, g3⟩ := h1 hne
      repeat' (first | (fail_if_success (with_reducible refine xstp ?_)); first | ((with_reducible refine And.intro (fun (hb : _ = true) => ?_) (fun (hb : _ = false) => ?_)) <;> replace hb := xnC hb <;> (try first | exact xfC | exact bff hb (by assumption) | exact bff (by assumption) hb)) | (with_reducible refine Both.mk ?_ ?_) | ((with_reducible refine And.intro ?_ ?_); focus exact xoC) | ((with_reducible refine Or.inl ⟨?_, ?_, ?_⟩); (focus rfl); focus exact xaC) | ((with_reducible refine xwB ?_ ?_); focus exact xaC) | ((with_reducible refine xwC ?_ ?_); focus exact xaC) | ((with_reducible refine xwD ?_ ?_); focus exact xaC) | ((with_reducible refine xwE ?_ ?_); focus exact xaC) | (with_reducible intro hc; (try simp only [capsP, and_true] at hc); (try exact xfC)) | ((fail_if_success (with_reducible first | refine xgon ?_ | intro _)); (conv => whnf); (fail_if_success (fail_if_success (with_reducible first | refine xstp ?_ | refine Both.mk ?_ ?_ | refine xgon ?_ | intro _)))))
      refine ⟨⟨(Q ++ [i], l, o), hQ', fun h => absurd h (by simp), fun _ => ⟨g1, g2, fun q hq => ?_⟩⟩, [0, 1, 2, 3, 4], by simp only [List.length_append, List.length_singleton] at hQl' ⊢; omega, ?_⟩
      · rcases List.mem_append.1 hq with hq | hq
        · exact g3 q hq
        · rw [List.mem_singleton.1 hq]
          assumption
      (repeat' first | refine And.intro ?_ ?_ | exact xeC | fail)
      all_goals first | rfl | (rw [List.map_append]; rfl)
  · have hall := hQ.all hO hc
    refine FinK.mk ⟨[0, 1, 2, 3], _, _, ⟨l, o, rfl, rfl, fun h => h0 (by
      cases Q with
      | nil => rfl
      | cons q Q => have := hQ.lt q (List.mem_cons_self ..); omega), fun h => ?_⟩, ?_⟩
    · obtain ⟨g1, g2, g3⟩ := h1 (fun e => by have := hall 0 h; rw [e] at this; cases this)
      exact ⟨g1, g2, fun i hi => g3 i (hall i hi)⟩
    (repeat' first | refine And.intro ?_ ?_ | exact xeC | fail)
abbrev intR (l : List Int) (c : Nat) : Ck := .row true false 3 1 l.length c (rowOf Go.X.encI l)
theorem srt_mem {O : List Int} (x : Int) : x ∈ srtI O ↔ x ∈ O := List.mem_mergeSort
theorem srt_pw {O : List Int} (hn : O.Nodup) : (srtI O).Pairwise (· < ·) := by
  unfold srtI
  have h1 : (O.mergeSort fun x y => decide (x ≤ y)).Pairwise fun a b => decide (a ≤ b) = true := List.pairwise_mergeSort (fun a b c => by simp; omega) (fun a b => by simp; omega) O
  have h2 : (O.mergeSort fun x y => decide (x ≤ y)).Nodup := (List.mergeSort_perm O _).nodup_iff.2 hn
  rw [List.nodup_iff_pairwise_ne] at h2
  exact (h1.and h2).imp fun {a b} h => by
    have := h.1
    have := h.2
    simp at *
    omega
def tms (M : List (Nat × Nat)) (u : Int) (Q : List Nat) : List Int := (Q.filter fun q => decide (((M.getD q default).2 : Int) ≤ u)).map fun q => ((M.getD q default).2 : Int)
theorem tms_len (M : List (Nat × Nat)) (u : Int) (Q : List Nat) : (tms M u Q).length ≤ Q.length := by
  unfold tms
  rw [List.length_map]
  exact List.length_filter_le ..
theorem tms_y {M : List (Nat × Nat)} {u : Int} {Q : List Nat} {i : Nat} (h : ((M.getD i default).2 : Int) ≤ u) : tms M u (Q ++ [i]) = tms M u Q ++ [((M.getD i default).2 : Int)] := by
  unfold tms
  rw [filt_y (p := fun q => decide (((M.getD q default).2 : Int) ≤ u)) (decide_eq_true h), List.map_append]
  rfl
theorem tms_n {M : List (Nat × Nat)} {u : Int} {Q : List Nat} {i : Nat} (h : ¬ ((M.getD i default).2 : Int) ≤ u) : tms M u (Q ++ [i]) = tms M u Q := by
  unfold tms
  rw [filt_n (p := fun q => decide (((M.getD q default).2 : Int) ≤ u)) (decide_eq_false h)]
theorem tms_nd {M : List (Nat × Nat)} {D : Nat → List Arv} {ck : Nat} (hO : PgOk M D ck) {u : Int} {Q : List Nat} (hQ : Seen M Q) : (tms M u Q).Nodup := by
  unfold tms
  rw [List.nodup_iff_pairwise_ne, List.pairwise_map]
  have := List.nodup_iff_pairwise_ne.1 (hQ.nd.filter fun q => decide (((M.getD q default).2 : Int) ≤ u))
  refine this.imp_of_mem ?_
  intro a b ha hb hab e
  have ha' := hQ.lt a (List.mem_filter.1 ha).1
  have hb' := hQ.lt b (List.mem_filter.1 hb).1
  exact hab (hO.inj ha' hb' (by omega))
theorem mem_tms {M : List (Nat × Nat)} {D : Nat → List Arv} {ck : Nat} (hO : PgOk M D ck) {u : Int} {Q : List Nat} (hQ : Seen M Q) (hall : ∀ i, i < M.length → i ∈ Q) (x : Int) : x ∈ tms M u Q ↔ 0 ≤ x ∧ D x.toNat ≠ [] ∧ x ≤ u := by
  unfold tms
  rw [List.mem_map]
  constructor
  · rintro ⟨q, hq, rfl⟩
    obtain ⟨h1, h2⟩ := List.mem_filter.1 hq
    exact ⟨by omega, by rw [Int.toNat_natCast]; exact hO.ne q (hQ.lt q h1), by simpa using h2⟩
  · rintro ⟨h0, h1, h2⟩
    obtain ⟨i, hi, e⟩ := hO.all _ h1
    exact ⟨i, List.mem_filter.2 ⟨hall i hi, decide_eq_true (by omega)⟩, by omega⟩
theorem flat_len {P : List Arv} {D : Nat → List Arv} (hD : ∀ x : Nat, D x = P.filter fun a => decide (a.at_ = (x : Int))) : ∀ (T : List Int), T.Nodup → (∀ t ∈ T, 0 ≤ t) → (T.flatMap fun t => D t.toNat).length = (P.filter fun a => decide (a.at_ ∈ T)).length
  | [], _, _ => by rw [List.filter_eq_nil_iff.2 (by intro a _; simp)]; rfl
  | t :: T, hn, h0 => by
    have hn' := List.nodup_cons.1 hn
    rw [List.flatMap_cons, List.length_append, flat_len hD T hn'.2 (fun s hs => h0 s (List.mem_cons_of_mem _ hs)), hD]
    have ht := h0 t (List.mem_cons_self ..)
    rw [show ((t.toNat : Nat) : Int) = t by omega]
    clear hD
    induction P with
    | nil => rfl
    | cons a P ih =>
      by_cases h1 : a.at_ = t
      · have h2 : a.at_ ∉ T := by rw [h1]; exact hn'.1
        simp only [List.filter_cons, h1, hn'.1, decide_true, decide_false, if_true, Bool.false_eq_true, if_false, List.length_cons, List.mem_cons, true_or]
        simp only [List.mem_cons] at ih
        omega
      · by_cases h2 : a.at_ ∈ T
        · simp only [List.filter_cons, h1, h2, decide_true, decide_false, if_true, Bool.false_eq_true, if_false, List.length_cons, List.mem_cons, or_true]
          simp only [List.mem_cons] at ih
          omega
        · simp only [List.filter_cons, h1, h2, decide_false, Bool.false_eq_true, if_false, List.mem_cons, or_self]
          simp only [List.mem_cons] at ih
          omega
def dropD (D : Nat → List Arv) (T : List Int) : Nat → List Arv := fun x => if (x : Int) ∈ T then [] else D x
theorem getD_erase {α : Type} (l : List α) (k j : Nat) (d : α) : (l.eraseIdx k).getD j d = if j < k then l.getD j d else l.getD (j + 1) d := by
  simp only [List.getD, List.getElem?_eraseIdx]
  split <;> rfl
theorem PgOk.erase {M : List (Nat × Nat)} {D D' : Nat → List Arv} {ck : Nat} (h : PgOk M D ck) {k : Nat} (hk : k < M.length) (h0 : D' (M.getD k default).2 = []) (h1 : ∀ y, y ≠ (M.getD k default).2 → D' y = D y) : PgOk (M.eraseIdx k) D' ck := by
  have hl : (M.eraseIdx k).length = M.length - 1 := List.length_eraseIdx_of_lt hk
  have hs : ∀ j, j < (M.eraseIdx k).length → ∃ q, q < M.length ∧ q ≠ k ∧ (M.eraseIdx k).getD j default = M.getD q default := fun j hj => by
    rw [getD_erase]
    by_cases hjk : j < k
    · exact ⟨j, by omega, by omega, by rw [if_pos hjk]⟩
    · exact ⟨j + 1, by omega, by omega, by rw [if_neg hjk]⟩
  have hne : ∀ q, q < M.length → q ≠ k → (M.getD q default).2 ≠ (M.getD k default).2 := fun q hq hqk e => hqk (h.inj hq hk e)
  refine ⟨fun i j hij hj => ?_, fun i j hij hj => ?_, fun i hi => ?_, fun i hi => ?_, fun x hx => ?_⟩
  · rw [getD_erase, getD_erase]
    split <;> split <;> first | exact h.key _ _ (by omega) (by omega) | omega
  · rw [getD_erase, getD_erase]
    split <;> split <;> first | exact h.st _ _ (by omega) (by omega) | omega
  · obtain ⟨q, hq, _, e⟩ := hs i hi
    rw [e]; exact h.lt q hq
  · obtain ⟨q, hq, hqk, e⟩ := hs i hi
    rw [e, h1 _ (hne q hq hqk)]; exact h.ne q hq
  · by_cases hxk : x = (M.getD k default).2
    · rw [hxk, h0] at hx; exact absurd rfl hx
    · rw [h1 x hxk] at hx
      obtain ⟨q, hq, e⟩ := h.all x hx
      have hqk : q ≠ k := fun e2 => hxk (by rw [← e, e2])
      by_cases hlt : q < k
      · exact ⟨q, by omega, by rw [getD_erase, if_pos hlt]; exact e⟩
      · exact ⟨q - 1, by omega, by rw [getD_erase, if_neg (by omega), show q - 1 + 1 = q by omega]; exact e⟩
theorem dropD_nil (D : Nat → List Arv) : dropD D [] = D := by
  funext x
  unfold dropD
  rw [if_neg (by simp)]
set_option maxRecDepth 10000 in
set_option maxHeartbeats 4000000 in
theorem cRecv (N : Pg) (c : Nat) (cs : Nat → Nat) (u : Int) (hN : PgI N) (hcn : N.cnt ≤ 100000) :
    Ctr Try.prog 11 [.c (.p 0 0 0), .c (.i .i64 u)] [.one (pgC N c), .one .no, .one (mapN 3 N.M N.D cs N.ck), arrs N.D cs]
      fun v h => ∃ (ts : List Int) (M' : List (Nat × Nat)) (c1 : Nat), v = .c (.sl 4 0 5 0 (ts.flatMap fun t => N.D t.toNat).length c1) ∧
        h = [.one (pgC { N with now := max N.now u, cnt := N.cnt - (ts.flatMap fun t => N.D t.toNat).length } c), .one .no, .one (mapN 3 M' (dropD N.D ts) cs N.ck), arrs (dropD N.D ts) cs, .one (arvP (ts.flatMap fun t => N.D t.toNat) c1)] ∧
        PgOk M' (dropD N.D ts) N.ck ∧ ts.Pairwise (· < ·) ∧ ∀ x, x ∈ ts ↔ 0 ≤ x ∧ N.D x.toNat ≠ [] ∧ x ≤ u := by
  refine Ctr.mk' tbv mixed Try.func11 rfl rfl rfl (fun _ _ => by kernel_rfl) (by kernel_rfl) (by rfl) (by rfl) (by (repeat' first | refine And.intro ?_ ?_ | exact xeC | fail) <;> exact fun x => lsG_bel) ?_
  repeat' (first | (fail_if_success (with_reducible refine xstp ?_)); first | ((with_reducible refine And.intro (fun (hb : _ = true) => ?_) (fun (hb : _ = false) => ?_)) <;> replace hb := xnC hb <;> (try first | exact xfC | exact bff hb (by assumption) | exact bff (by assumption) hb)) | (with_reducible refine Both.mk ?_ ?_) | ((with_reducible refine And.intro ?_ ?_); focus exact xoC) | ((with_reducible refine Or.inl ⟨?_, ?_, ?_⟩); (focus rfl); focus exact xaC) | ((with_reducible refine xwB ?_ ?_); focus exact xaC) | ((with_reducible refine xwC ?_ ?_); focus exact xaC) | ((with_reducible refine xwD ?_ ?_); focus exact xaC) | ((with_reducible refine xwE ?_ ?_); focus exact xaC) | (with_reducible intro hc; (try simp only [capsP, and_true] at hc); (try exact xfC)) | ((fail_if_success (with_reducible first | refine xgon ?_ | intro _)); (conv => whnf); (fail_if_success (fail_if_success (with_reducible first | refine xstp ?_ | refine Both.mk ?_ ?_ | refine xgon ?_ | intro _)))))
  obtain ⟨P, hP1, hP2, hP3⟩ := hN.tot
  have hO := hN.ok
  have hMl : N.M.length ≤ P.length := by
    have h1 := flat_len hP1 (N.M.map fun e => (e.2 : Int)) (by
      rw [List.nodup_iff_pairwise_ne, List.pairwise_map, List.pairwise_iff_getElem]
      intro i j hi hj hij e
      rw [← getD_at hi, ← getD_at hj] at e
      exact hO.key i j hij hj (by omega)) (fun t ht => by obtain ⟨e, _, rfl⟩ := List.mem_map.1 ht; omega)
    have h2 : ∀ L : List (Nat × Nat), (∀ e ∈ L, N.D e.2 ≠ []) → L.length ≤ ((L.map fun e => (e.2 : Int)).flatMap fun t => N.D t.toNat).length := by
      intro L
      induction L with
      | nil => intro _; exact Nat.zero_le _
      | cons e L ih =>
        intro h
        have := ih (fun q hq => h q (List.mem_cons_of_mem _ hq))
        have h3 : 0 < (N.D e.2).length := List.length_pos_iff.2 (h e (List.mem_cons_self ..))
        rw [List.map_cons, List.flatMap_cons, List.length_append, List.length_cons, Int.toNat_natCast]
        omega
    have h3 := h2 N.M (fun e he => by
      obtain ⟨i, hi, rfl⟩ := List.getElem_of_mem he
      rw [← getD_at hi]
      exact hO.ne i hi)
    have h4 := List.length_filter_le (fun a : Arv => decide (a.at_ ∈ N.M.map fun e => (e.2 : Int))) P
    omega
  refine LoopK.mk' {p : List Nat × Nat // Seen N.M p.1}
    (fun ⟨(Q, c1), _⟩ => ⟨[(0, .c (.p 0 0 0)), (1, .c (.i .i64 u)), (5, .c (.sl 5 0 1 0 (tms N.M u Q).length c1)), (25, .c (.p 4 0 0))],
      [.one (pgC { N with now := max N.now u } c), .one .no, .one (mapN 3 N.M N.D cs N.ck), arrs N.D cs, .one (.iter 2 0 N.ck (Q.map fun q => (N.M.getD q default).1)), .one (intR (tms N.M u Q) c1)]⟩) (fun p => N.M.length - p.1.1.length)
    ⟨⟨([], 0), ⟨List.nodup_nil, fun q hq => by cases hq⟩⟩, [0, 1, 2, 3, 4, 99], ?_⟩ ?_
  · (repeat' first | refine And.intro ?_ ?_ | exact xeC | fail)
    all_goals first | exact fun x => lsG_le | exact fun x => lsG_bel | exact fun x => lsG_belR | (intro i hi; exact absurd hi (Nat.not_lt_zero i))
  rintro ⟨⟨Q, c1⟩, hQ⟩
  simp only at hQ
  have hQl := hQ.le
  have htl := tms_len N.M u Q
  repeat' (first | (fail_if_success (with_reducible refine xstp ?_)); first | ((with_reducible refine And.intro (fun (hb : _ = true) => ?_) (fun (hb : _ = false) => ?_)) <;> replace hb := xnC hb <;> (try first | exact xfC | exact bff hb (by assumption) | exact bff (by assumption) hb)) | (with_reducible refine Both.mk ?_ ?_) | ((with_reducible refine And.intro ?_ ?_); focus exact xoC) | ((with_reducible refine Or.inl ⟨?_, ?_, ?_⟩); (focus rfl); focus exact xaC) | ((with_reducible refine xwB ?_ ?_); focus exact xaC) | ((with_reducible refine xwC ?_ ?_); focus exact xaC) | ((with_reducible refine xwD ?_ ?_); focus exact xaC) | ((with_reducible refine xwE ?_ ?_); focus exact xaC) | (with_reducible intro hc; (try simp only [capsP, and_true] at hc); (try exact xfC)) | ((fail_if_success (with_reducible first | refine xgon ?_ | intro _)); (conv => whnf); (fail_if_success (fail_if_success (with_reducible first | refine xstp ?_ | refine Both.mk ?_ ?_ | refine xgon ?_ | intro _)))))
  · rename_i i hi
    have hQ' := hQ.snoc hi hc
    have hQl' := hQ'.le
    rw [List.length_append, List.length_singleton] at hQl'
    refine ⟨i, hi, List.getLast?_concat, ?_⟩
    repeat' (first | (fail_if_success (with_reducible refine xstp ?_)); first | ((with_reducible refine And.intro (fun (hb : _ = true) => ?_) (fun (hb : _ = false) => ?_)) <;> replace hb := xnC hb <;> (try first | exact xfC | exact bff hb (by assumption) | exact bff (by assumption) hb)) | (with_reducible refine Both.mk ?_ ?_) | ((with_reducible refine And.intro ?_ ?_); focus exact xoC) | ((with_reducible refine Or.inl ⟨?_, ?_, ?_⟩); (focus rfl); focus exact xaC) | ((with_reducible refine xwB ?_ ?_); focus exact xaC) | ((with_reducible refine xwC ?_ ?_); focus exact xaC) | ((with_reducible refine xwD ?_ ?_); focus exact xaC) | ((with_reducible refine xwE ?_ ?_); focus exact xaC) | (with_reducible intro hc; (try simp only [capsP, and_true] at hc); (try exact xfC)) | ((fail_if_success (with_reducible first | refine xgon ?_ | intro _)); (conv => whnf); (fail_if_success (fail_if_success (with_reducible first | refine xstp ?_ | refine Both.mk ?_ ?_ | refine xgon ?_ | intro _)))))
    · rename_i c2
      refine ⟨⟨(Q ++ [i], c2), hQ'⟩, [0, 1, 2, 3, 4, 7], by simp only [List.length_append, List.length_singleton]; omega, ?_⟩
      simp only [tms_y hb]
      (repeat' first | refine And.intro ?_ ?_ | exact xeC | fail)
      all_goals first
        | exact fun x => lsG_le
        | exact fun x => lsG_bel
        | exact fun x => lsG_belR
        | rfl
        | (rw [List.map_append]; rfl)
        | omega
        | exact Nat.le_of_eq (by simp)
        | (simp; done)
        | (intro j hj; exact app_rowG Go.X.encI _ _ _ rfl j hj)
    · skip
      repeat' (first | (fail_if_success (with_reducible refine xstp ?_)); first | ((with_reducible refine And.intro (fun (hb : _ = true) => ?_) (fun (hb : _ = false) => ?_)) <;> replace hb := xnC hb <;> (try first | exact xfC | exact bff hb (by assumption) | exact bff (by assumption) hb)) | (with_reducible refine Both.mk ?_ ?_) | ((with_reducible refine And.intro ?_ ?_); focus exact xoC) | ((with_reducible refine Or.inl ⟨?_, ?_, ?_⟩); (focus rfl); focus exact xaC) | ((with_reducible refine xwB ?_ ?_); focus exact xaC) | ((with_reducible refine xwC ?_ ?_); focus exact xaC) | ((with_reducible refine xwD ?_ ?_); focus exact xaC) | ((with_reducible refine xwE ?_ ?_); focus exact xaC) | (with_reducible intro hc; (try simp only [capsP, and_true] at hc); (try exact xfC)) | ((fail_if_success (with_reducible first | refine xgon ?_ | intro _)); (conv => whnf); (fail_if_success (fail_if_success (with_reducible first | refine xstp ?_ | refine Both.mk ?_ ?_ | refine xgon ?_ | intro _)))))
      refine ⟨⟨(Q ++ [i], c1), hQ'⟩, [0, 1, 2, 3, 4, 5], by simp only [List.length_append, List.length_singleton]; omega, ?_⟩
      simp only [tms_n (show ¬ ((N.M.getD i default).2 : Int) ≤ u by omega)]
      (repeat' first | refine And.intro ?_ ?_ | exact xeC | fail)
      all_goals first | exact fun x => lsG_le | exact fun x => lsG_bel | exact fun x => lsG_belR | rfl | (rw [List.map_append]; rfl)
  · have hall := hQ.all hO hc
    have hmem := mem_tms hO (u := u) hQ hall
    have hnd := tms_nd hO (u := u) hQ
    refine cH14aF1 (σ := [.whole 5]) (nl := []) (cSort 3 (tms N.M u Q) c1 (by omega)) ?_
    rintro v h' ⟨rfl, rfl⟩ hcaps
    obtain ⟨ts, hT⟩ : ∃ ts, ts = srtI (tms N.M u Q) := ⟨_, rfl⟩
    have hTl : ts.length = (tms N.M u Q).length := by rw [hT]; exact List.length_mergeSort _
    have hTp : ts.Pairwise (· < ·) := by rw [hT]; exact srt_pw hnd
    have hTm : ∀ x, x ∈ ts ↔ 0 ≤ x ∧ N.D x.toNat ≠ [] ∧ x ≤ u := fun x => by rw [hT, srt_mem]; exact hmem x
    rw [← hT, ← hTl]
    refine rH14aF0 ?_
    repeat' (first | (fail_if_success (with_reducible refine xstp ?_)); first | ((with_reducible refine And.intro (fun (hb : _ = true) => ?_) (fun (hb : _ = false) => ?_)) <;> replace hb := xnC hb <;> (try first | exact xfC | exact bff hb (by assumption) | exact bff (by assumption) hb)) | (with_reducible refine Both.mk ?_ ?_) | ((with_reducible refine And.intro ?_ ?_); focus exact xoC) | ((with_reducible refine Or.inl ⟨?_, ?_, ?_⟩); (focus rfl); focus exact xaC) | ((with_reducible refine xwB ?_ ?_); focus exact xaC) | ((with_reducible refine xwC ?_ ?_); focus exact xaC) | ((with_reducible refine xwD ?_ ?_); focus exact xaC) | ((with_reducible refine xwE ?_ ?_); focus exact xaC) | (with_reducible intro hc; (try simp only [capsP, and_true] at hc); (try exact xfC)) | ((fail_if_success (with_reducible first | refine xgon ?_ | intro _)); (conv => whnf); (fail_if_success (fail_if_success (with_reducible first | refine xstp ?_ | refine Both.mk ?_ ?_ | refine xgon ?_ | intro _)))))
    refine LoopK.mk' {p : Nat × List (Nat × Nat) × Nat // p.1 ≤ ts.length ∧ PgOk p.2.1 (dropD N.D (ts.take p.1)) N.ck}
      (fun ⟨(i, M', c2), _⟩ => ⟨[(0, .c (.p 0 0 0)), (7, .c (.sl 5 0 5 0 ((ts.take i).flatMap fun t => N.D t.toNat).length c2)), (39, .c (.sl 4 0 1 0 ts.length c1)), (40, .c (.i .i64 ts.length)), (41, .c (.i .i64 (i : Nat)))],
        [.one (pgC { N with now := max N.now u } c), .one .no, .one (mapN 3 M' (dropD N.D (ts.take i)) cs N.ck), arrs (dropD N.D (ts.take i)) cs, .one (intR ts c1), .one (arvP ((ts.take i).flatMap fun t => N.D t.toNat) c2)]⟩) (fun p => ts.length - p.1.1)
      ⟨⟨(0, N.M, 0), Nat.zero_le _, by rw [List.take_zero, dropD_nil]; exact hO⟩, [0, 1, 2, 3, 5, 99], ?_⟩ ?_
    · have hD0 : dropD N.D (ts.take 0) = N.D := by rw [List.take_zero, dropD_nil]
      (repeat' first | refine And.intro ?_ ?_ | exact xeC | fail)
      all_goals first
        | (intro i hi; exact absurd hi (Nat.not_lt_zero i))
        | (intro x
           show Ck.leK _ _ (Ck.rk _ _ (lsG (dropD N.D (ts.take 0) x) (cs x))) True
           rw [hD0]
           exact lsG_le)
        | exact fun x => lsG_bel
        | exact fun x => lsG_belR
        | (intro j hj; simp only [hD0]; done)
        | (intro j hj; simp only [hD0]; rfl)
    rintro ⟨⟨i, M', c2⟩, hi, hM'⟩
    simp only at hi hM'
    have hol := flat_len hP1 (ts.take i) (List.nodup_iff_pairwise_ne.2 ((hTp.sublist (List.take_sublist _ _)).imp fun h => by omega)) (fun t ht => ((hTm t).1 (List.mem_of_mem_take ht)).1)
    have hol2 := List.length_filter_le (fun a : Arv => decide (a.at_ ∈ ts.take i)) P
    have hdst : ∀ (h : i < ts.length), ts.getD i default ∉ ts.take i ∧ ts.take (i + 1) = ts.take i ++ [ts.getD i default] := fun h => by
      have h2 := take_snocG ts h
      have h3 := hTp.sublist (List.take_sublist (i + 1) ts)
      rw [h2, List.pairwise_append] at h3
      exact ⟨fun hm => absurd (h3.2.2 _ hm _ (List.mem_singleton_self _)) (Int.lt_irrefl _), h2⟩
    have e1 : 0 + ((i : Nat) : Int).toNat = i := by omega
    repeat' (first | (fail_if_success (with_reducible refine xstp ?_)); first | ((with_reducible refine And.intro (fun (hb : _ = true) => ?_) (fun (hb : _ = false) => ?_)) <;> replace hb := xnC hb <;> (try first | exact xfC | exact bff hb (by assumption) | exact bff (by assumption) hb)) | (with_reducible refine Both.mk ?_ ?_) | ((with_reducible refine And.intro ?_ ?_); focus exact xoC) | ((with_reducible refine Or.inl ⟨?_, ?_, ?_⟩); (focus rfl); focus exact xaC) | ((with_reducible refine xwB ?_ ?_); focus exact xaC) | ((with_reducible refine xwC ?_ ?_); focus exact xaC) | ((with_reducible refine xwD ?_ ?_); focus exact xaC) | ((with_reducible refine xwE ?_ ?_); focus exact xaC) | (with_reducible intro hc; (try simp only [capsP, and_true] at hc); (try exact xfC)) | ((fail_if_success (with_reducible first | refine xgon ?_ | intro _)); (conv => whnf); (fail_if_success (fail_if_success (with_reducible first | refine xstp ?_ | refine Both.mk ?_ ?_ | refine xgon ?_ | intro _)))))
    · rename_i k hk
      have hlt : i < ts.length := by omega
      obtain ⟨hni, hts⟩ := hdst hlt
      have hkx : ((M'.getD k default).2 : Int) = ts.getD i default := by have := Key.i.inj hc; rw [e1] at this; exact this
      have hD1 : dropD N.D (ts.take i) (M'.getD k default).2 = N.D (ts.getD i default).toNat := by
        unfold dropD
        rw [if_neg (by rw [hkx]; exact hni), ← hkx, Int.toNat_natCast]
      have hol3 := flat_len hP1 (ts.take (i + 1)) (List.nodup_iff_pairwise_ne.2 ((hTp.sublist (List.take_sublist _ _)).imp fun h => by omega)) (fun t ht => ((hTm t).1 (List.mem_of_mem_take ht)).1)
      have hol4 := List.length_filter_le (fun a : Arv => decide (a.at_ ∈ ts.take (i + 1))) P
      have hfl : (ts.take (i + 1)).flatMap (fun t => N.D t.toNat) = (ts.take i).flatMap (fun t => N.D t.toNat) ++ dropD N.D (ts.take i) (M'.getD k default).2 := by
        rw [hts, List.flatMap_append, hD1]
        simp
      rw [hfl, List.length_append] at hol3
      refine ManyK.mk ⟨arvP (dropD N.D (ts.take i) (M'.getD k default).2) (cs (M'.getD k default).2), lsG_ne (hM'.ne k hk), ?_⟩
      repeat' (first | (fail_if_success (with_reducible refine xstp ?_)); first | ((with_reducible refine And.intro (fun (hb : _ = true) => ?_) (fun (hb : _ = false) => ?_)) <;> replace hb := xnC hb <;> (try first | exact xfC | exact bff hb (by assumption) | exact bff (by assumption) hb)) | (with_reducible refine Both.mk ?_ ?_) | ((with_reducible refine And.intro ?_ ?_); focus exact xoC) | ((with_reducible refine Or.inl ⟨?_, ?_, ?_⟩); (focus rfl); focus exact xaC) | ((with_reducible refine xwB ?_ ?_); focus exact xaC) | ((with_reducible refine xwC ?_ ?_); focus exact xaC) | ((with_reducible refine xwD ?_ ?_); focus exact xaC) | ((with_reducible refine xwE ?_ ?_); focus exact xaC) | (with_reducible intro hc; (try simp only [capsP, and_true] at hc); (try exact xfC)) | ((fail_if_success (with_reducible first | refine xgon ?_ | intro _)); (conv => whnf); (fail_if_success (fail_if_success (with_reducible first | refine xstp ?_ | refine Both.mk ?_ ?_ | refine xgon ?_ | intro _)))))
      · rename_i hcap c3 hc3 k2 hk2
        obtain rfl : k2 = k := hM'.inj hk2 hk (by have := Key.i.inj hc; rw [e1] at this; omega)
        have hDx : dropD N.D (ts.take (i + 1)) (M'.getD k2 default).2 = [] := by
          unfold dropD
          rw [if_pos (by rw [hkx, hts]; simp)]
        have hDy : ∀ y, y ≠ (M'.getD k2 default).2 → dropD N.D (ts.take (i + 1)) y = dropD N.D (ts.take i) y := fun y hy => by
          have hyt : (y : Int) ≠ ts.getD i default := fun e => hy (by omega)
          unfold dropD
          rw [hts]
          by_cases h : (y : Int) ∈ ts.take i
          · rw [if_pos h, if_pos (List.mem_append_left _ h)]
          · rw [if_neg h, if_neg (by rw [List.mem_append, List.mem_singleton]; exact fun h2 => h2.elim h hyt)]
        have hM2 := hM'.erase hk hDx hDy
        have hel : (M'.eraseIdx k2).length = M'.length - 1 := List.length_eraseIdx_of_lt hk
        refine ⟨⟨(i + 1, M'.eraseIdx k2, c3), by simp only; omega, hM2⟩, [0, 1, 2, 3, 4, 6], by simp only; omega, ?_⟩
        simp only [hfl]
        (repeat' first | refine And.intro ?_ ?_ | exact xeC | fail)
        all_goals first
          | exact fun x => lsG_bel
          | exact fun x => lsG_belR
          | exact hel.symm
          | exact hel
          | (intro x
             show Ck.leK _ _ (Ck.rk _ _ (lsG (dropD N.D (ts.take (i + 1)) x) (cs x))) True
             by_cases hx : x = (M'.getD k2 default).2
             · rw [hx, hDx]
               exact trivial
             · rw [hDy x hx]
               exact lsG_le)
          | (intro j hj
             have hg := getD_erase M' k2 j default
             by_cases hjk : j < k2
             · rw [if_pos hjk] at hg
               have hq : (M'.getD j default).2 ≠ (M'.getD k2 default).2 := fun e => by have := hM'.inj (by omega) hk e; omega
               simp only [if_pos hjk, hg, hDy _ hq]
               rfl
             · rw [if_neg hjk] at hg
               have hq : (M'.getD (j + 1) default).2 ≠ (M'.getD k2 default).2 := fun e => by have := hM'.inj (by omega) hk e; omega
               simp only [if_neg hjk, hg, hDy _ hq]
               rfl)
          | omega
          | exact Nat.le_of_eq (by simp)
          | (simp; done)
          | (intro j hj; exact app_rowL encA _ _ _ _ (fun q hq => by rw [Nat.zero_add]; rfl) j hj)
          | (intro j hj; exact app_rowL encA _ _ _ _ (fun q hq => rfl) j hj)
          | skip
      · exact absurd (by assumption) (hc k hk)
    · rename_i hno k hk
      exact absurd hc (hno k hk)
    · rename_i hno
      exfalso
      have hlt : i < ts.length := by omega
      obtain ⟨hni, hts⟩ := hdst hlt
      obtain ⟨g1, g2, g3⟩ := (hTm (ts.getD i default)).1 (by rw [getD_at hlt]; exact List.getElem_mem _)
      obtain ⟨k, hk, e⟩ := hM'.all (ts.getD i default).toNat (by
        unfold dropD
        rw [if_neg (by rw [Int.toNat_of_nonneg g1]; exact hni)]
        exact g2)
      exact hc k hk (by rw [e1, e, Int.toNat_of_nonneg g1])
    · obtain rfl : i = ts.length := by omega
      rw [List.take_length] at *
      refine FinK.mk ⟨[0, 1, 2, 3, 5], _, _, ⟨ts, M', c2, rfl, rfl, hM', hTp, hTm⟩, ?_⟩
      (repeat' first | refine And.intro ?_ ?_ | exact xeC | fail)
      all_goals first | exact fun x => lsG_le | exact fun x => lsG_bel | exact fun x => lsG_belR | skip
end Go.Proofs.Ytnjakmpddghhjaa

namespace Go.Proofs.Ytnjakmpddghhjaa
open Go.X
set_option linter.unusedSimpArgs false
set_option linter.unusedVariables false
def kp (u : Int) (a : Arv) : Bool := decide (a.fr ≠ u ∧ a.to ≠ u)
def kept (N : Pg) (u : Int) (Q : List Nat) : Nat → List Arv := fun x => if x ∈ Q.map (fun q => (N.M.getD q default).2) then (N.D x).filter (kp u) else []
def keptI (N : Pg) (u : Int) (Q : List Nat) (x j : Nat) : Nat → List Arv := fun y => if y = x then ((N.D x).take j).filter (kp u) else kept N u Q y
def kcnt (N : Pg) (u : Int) (Q : List Nat) : Nat := ((Q.map fun q => ((N.M.getD q default).2 : Int)).flatMap fun x => (N.D x.toNat).filter (kp u)).length
theorem kept_nil (N : Pg) (u : Int) (x : Nat) : kept N u [] x = [] := if_neg (by simp)
theorem keptI_zero {N : Pg} {u : Int} {Q : List Nat} {x : Nat} (h : kept N u Q x = []) : keptI N u Q x 0 = kept N u Q := by
  funext y
  unfold keptI
  split
  · rename_i e; subst e; rw [h]; simp
  · rfl
theorem kept_fresh {N : Pg} (hO : PgOk N.M N.D N.ck) {u : Int} {Q : List Nat} (hQ : Seen N.M Q) {i : Nat} (hi : i < N.M.length) (hiQ : i ∉ Q) : kept N u Q (N.M.getD i default).2 = [] := by
  unfold kept
  rw [if_neg]
  intro h
  obtain ⟨q, hq, e⟩ := List.mem_map.1 h
  exact hiQ (hO.inj (hQ.lt q hq) hi e ▸ hq)
theorem keptI_end {N : Pg} {u : Int} {Q : List Nat} {i : Nat} : keptI N u Q (N.M.getD i default).2 (N.D (N.M.getD i default).2).length = kept N u (Q ++ [i]) := by
  funext y
  unfold keptI kept
  rw [List.map_append]
  by_cases hy : y = (N.M.getD i default).2
  · subst hy
    rw [if_pos rfl, if_pos (by simp), List.take_length]
  · rw [if_neg hy]
    by_cases h : y ∈ Q.map fun q => (N.M.getD q default).2
    · rw [if_pos h, if_pos (List.mem_append_left _ h)]
    · rw [if_neg h, if_neg (by rw [List.mem_append]; rintro (h2 | h2); exact h h2; simp at h2; exact hy h2)]
theorem keptI_y {N : Pg} {u : Int} {Q : List Nat} {x j : Nat} (hj : j < (N.D x).length) (hk : kp u ((N.D x).getD j default) = true) (hx : ((N.D x).getD j default).at_.toNat = x) : keptI N u Q x (j + 1) = addD (keptI N u Q x j) ((N.D x).getD j default) := by
  funext y
  unfold addD
  rw [hx]
  unfold keptI
  split
  · rw [take_snocG _ hj, filt_y hk]
  · rfl
theorem keptI_n {N : Pg} {u : Int} {Q : List Nat} {x j : Nat} (hj : j < (N.D x).length) (hk : kp u ((N.D x).getD j default) = false) : keptI N u Q x (j + 1) = keptI N u Q x j := by
  funext y
  unfold keptI
  split
  · rw [take_snocG _ hj, filt_n hk]
  · rfl
theorem kcnt_snoc {N : Pg} {u : Int} {Q : List Nat} {i : Nat} : kcnt N u (Q ++ [i]) = kcnt N u Q + ((N.D (N.M.getD i default).2).filter (kp u)).length := by
  unfold kcnt
  rw [List.map_append, List.flatMap_append, List.length_append]
  simp
theorem rH14aG0 {σ : List Sg} {H h' : List Fam} {v : T} {K : T → List Fam → Prop} {H' : List Fam} {v' : T} {N : Nat} (hk : K v' H') (hN : H.length = N := by (try simp only [↓List.length_cons, ↓List.length_nil, Nat.reduceAdd]) <;> rfl) (h : givesF σ N H σ h' = some H' := by (try simp (maxSteps := 1000000) only [givesF, setF, updF, Fam.zeroth, Fam.rk, Ck.rk, C.rk, E.rk, T.rk, key, List.map_cons, List.map_nil, List.cons_append, List.nil_append, List.length_cons, List.length_nil, Option.map_some, Option.bind_some, Nat.reduceAdd, Nat.zero_add, Nat.add_zero, Nat.add_sub_cancel_left, Int.toNat_natCast, reps, List.all_cons, List.all_nil, C.flat, List.append_eq, Bool.not_true, Bool.and_true, Bool.or_false, Bool.or_self, Bool.not_false, List.append_nil, Bool.and_self, ↓lsG_rk]) <;> rfl) (hv : v.rk σ N = v' := by (try simp only [givesF, setF, updF, Fam.zeroth, Fam.rk, Ck.rk, C.rk, E.rk, T.rk, key, List.map_cons, List.map_nil, List.cons_append, List.nil_append, List.length_cons, List.length_nil, Option.map_some, Option.bind_some, Nat.reduceAdd, Nat.zero_add, Nat.add_zero, Nat.add_sub_cancel_left, Int.toNat_natCast, reps, List.all_cons, List.all_nil, C.flat, List.append_eq, Bool.not_true, Bool.and_true, Bool.or_false, Bool.or_self, Bool.not_false, List.append_nil, Bool.and_self, ↓lsG_rk]) <;> rfl) : RetG σ H h' v K := ret_mk3 hN h hv hk
theorem cH14aG1 {P : Program} {F : Nat} {args : List T} {H : List Fam} {K : T → List Fam → Prop} {σ : List Sg} {nl : List Fam} {args0 : List T} {h0 : List Fam} {Q : T → List Fam → Prop} {H2 H1 : List Fam} {N n : Nat} (hc : Ctr P F args0 h0 Q) (hk : ∀ v h', Q v h' → capsP h' → RetG σ H2 h' v K) (hap : apart σ = true := by rfl) (hnl : nl.all nilB = true := by rfl) (h1 : H ++ nl = H1 := by first | exact List.append_nil _ | ((try simp only [List.cons_append, List.nil_append]) <;> rfl)) (hN : H1.length = N := by (try simp only [↓List.length_cons, ↓List.length_nil, Nat.reduceAdd]) <;> rfl) (hn : H.length = n := by (try simp only [↓List.length_cons, ↓List.length_nil, Nat.reduceAdd]) <;> rfl) (hH : givesF σ N H1 σ h0 = some H2 := by (try simp (maxSteps := 1000000) only [givesF, setF, updF, Fam.zeroth, Fam.rk, Ck.rk, C.rk, E.rk, T.rk, key, List.map_cons, List.map_nil, List.cons_append, List.nil_append, List.length_cons, List.length_nil, Option.map_some, Option.bind_some, Nat.reduceAdd, Nat.zero_add, Nat.add_zero, Nat.add_sub_cancel_left, Int.toNat_natCast, reps, List.all_cons, List.all_nil, C.flat, List.append_eq, Bool.not_true, Bool.and_true, Bool.or_false, Bool.or_self, Bool.not_false, List.append_nil, Bool.and_self, ↓lsG_rk]) <;> rfl) (hle : leS n H1 σ N σ h0 (belsK N (h0.map (Fam.rk σ N)) (argsK n args (args0.map (T.rk σ N)) True)) := by repeat' first | refine And.intro ?_ ?_ | exact xeC | fail) : CallK P F args H K := CallK.mk3 hc hap hnl h1 hN hn hH hle hk
set_option maxRecDepth 10000 in
set_option maxHeartbeats 4000000 in
theorem cClear (N : Pg) (c : Nat) (cs : Nat → Nat) (u : Int) (hN : PgI N) (hcn : N.cnt ≤ 100000) (hu : 0 ≤ u ∧ u < N.m) :
    Ctr Try.prog 27 [.c (.p 0 0 0), .c (.i .i64 u)] [.one (pgC N c), .one .no, .one (mapN 3 N.M N.D cs N.ck), arrs N.D cs]
      fun v h => ∃ (M' : List (Nat × Nat)) (ck' : Nat) (cs' : Nat → Nat) (Q : List Nat), v = .t [] ∧
        h = [.one (pgC' { N with cnt := kcnt N u Q } c 4), .one .no, .one .no, .one .no, .one (mapN 5 M' (kept N u Q) cs' ck'), arrs (kept N u Q) cs'] ∧
        PgOk M' (kept N u Q) ck' ∧ Seen N.M Q ∧ ∀ i, i < N.M.length → i ∈ Q := by
  refine Ctr.mk' tbv mixed Try.func27 rfl rfl rfl (fun _ _ => by kernel_rfl) (by kernel_rfl) (by rfl) (by rfl) (by (repeat' first | refine And.intro ?_ ?_ | exact xeC | fail) <;> exact fun x => lsG_bel) ?_
  repeat' (first | (fail_if_success (with_reducible refine xstp ?_)); first | ((with_reducible refine And.intro (fun (hb : _ = true) => ?_) (fun (hb : _ = false) => ?_)) <;> replace hb := xnC hb <;> (try first | exact xfC | exact bff hb (by assumption) | exact bff (by assumption) hb)) | (with_reducible refine Both.mk ?_ ?_) | ((with_reducible refine And.intro ?_ ?_); focus exact xoC) | ((with_reducible refine Or.inl ⟨?_, ?_, ?_⟩); (focus rfl); focus exact xaC) | ((with_reducible refine xwB ?_ ?_); focus exact xaC) | ((with_reducible refine xwC ?_ ?_); focus exact xaC) | ((with_reducible refine xwD ?_ ?_); focus exact xaC) | ((with_reducible refine xwE ?_ ?_); focus exact xaC) | (with_reducible intro hc; (try simp only [capsP, and_true] at hc); (try exact xfC)) | ((fail_if_success (with_reducible first | refine xgon ?_ | intro _)); (conv => whnf); (fail_if_success (fail_if_success (with_reducible first | refine xstp ?_ | refine Both.mk ?_ ?_ | refine xgon ?_ | intro _)))))
  refine cH14aG1 (σ := []) (nl := []) (cvalid N.m u) ?_
  rintro v h' ⟨rfl, rfl⟩ hcaps
  refine rH14aG0 ?_
  repeat' (first | (fail_if_success (with_reducible refine xstp ?_)); first | ((with_reducible refine And.intro (fun (hb : _ = true) => ?_) (fun (hb : _ = false) => ?_)) <;> replace hb := xnC hb <;> (try first | exact xfC | exact bff hb (by assumption) | exact bff (by assumption) hb)) | (with_reducible refine Both.mk ?_ ?_) | ((with_reducible refine And.intro ?_ ?_); focus exact xoC) | ((with_reducible refine Or.inl ⟨?_, ?_, ?_⟩); (focus rfl); focus exact xaC) | ((with_reducible refine xwB ?_ ?_); focus exact xaC) | ((with_reducible refine xwC ?_ ?_); focus exact xaC) | ((with_reducible refine xwD ?_ ?_); focus exact xaC) | ((with_reducible refine xwE ?_ ?_); focus exact xaC) | (with_reducible intro hc; (try simp only [capsP, and_true] at hc); (try exact xfC)) | ((fail_if_success (with_reducible first | refine xgon ?_ | intro _)); (conv => whnf); (fail_if_success (fail_if_success (with_reducible first | refine xstp ?_ | refine Both.mk ?_ ?_ | refine xgon ?_ | intro _)))))
  obtain ⟨P, hP1, hP2, hP3⟩ := hN.tot
  have hO := hN.ok
  have hD0 : ∀ x, N.D x ≠ [] → (N.D x).length ≤ 100000 ∧ ∀ j, j < (N.D x).length → ((N.D x).getD j default).at_ = (x : Int) := fun x _ => by
    have h1 := hN.len x
    refine ⟨by omega, fun j hj => ?_⟩
    have h2 : (N.D x).getD j default ∈ N.D x := by rw [getD_at hj]; exact List.getElem_mem _
    have h3 := hP1 x
    generalize (N.D x).getD j default = a at h2
    rw [h3] at h2
    simpa using (List.mem_filter.1 h2).2
  have hkc : ∀ Q, Seen N.M Q → (kcnt N u Q : Int) ≤ 100000 := fun Q hQ => by
    have hnd : (Q.map fun q => ((N.M.getD q default).2 : Int)).Nodup := by
      rw [List.nodup_iff_pairwise_ne, List.pairwise_map]
      refine (List.nodup_iff_pairwise_ne.1 hQ.nd).imp_of_mem ?_
      intro a b ha hb hab e
      exact hab (hO.inj (hQ.lt a ha) (hQ.lt b hb) (by omega))
    have h1 := flat_len hP1 (Q.map fun q => ((N.M.getD q default).2 : Int)) hnd (fun t ht => by obtain ⟨e, _, rfl⟩ := List.mem_map.1 ht; omega)
    have h2 := List.length_filter_le (fun a : Arv => decide (a.at_ ∈ Q.map fun q => ((N.M.getD q default).2 : Int))) P
    have h3 : ∀ L : List Int, (L.flatMap fun x => (N.D x.toNat).filter (kp u)).length ≤ (L.flatMap fun x => N.D x.toNat).length := by
      intro L
      induction L with
      | nil => exact Nat.le_refl _
      | cons x L ih =>
        rw [List.flatMap_cons, List.flatMap_cons, List.length_append, List.length_append]
        have := List.length_filter_le (kp u) (N.D x.toNat)
        omega
    have h4 := h3 (Q.map fun q => ((N.M.getD q default).2 : Int))
    unfold kcnt
    omega
  refine LoopK.mk' {p : List Nat × List (Nat × Nat) × Nat × (Nat → Nat) // Seen N.M p.1 ∧ PgOk p.2.1 (kept N u p.1) p.2.2.1}
    (fun ⟨(Q, Mn, ckn, csn), _⟩ => ⟨[(0, .c (.p 0 0 0)), (1, .c (.i .i64 u)), (4, .c (.mp 4 0)), (5, .c (.i .i64 (kcnt N u Q : Nat))), (26, .c (.p 5 0 0))],
      [.one (pgC N c), .one .no, .one (mapN 3 N.M N.D cs N.ck), arrs N.D cs, .one (mapN 6 Mn (kept N u Q) csn ckn), .one (.iter 2 0 N.ck (Q.map fun q => (N.M.getD q default).1)), arrs (kept N u Q) csn]⟩) (fun p => N.M.length - p.1.1.length)
    ⟨⟨([], [], 0, fun _ => 0), ⟨List.nodup_nil, fun q hq => by cases hq⟩, ⟨fun i j _ hj => absurd hj (Nat.not_lt_zero j), fun i j _ hj => absurd hj (Nat.not_lt_zero j), fun i hi => absurd hi (Nat.not_lt_zero i), fun i hi => absurd hi (Nat.not_lt_zero i), fun x hx => absurd (kept_nil N u x) hx⟩⟩, [0, 1, 2, 3, 4, 5, 99], ?_⟩ ?_
  · (repeat' first | refine And.intro ?_ ?_ | exact xeC | fail)
    all_goals first | exact fun x => lsG_le | exact fun x => lsG_bel | exact fun x => lsG_belR | (intro i hi; exact absurd hi (Nat.not_lt_zero i)) | (intro x; simp only [kept_nil]; rfl)
  rintro ⟨⟨Q, Mn, ckn, csn⟩, hQ, hMn⟩
  simp only at hQ hMn
  have hQl := hQ.le
  have hkq := hkc Q hQ
  repeat' (first | (fail_if_success (with_reducible refine xstp ?_)); first | ((with_reducible refine And.intro (fun (hb : _ = true) => ?_) (fun (hb : _ = false) => ?_)) <;> replace hb := xnC hb <;> (try first | exact xfC | exact bff hb (by assumption) | exact bff (by assumption) hb)) | (with_reducible refine Both.mk ?_ ?_) | ((with_reducible refine And.intro ?_ ?_); focus exact xoC) | ((with_reducible refine Or.inl ⟨?_, ?_, ?_⟩); (focus rfl); focus exact xaC) | ((with_reducible refine xwB ?_ ?_); focus exact xaC) | ((with_reducible refine xwC ?_ ?_); focus exact xaC) | ((with_reducible refine xwD ?_ ?_); focus exact xaC) | ((with_reducible refine xwE ?_ ?_); focus exact xaC) | (with_reducible intro hc; (try simp only [capsP, and_true] at hc); (try exact xfC)) | ((fail_if_success (with_reducible first | refine xgon ?_ | intro _)); (conv => whnf); (fail_if_success (fail_if_success (with_reducible first | refine xstp ?_ | refine Both.mk ?_ ?_ | refine xgon ?_ | intro _)))))
  · rename_i i hi
    have hQ' := hQ.snoc hi hc
    have hQl' := hQ'.le
    have hkq' := hkc _ hQ'
    rw [kcnt_snoc] at hkq'
    rw [List.length_append, List.length_singleton] at hQl'
    refine ⟨i, hi, List.getLast?_concat, ?_⟩
    repeat' (first | (fail_if_success (with_reducible refine xstp ?_)); first | ((with_reducible refine And.intro (fun (hb : _ = true) => ?_) (fun (hb : _ = false) => ?_)) <;> replace hb := xnC hb <;> (try first | exact xfC | exact bff hb (by assumption) | exact bff (by assumption) hb)) | (with_reducible refine Both.mk ?_ ?_) | ((with_reducible refine And.intro ?_ ?_); focus exact xoC) | ((with_reducible refine Or.inl ⟨?_, ?_, ?_⟩); (focus rfl); focus exact xaC) | ((with_reducible refine xwB ?_ ?_); focus exact xaC) | ((with_reducible refine xwC ?_ ?_); focus exact xaC) | ((with_reducible refine xwD ?_ ?_); focus exact xaC) | ((with_reducible refine xwE ?_ ?_); focus exact xaC) | (with_reducible intro hc; (try simp only [capsP, and_true] at hc); (try exact xfC)) | ((fail_if_success (with_reducible first | refine xgon ?_ | intro _)); (conv => whnf); (fail_if_success (fail_if_success (with_reducible first | refine xstp ?_ | refine Both.mk ?_ ?_ | refine xgon ?_ | intro _)))))
    have hiQ : i ∉ Q := fun h => hc (List.mem_map.2 ⟨i, h, rfl⟩)
    obtain ⟨x, hx⟩ : ∃ x, x = (N.M.getD i default).2 := ⟨_, rfl⟩
    have hfr := kept_fresh hO (u := u) hQ hi hiQ
    rw [← hx] at hfr
    have hne := hO.ne i hi
    rw [← hx] at hne
    obtain ⟨hxl, hxa⟩ := hD0 x hne
    refine LoopK.mk' {p : Nat × List (Nat × Nat) × Nat × (Nat → Nat) // p.1 ≤ (N.D x).length ∧ PgOk p.2.1 (keptI N u Q x p.1) p.2.2.1}
      (fun ⟨(j, Mn, ckn, csn), _⟩ => ⟨[(0, .c (.p 0 0 0)), (1, .c (.i .i64 u)), (4, .c (.mp 4 0)), (5, .c (.i .i64 ((kcnt N u Q + (((N.D x).take j).filter (kp u)).length : Nat)))), (6, .c (.i .i64 (x : Nat))), (26, .c (.p 5 0 0)), (32, .c (.sl 3 x 5 0 (N.D x).length (cs x))), (33, .c (.i .i64 (N.D x).length)), (34, .c (.i .i64 (j : Nat)))],
        [.one (pgC N c), .one .no, .one (mapN 3 N.M N.D cs N.ck), arrs N.D cs, .one (mapN 6 Mn (keptI N u Q x j) csn ckn), .one (.iter 2 0 N.ck ((Q ++ [i]).map fun q => (N.M.getD q default).1)), arrs (keptI N u Q x j) csn]⟩) (fun p => (N.D x).length - p.1.1)
      ⟨⟨(0, Mn, ckn, csn), Nat.zero_le _, by rw [keptI_zero hfr]; exact hMn⟩, [0, 1, 2, 3, 4, 5, 6], ?_⟩ ?_
    · have hk0 := keptI_zero (N := N) (u := u) (Q := Q) (x := x) hfr
      (repeat' first | refine And.intro ?_ ?_ | exact xeC | fail)
      all_goals first
        | exact fun x => lsG_bel
        | exact fun x => lsG_belR
        | (intro y
           show Ck.leK _ _ (Ck.rk _ _ (lsG (keptI N u Q x 0 y) (csn y))) True
           rw [hk0]
           exact lsG_le)
        | exact fun x => lsG_le
        | (simp; done)
        | (rw [hx]; done)
        | (rw [List.map_append]; rfl)
        | (intro j hj; simp only [hk0]; rfl)
        | skip
    rintro ⟨⟨j, Mn, ckn, csn⟩, hj, hMn⟩
    simp only at hj hMn
    have hfl := List.length_filter_le (kp u) ((N.D x).take j)
    repeat' (first | (fail_if_success (with_reducible refine xstp ?_)); first | ((with_reducible refine And.intro (fun (hb : _ = true) => ?_) (fun (hb : _ = false) => ?_)) <;> replace hb := xnC hb <;> (try first | exact xfC | exact bff hb (by assumption) | exact bff (by assumption) hb)) | (with_reducible refine Both.mk ?_ ?_) | ((with_reducible refine And.intro ?_ ?_); focus exact xoC) | ((with_reducible refine Or.inl ⟨?_, ?_, ?_⟩); (focus rfl); focus exact xaC) | ((with_reducible refine xwB ?_ ?_); focus exact xaC) | ((with_reducible refine xwC ?_ ?_); focus exact xaC) | ((with_reducible refine xwD ?_ ?_); focus exact xaC) | ((with_reducible refine xwE ?_ ?_); focus exact xaC) | (with_reducible intro hc; (try simp only [capsP, and_true] at hc); (try exact xfC)) | ((fail_if_success (with_reducible first | refine xgon ?_ | intro _)); (conv => whnf); (fail_if_success (fail_if_success (with_reducible first | refine xstp ?_ | refine Both.mk ?_ ?_ | refine xgon ?_ | intro _)))))
    · have hlt : j < (N.D x).length := by omega
      have e1 : 0 + ((j : Nat) : Int).toNat = j := by omega
      have hat := hxa j hlt
      refine ManyK.mk ⟨arvP (N.D x) (cs x), lsG_ne hne, ?_⟩
      repeat' (first | (fail_if_success (with_reducible refine xstp ?_)); first | ((with_reducible refine And.intro (fun (hb : _ = true) => ?_) (fun (hb : _ = false) => ?_)) <;> replace hb := xnC hb <;> (try first | exact xfC | exact bff hb (by assumption) | exact bff (by assumption) hb)) | (with_reducible refine Both.mk ?_ ?_) | ((with_reducible refine And.intro ?_ ?_); focus exact xoC) | ((with_reducible refine Or.inl ⟨?_, ?_, ?_⟩); (focus rfl); focus exact xaC) | ((with_reducible refine xwB ?_ ?_); focus exact xaC) | ((with_reducible refine xwC ?_ ?_); focus exact xaC) | ((with_reducible refine xwD ?_ ?_); focus exact xaC) | ((with_reducible refine xwE ?_ ?_); focus exact xaC) | (with_reducible intro hc; (try simp only [capsP, and_true] at hc); (try exact xfC)) | ((fail_if_success (with_reducible first | refine xgon ?_ | intro _)); (conv => whnf); (fail_if_success (fail_if_success (with_reducible first | refine xstp ?_ | refine Both.mk ?_ ?_ | refine xgon ?_ | intro _)))))
      refine ManyK.mk ⟨arvP (N.D x) (cs x), lsG_ne hne, ?_⟩
      have htj : ((N.D x).take j).length = j := by rw [List.length_take]; omega
      have hkj : ((kcnt N u Q + (((N.D x).take j).filter (kp u)).length : Nat) : Int) ≤ 200000 := by omega
      have hax : ((N.D x).getD j default).at_.toNat = x := by omega
      have hw : (x : Int) = (((N.D x).getD j default).at_.toNat : Int) := by rw [hax]
      repeat' (first | (fail_if_success (with_reducible refine xstp ?_)); first | ((with_reducible refine And.intro (fun (hb : _ = true) => ?_) (fun (hb : _ = false) => ?_)) <;> replace hb := xnC hb <;> (try first | exact xfC | exact bff hb (by assumption) | exact bff (by assumption) hb)) | (with_reducible refine Both.mk ?_ ?_) | ((with_reducible refine And.intro ?_ ?_); focus exact xoC) | ((with_reducible refine Or.inl ⟨?_, ?_, ?_⟩); (focus rfl); focus exact xaC) | ((with_reducible refine xwB ?_ ?_); focus exact xaC) | ((with_reducible refine xwC ?_ ?_); focus exact xaC) | ((with_reducible refine xwD ?_ ?_); focus exact xaC) | ((with_reducible refine xwE ?_ ?_); focus exact xaC) | (with_reducible intro hc; (try simp only [capsP, and_true] at hc); (try exact xfC)) | ((fail_if_success (with_reducible first | refine xgon ?_ | intro _)); (conv => whnf); (fail_if_success (fail_if_success (with_reducible first | refine xstp ?_ | refine Both.mk ?_ ?_ | refine xgon ?_ | intro _)))))
      · have hkp : kp u ((N.D x).getD j default) = true := decide_eq_true ⟨by assumption, by assumption⟩
        rename_i k hk
        have hkx : (Mn.getD k default).2 = x := by have := Key.i.inj hc; omega
        have hne2 := hMn.ne k hk
        have hl2 : (keptI N u Q x j (Mn.getD k default).2).length ≤ 100000 := by
          rw [hkx]
          unfold keptI
          rw [if_pos rfl]
          omega
        refine ManyK.mk ⟨arvP (keptI N u Q x j (Mn.getD k default).2) (csn (Mn.getD k default).2), lsG_ne hne2, ?_⟩
        repeat' (first | (fail_if_success (with_reducible refine xstp ?_)); first | ((with_reducible refine And.intro (fun (hb : _ = true) => ?_) (fun (hb : _ = false) => ?_)) <;> replace hb := xnC hb <;> (try first | exact xfC | exact bff hb (by assumption) | exact bff (by assumption) hb)) | (with_reducible refine Both.mk ?_ ?_) | ((with_reducible refine And.intro ?_ ?_); focus exact xoC) | ((with_reducible refine Or.inl ⟨?_, ?_, ?_⟩); (focus rfl); focus exact xaC) | ((with_reducible refine xwB ?_ ?_); focus exact xaC) | ((with_reducible refine xwC ?_ ?_); focus exact xaC) | ((with_reducible refine xwD ?_ ?_); focus exact xaC) | ((with_reducible refine xwE ?_ ?_); focus exact xaC) | (with_reducible intro hc; (try simp only [capsP, and_true] at hc); (try exact xfC)) | ((fail_if_success (with_reducible first | refine xgon ?_ | intro _)); (conv => whnf); (fail_if_success (fail_if_success (with_reducible first | refine xstp ?_ | refine Both.mk ?_ ?_ | refine xgon ?_ | intro _)))))
        · rename_i hcap c2 hc2 k2 hk2
          obtain rfl : k2 = k := hMn.inj hk2 hk (by have := Key.i.inj hc; omega)
          have hE := keptI_y (Q := Q) hlt hkp hax
          have hfl1 : (((N.D x).take (j + 1)).filter (kp u)).length = (((N.D x).take j).filter (kp u)).length + 1 := by rw [take_snocG (N.D x) hlt, filt_y hkp, List.length_append, List.length_singleton]
          have hkx2 : (Mn.getD k2 default).2 = ((N.D x).getD j default).at_.toNat := by omega
          have hok := add_ok hMn (a := (N.D x).getD j default)
          have haM : addM Mn (keptI N u Q x j) ckn ((N.D x).getD j default) = (Mn, ckn) := if_neg (by rw [← hkx2]; exact hne2)
          rw [haM, ← hE] at hok
          have hts := take_snocG (N.D x) hlt
          refine ⟨⟨(j + 1, Mn, ckn, fun y => if y = ((N.D x).getD j default).at_.toNat then c2 else csn y), by simp only; omega, hok⟩, [0, 1, 2, 3, 4, 5, .adopt 6 ((N.D x).getD j default).at_.toNat 9], by simp only; omega, ?_⟩
          simp only [hE]
          (repeat' first | refine And.intro ?_ ?_ | exact xeC | fail)
          all_goals first
            | exact fun x => lsG_le
            | exact fun x => lsG_bel
            | exact fun x => lsG_belR
            | exact add_map (by simp [key]) hMn hk hkx2 hw
            | (rw [hfl1]; omega)
            | (intro y hy
               show Ck.leK _ (if y = (Mn.getD k2 default).2 then Ck.no else lsG (keptI N u Q x j y) (csn y)) (Ck.rk _ _ (lsG (addD (keptI N u Q x j) ((N.D x).getD j default) y) (if y = ((N.D x).getD j default).at_.toNat then c2 else csn y))) True
               rw [if_neg (by rw [hkx2]; exact hy), if_neg hy, addD_ne hy]
               exact lsG_le)
            | (refine leK_cong (q'' := arvP (keptI N u Q x j (Mn.getD k2 default).2 ++ [(N.D x).getD j default]) c2) (by
                 show Ck.rk _ _ (lsG (addD (keptI N u Q x j) ((N.D x).getD j default) ((N.D x).getD j default).at_.toNat) (if ((N.D x).getD j default).at_.toNat = ((N.D x).getD j default).at_.toNat then c2 else csn ((N.D x).getD j default).at_.toNat)) = _
                 rw [if_pos rfl, lsG_rk, addD_at rfl, ← hkx2, lsG_ne (by simp)]) ?_
               (repeat' first | refine And.intro ?_ ?_ | exact xeC | fail)
               all_goals first
                 | exact fun x => lsG_bel
                 | omega
                 | exact Nat.le_of_eq (by simp)
                 | (simp; done)
                 | (intro q hq; rw [e1]; exact app_rowG encA _ _ _ rfl q hq)
                 | skip)
            | skip
        · exact absurd (by assumption) (hc k hk)
      · exfalso
        rename_i hno _ _ k hk
        exact hno k hk hc
      · have hkp : kp u ((N.D x).getD j default) = true := decide_eq_true ⟨by assumption, by assumption⟩
        rename_i hno0 c2 hc2
        have hno : ∀ i, i < Mn.length → (Mn.getD i default).2 ≠ ((N.D x).getD j default).at_.toNat := fun i hi e => hc i hi (by rw [e, hw])
        have he : keptI N u Q x j ((N.D x).getD j default).at_.toNat = [] := by
          by_cases h : keptI N u Q x j ((N.D x).getD j default).at_.toNat = []
          · exact h
          · obtain ⟨i, hi, e⟩ := hMn.all _ h
            exact absurd e (hno i hi)
        have hE := keptI_y (Q := Q) hlt hkp hax
        have hfl1 : (((N.D x).take (j + 1)).filter (kp u)).length = (((N.D x).take j).filter (kp u)).length + 1 := by rw [take_snocG (N.D x) hlt, filt_y hkp, List.length_append, List.length_singleton]
        have hok := add_ok hMn (a := (N.D x).getD j default)
        have haM : addM Mn (keptI N u Q x j) ckn ((N.D x).getD j default) = (Mn ++ [(ckn, ((N.D x).getD j default).at_.toNat)], ckn + 1) := if_pos he
        rw [haM, ← hE] at hok
        have hts := take_snocG (N.D x) hlt
        refine ⟨⟨(j + 1, Mn ++ [(ckn, ((N.D x).getD j default).at_.toNat)], ckn + 1, fun y => if y = ((N.D x).getD j default).at_.toNat then c2 else csn y), by simp only; omega, hok⟩, [0, 1, 2, 3, 4, 5, .adopt 6 ((N.D x).getD j default).at_.toNat 9], by simp only; omega, ?_⟩
        simp only [hE]
        (repeat' first | refine And.intro ?_ ?_ | exact xeC | fail)
        all_goals first
          | exact fun x => lsG_le
          | exact fun x => lsG_bel
          | exact fun x => lsG_belR
          | (simp; done)
          | exact add_map2 (by simp [key]) hno he hw
          | (rw [hfl1]; omega)
          | (intro y hy
             show Ck.leK _ (lsG (keptI N u Q x j y) (csn y)) (Ck.rk _ _ (lsG (addD (keptI N u Q x j) ((N.D x).getD j default) y) (if y = ((N.D x).getD j default).at_.toNat then c2 else csn y))) True
             rw [if_neg hy, addD_ne hy]
             exact lsG_le)
          | (refine leK_cong (q'' := arvP [(N.D x).getD j default] c2) (by
               show Ck.rk _ _ (lsG (addD (keptI N u Q x j) ((N.D x).getD j default) ((N.D x).getD j default).at_.toNat) (if ((N.D x).getD j default).at_.toNat = ((N.D x).getD j default).at_.toNat then c2 else csn ((N.D x).getD j default).at_.toNat)) = _
               rw [if_pos rfl, lsG_rk, addD_at rfl, he]
               rfl) ?_
             (repeat' first | refine And.intro ?_ ?_ | exact xeC | fail)
             all_goals first | exact fun x => lsG_bel | exact fun x => lsG_le | (intro q hq; rw [e1]; obtain rfl : q = 0 := (by simp at hq; omega); rfl) | (rw [hfl1]; omega) | skip)
          | skip
      · have hkp : kp u ((N.D x).getD j default) = false := decide_eq_false (fun h => h.2 hb)
        have hE := keptI_n (Q := Q) hlt hkp
        refine ⟨⟨(j + 1, Mn, ckn, csn), by simp only; omega, by simp only; rw [hE]; exact hMn⟩, [0, 1, 2, 3, 4, 5, 6], by simp only; omega, ?_⟩
        have hts := take_snocG (N.D x) hlt
        (repeat' first | refine And.intro ?_ ?_ | exact xeC | fail)
        all_goals first
          | exact fun x => lsG_bel
          | exact fun x => lsG_belR
          | (intro y
             show Ck.leK _ (lsG (keptI N u Q x j y) (csn y)) (Ck.rk _ _ (lsG (keptI N u Q x (j + 1) y) (csn y))) True
             rw [hE]
             exact lsG_le)
          | exact fun x => lsG_le
          | (rw [hts, filt_n hkp]; done)
          | (intro q hq; simp only [hE]; rfl)
          | skip
      · have hkp : kp u ((N.D x).getD j default) = false := decide_eq_false (fun h => h.1 hb)
        have hE := keptI_n (Q := Q) hlt hkp
        refine ⟨⟨(j + 1, Mn, ckn, csn), by simp only; omega, by simp only; rw [hE]; exact hMn⟩, [0, 1, 2, 3, 4, 5, 6], by simp only; omega, ?_⟩
        have hts := take_snocG (N.D x) hlt
        (repeat' first | refine And.intro ?_ ?_ | exact xeC | fail)
        all_goals first
          | exact fun x => lsG_bel
          | exact fun x => lsG_belR
          | (intro y
             show Ck.leK _ (lsG (keptI N u Q x j y) (csn y)) (Ck.rk _ _ (lsG (keptI N u Q x (j + 1) y) (csn y))) True
             rw [hE]
             exact lsG_le)
          | exact fun x => lsG_le
          | (rw [hts, filt_n hkp]; done)
          | (intro q hq; simp only [hE]; rfl)
          | skip
    · obtain rfl : j = (N.D x).length := by omega
      rw [hx, keptI_end] at hMn
      repeat' (first | (fail_if_success (with_reducible refine xstp ?_)); first | ((with_reducible refine And.intro (fun (hb : _ = true) => ?_) (fun (hb : _ = false) => ?_)) <;> replace hb := xnC hb <;> (try first | exact xfC | exact bff hb (by assumption) | exact bff (by assumption) hb)) | (with_reducible refine Both.mk ?_ ?_) | ((with_reducible refine And.intro ?_ ?_); focus exact xoC) | ((with_reducible refine Or.inl ⟨?_, ?_, ?_⟩); (focus rfl); focus exact xaC) | ((with_reducible refine xwB ?_ ?_); focus exact xaC) | ((with_reducible refine xwC ?_ ?_); focus exact xaC) | ((with_reducible refine xwD ?_ ?_); focus exact xaC) | ((with_reducible refine xwE ?_ ?_); focus exact xaC) | (with_reducible intro hc; (try simp only [capsP, and_true] at hc); (try exact xfC)) | ((fail_if_success (with_reducible first | refine xgon ?_ | intro _)); (conv => whnf); (fail_if_success (fail_if_success (with_reducible first | refine xstp ?_ | refine Both.mk ?_ ?_ | refine xgon ?_ | intro _)))))
      refine ⟨⟨(Q ++ [i], Mn, ckn, csn), hQ', hMn⟩, [0, 1, 2, 3, 4, 5, 6], by simp only [List.length_append, List.length_singleton]; omega, ?_⟩
      have hke := keptI_end (N := N) (u := u) (Q := Q) (i := i)
      rw [← hx] at hke
      have hcs := kcnt_snoc (N := N) (u := u) (Q := Q) (i := i)
      rw [← hx] at hcs
      (repeat' first | refine And.intro ?_ ?_ | exact xeC | fail)
      all_goals first
        | exact fun x => lsG_bel
        | exact fun x => lsG_belR
        | (intro y
           show Ck.leK _ (lsG (keptI N u Q x (N.D x).length y) (csn y)) (Ck.rk _ _ (lsG (kept N u (Q ++ [i]) y) (csn y))) True
           rw [hke]
           exact lsG_le)
        | exact fun x => lsG_le
        | (rw [hcs, List.take_length]; done)
        | (intro j hj; simp only [hke]; rfl)
        | skip
  · have hall := hQ.all hO hc
    refine FinK.mk ⟨[0, 1, 2, 3, 4, 6], _, _, ⟨Mn, ckn, csn, Q, rfl, rfl, hMn, hQ, hall⟩, ?_⟩
    (repeat' first | refine And.intro ?_ ?_ | exact xeC | fail)
    all_goals first | exact fun x => lsG_le | exact fun x => lsG_bel | exact fun x => lsG_belR | skip
end Go.Proofs.Ytnjakmpddghhjaa

namespace Go.Proofs.Ytnjakmpddghhjaa
open Go.X
set_option linter.unusedVariables false
set_option linter.unusedSimpArgs false
theorem posN_ge (P : List Arv) (a : Arv) : ∀ i j, posN P a i ≤ j → j < i → ¬ ltA (P.getD j default) a
  | 0, j, _, h => absurd h (Nat.not_lt_zero j)
  | i + 1, j, h1, h2 => by
    rw [posN] at h1
    split at h1
    · omega
    · rename_i hn
      by_cases hj : j = i
      · rw [hj]; exact hn
      · exact posN_ge P a i j h1 (by omega)
theorem posN_lt (P : List Arv) (a : Arv) : ∀ i, 0 < posN P a i → ltA (P.getD (posN P a i - 1) default) a
  | 0, h => absurd h (Nat.lt_irrefl 0)
  | i + 1, h => by
    rw [posN] at h ⊢
    split
    · rename_i hy; exact hy
    · rename_i hn
      rw [if_neg hn] at h
      exact posN_lt P a i h
theorem drop_nlt {P : List Arv} {a p : Arv} (h : p ∈ P.drop (posA P a)) : ¬ ltA p a := by
  obtain ⟨i, hi, rfl⟩ := List.getElem_of_mem h
  rw [List.getElem_drop, ← getD_at (by rw [List.length_drop] at hi; omega)]
  rw [List.length_drop] at hi
  exact posN_ge P a P.length _ (Nat.le_add_right _ _) (by omega)
theorem insA_mem {P : List Arv} {a p : Arv} : p ∈ insA P a ↔ p = a ∨ p ∈ P := by
  unfold insA insI
  conv => rhs; rw [← List.take_append_drop (posA P a) P]
  simp only [List.mem_append, List.mem_cons]
  constructor
  · rintro (h | h | h)
    · exact .inr (.inl h)
    · exact .inl h
    · exact .inr (.inr h)
  · rintro (h | h | h)
    · exact .inr (.inl h)
    · exact .inl h
    · exact .inr (.inr h)
theorem insA_filter {P : List Arv} {a : Arv} (h : ∀ p ∈ P, p.at_ = a.at_ → ltA p a) (x : Int) : (insA P a).filter (fun q => decide (q.at_ = x)) = P.filter (fun q => decide (q.at_ = x)) ++ (if a.at_ = x then [a] else []) := by
  have e : P.filter (fun q => decide (q.at_ = x)) = (P.take (posA P a)).filter (fun q => decide (q.at_ = x)) ++ (P.drop (posA P a)).filter (fun q => decide (q.at_ = x)) := by
    rw [← List.filter_append, List.take_append_drop]
  rw [e]
  unfold insA insI
  rw [List.filter_append]
  by_cases hx : a.at_ = x
  · have hd : (P.drop (posA P a)).filter (fun q => decide (q.at_ = x)) = [] := by
      rw [List.filter_eq_nil_iff]
      intro p hp hpx
      exact drop_nlt hp (h p (List.mem_of_mem_drop hp) (by rw [hx]; simpa using hpx))
    rw [if_pos hx, List.filter_cons_of_pos (by simpa using hx), hd, List.append_nil]
  · rw [if_neg hx, List.filter_cons_of_neg (by simpa using hx), List.append_nil]
def srtA (P : List Arv) : Prop := P.Pairwise fun a b => a.at_ ≤ b.at_
theorem insA_srt {P : List Arv} {a : Arv} (h : srtA P) : srtA (insA P a) := by
  unfold srtA insA insI at *
  have h1 : (P.take (posA P a) ++ P.drop (posA P a)).Pairwise fun a b => a.at_ ≤ b.at_ := by rw [List.take_append_drop]; exact h
  rw [List.pairwise_append] at h1
  obtain ⟨h2, h3, h4⟩ := h1
  have hd : ∀ p ∈ P.drop (posA P a), a.at_ ≤ p.at_ := fun p hp => by
    have := drop_nlt hp
    unfold ltA at this
    omega
  have ht : ∀ p ∈ P.take (posA P a), p.at_ ≤ a.at_ := fun p hp => by
    obtain ⟨i, hi, rfl⟩ := List.getElem_of_mem hp
    rw [List.length_take] at hi
    rw [List.getElem_take, ← getD_at (by omega)]
    have h5 := posN_lt P a P.length (show 0 < posA P a by omega)
    have h6 := posN_le P a P.length
    have h7 : (P.getD i default).at_ ≤ (P.getD (posA P a - 1) default).at_ := by
      by_cases e : i = posA P a - 1
      · rw [e]; exact Int.le_refl _
      · have := List.pairwise_iff_getElem.1 h i (posA P a - 1) (by omega) (by unfold posA at *; omega) (by omega)
        rw [← getD_at, ← getD_at] at this
        exact this
    have h8 : (P.getD (posA P a - 1) default).at_ ≤ a.at_ := by
      change ltA (P.getD (posA P a - 1) default) a at h5
      unfold ltA at h5
      omega
    omega
  rw [List.pairwise_append, List.pairwise_cons]
  refine ⟨h2, ⟨hd, h3⟩, fun p hp q hq => ?_⟩
  rcases List.mem_cons.1 hq with rfl | hq
  · exact ht p hp
  · exact h4 p hp q hq
/-- What the program holds by times is what the reference holds in one list. -/
structure Rc (N : Pg) (P : List Arv) : Prop where
  I : PgI N
  eq : ∀ x : Nat, N.D x = P.filter fun a => decide (a.at_ = (x : Int))
  nn : ∀ a ∈ P, 0 ≤ a.at_
  srt : srtA P
theorem all_times : ∀ l : List Int, ∃ T : List Int, T.Nodup ∧ (∀ x, x ∈ T ↔ x ∈ l)
  | [] => ⟨[], List.nodup_nil, fun x => Iff.rfl⟩
  | y :: l => by
    obtain ⟨T, h1, h2⟩ := all_times l
    by_cases h : y ∈ T
    · refine ⟨T, h1, fun x => ?_⟩
      rw [h2, List.mem_cons]
      refine ⟨.inr, fun h3 => h3.elim (fun e => ?_) id⟩
      rw [e]; exact (h2 y).1 h
    · exact ⟨y :: T, List.nodup_cons.2 ⟨h, h1⟩, fun x => by rw [List.mem_cons, List.mem_cons, h2]⟩
theorem Rc.cnt {N : Pg} {P : List Arv} (h : Rc N P) : N.cnt = P.length := by
  obtain ⟨P', h1, h2, h3⟩ := h.I.tot
  obtain ⟨T, t1, t2⟩ := all_times ((P ++ P').map fun a => a.at_)
  have hT : ∀ t ∈ T, 0 ≤ t := fun t ht => by
    obtain ⟨a, ha, rfl⟩ := List.mem_map.1 ((t2 t).1 ht)
    rcases List.mem_append.1 ha with ha | ha
    · exact h.nn a ha
    · exact h2 a ha
  have e1 := flat_len h1 T t1 hT
  have e2 := flat_len h.eq T t1 hT
  rw [List.filter_eq_self.2 (fun a ha => decide_eq_true ((t2 _).2 (List.mem_map.2 ⟨a, List.mem_append_right _ ha, rfl⟩)))] at e1
  rw [List.filter_eq_self.2 (fun a ha => decide_eq_true ((t2 _).2 (List.mem_map.2 ⟨a, List.mem_append_left _ ha, rfl⟩)))] at e2
  rw [h3]
  omega
theorem Rc.add {N : Pg} {P : List Arv} (h : Rc N P) {a : Arv} (ha : 0 ≤ a.at_) (hf : ∀ p ∈ P, p.at_ = a.at_ → ltA p a) : Rc (addN N a) (insA P a) := by
  refine ⟨addN_ok h.I ha, fun x => ?_, fun p hp => ?_, insA_srt h.srt⟩
  · show addD N.D a x = _
    rw [insA_filter hf]
    by_cases hx : x = a.at_.toNat
    · rw [addD_at hx, h.eq, if_pos (by omega)]
    · rw [addD_ne hx, h.eq, if_neg (by omega), List.append_nil]
  · rcases insA_mem.1 hp with rfl | hp
    · exact ha
    · exact h.nn p hp
theorem frc_cons {f : Flt} {F : List Flt} {k t fr to : Int} : frc (f :: F) k t fr to = if f.kd = k ∧ apl f t fr to then f :: frc F k t fr to else frc F k t fr to := by
  unfold frc
  rw [List.filter_cons]
  by_cases h : f.kd = k ∧ apl f t fr to
  · rw [if_pos h, if_pos (decide_eq_true h)]
  · rw [if_neg h, if_neg (by simpa using h)]
theorem Rc.adds {t fr to time : Int} (ht : 0 ≤ time) : ∀ (F : List Flt) {N : Pg} {P : List Arv} {a : Arv}, Rc N P → (∀ f ∈ F, 0 ≤ f.ex) → (∀ p ∈ P, p.no < a.no ∨ (p.no = a.no ∧ p.cp ≤ a.cp)) → Rc (adN time (frc F 3 t fr to) N a) (adds t fr to time F P a)
  | [], N, P, a, h, _, _ => h
  | f :: F, N, P, a, h, hx, hf => by
    have hx' : ∀ g ∈ F, 0 ≤ g.ex := fun g hg => hx g (List.mem_cons_of_mem _ hg)
    rw [Go.Proofs.Ytnjakmpddghhjaa.adds]
    rw [frc_cons]
    by_cases hc : f.kd = 3 ∧ apl f t fr to
    · rw [if_pos hc, if_pos hc, adN]
      have h0 := hx f (List.mem_cons_self ..)
      refine Rc.adds ht F (h.add (by simp only; omega) (fun p hp _ => ?_)) hx' (fun p hp => ?_)
      · have := hf p hp
        unfold ltA
        simp only
        simp only at *
        omega
      · rcases insA_mem.1 hp with rfl | hp
        · exact .inr ⟨rfl, Int.le_refl _⟩
        · have := hf p hp
          simp only
          omega
    · rw [if_neg hc, if_neg hc]
      exact Rc.adds ht F h hx' hf
theorem scn_eq (t fr to : Int) : ∀ (F : List Flt) (x : Int), scn t fr to F x = if 0 < (frc F 4 t fr to).length ∨ 0 < (frc F 1 t fr to).length then none else some (sumX (frc F 2 t fr to) x)
  | [], x => rfl
  | f :: F, x => by
    rw [scn]
    by_cases ha : apl f t fr to
    · rw [if_pos ha]
      by_cases h4 : f.kd = 4 ∨ f.kd = 1
      · rw [if_pos h4]
        have hl : 0 < (frc (f :: F) 4 t fr to).length ∨ 0 < (frc (f :: F) 1 t fr to).length := by
          rcases h4 with h4 | h4
          · exact .inl (by rw [frc_cons, if_pos ⟨h4, ha⟩]; simp)
          · exact .inr (by rw [frc_cons, if_pos ⟨h4, ha⟩]; simp)
        rw [if_pos hl]
      · have e4 : frc (f :: F) 4 t fr to = frc F 4 t fr to := by rw [frc_cons, if_neg (fun h => h4 (.inl h.1))]
        have e1 : frc (f :: F) 1 t fr to = frc F 1 t fr to := by rw [frc_cons, if_neg (fun h => h4 (.inr h.1))]
        rw [if_neg h4, scn_eq t fr to F, e4, e1]
        by_cases h2 : f.kd = 2
        · have e2 : frc (f :: F) 2 t fr to = f :: frc F 2 t fr to := by rw [frc_cons, if_pos ⟨h2, ha⟩]
          rw [if_pos h2, e2, sumX]
        · have e2 : frc (f :: F) 2 t fr to = frc F 2 t fr to := by rw [frc_cons, if_neg (fun h => h2 h.1)]
          rw [if_neg h2, e2]
    · have e : ∀ k, frc (f :: F) k t fr to = frc F k t fr to := fun k => by rw [frc_cons, if_neg (fun h => ha h.2)]
      rw [if_neg ha, scn_eq t fr to F, e, e, e]
theorem sumX_ge : ∀ (F : List Flt) (x : Int), (∀ f ∈ F, 0 ≤ f.ex) → x ≤ sumX F x
  | [], x, _ => Int.le_refl _
  | f :: F, x, h => by
    rw [sumX]
    have := h f (List.mem_cons_self ..)
    have := sumX_ge F (x + f.ex) (fun g hg => h g (List.mem_cons_of_mem _ hg))
    omega
/-- The two networks. -/
structure Rl (N : Pg) (X : Nt) : Prop where
  m : N.m = X.m
  lat : N.lat = X.lat
  F : N.F = X.F
  sent : N.sent = X.cnt
  now : N.now = X.last
  c : Rc N X.P
  no : ∀ a ∈ X.P, a.no ≤ X.cnt
  nd : ∀ a ∈ X.P, okNd X.m a.fr ∧ okNd X.m a.to
theorem adN_keep (time : Int) : ∀ (F : List Flt) (N : Pg) (a : Arv), (adN time F N a).m = N.m ∧ (adN time F N a).lat = N.lat ∧ (adN time F N a).F = N.F ∧ (adN time F N a).sent = N.sent ∧ (adN time F N a).now = N.now
  | [], N, a => ⟨rfl, rfl, rfl, rfl, rfl⟩
  | f :: F, N, a => adN_keep time F _ _
theorem adds_mem {t fr to time : Int} : ∀ (F : List Flt) {P : List Arv} {a p : Arv}, p ∈ adds t fr to time F P a → p ∈ P ∨ (p.no = a.no ∧ p.fr = a.fr ∧ p.to = a.to)
  | [], P, a, p, h => .inl h
  | f :: F, P, a, p, h => by
    rw [adds] at h
    split at h
    · rcases adds_mem F h with h | h
      · rcases insA_mem.1 h with rfl | h
        · exact .inr ⟨rfl, rfl, rfl⟩
        · exact .inl h
      · exact .inr h
    · exact adds_mem F h
theorem Rl.snd {N : Pg} {X : Nt} (h : Rl N X) (hlat : 0 ≤ X.lat) (hex : ∀ f ∈ X.F, 0 ≤ f.ex) (t fr to : Int) (d : ByteArray) :
    pgE N t fr to d = sndE X t fr to d ∧ Rl (pgSend N t fr to d) (Go.Proofs.Ytnjakmpddghhjaa.snd X t fr to d) := by
  have hE : pgE N t fr to d = sndE X t fr to d := by
    have hc := h.c.cnt
    unfold pgE sndE okS
    rw [h.m, h.now, hc]
    have e : ((65536 : Int) ≤ (X.P.length : Nat)) = (65536 ≤ X.P.length) := by apply propext; omega
    simp only [e]
  refine ⟨hE, ?_⟩
  unfold pgSend Go.Proofs.Ytnjakmpddghhjaa.snd
  rw [hE]
  by_cases h0 : sndE X t fr to d = 0
  · rw [if_pos h0, if_pos h0]
    have hok : okS X t fr to := by
      unfold sndE at h0
      by_cases hk : okS X t fr to
      · exact hk
      · rw [if_pos hk] at h0; cases h0
    have hI0 : Rc { N with sent := N.sent + 1, now := t } X.P := ⟨⟨h.c.I.ok, h.c.I.len, h.c.I.cnt, h.c.I.tot⟩, h.c.eq, h.c.nn, h.c.srt⟩
    by_cases hl : 0 < (frc N.F 4 t fr to).length ∨ 0 < (frc N.F 1 t fr to).length
    · rw [if_pos hl]
      have hP : sndP X t fr to d = X.P := by
        unfold sndP
        rw [scn_eq, ← h.F, if_pos hl]
      rw [hP]
      exact ⟨h.m, h.lat, h.F, by show N.sent + 1 = X.cnt + 1; rw [h.sent], rfl, hI0, fun a ha => by have := h.no a ha; show a.no ≤ X.cnt + 1; omega, h.nd⟩
    · rw [if_neg hl]
      obtain ⟨q, hq⟩ : ∃ q, q = sumX (frc X.F 2 t fr to) (t + X.lat) := ⟨_, rfl⟩
      have hP : sndP X t fr to d = adds t fr to q X.F (insA X.P ⟨q, fr, to, X.cnt + 1, 0, d⟩) ⟨q, fr, to, X.cnt + 1, 0, d⟩ := by
        unfold sndP
        rw [scn_eq, ← h.F, if_neg hl, hq, h.F]
      have hq0 : 0 ≤ q := by
        have := sumX_ge (frc X.F 2 t fr to) (t + X.lat) (fun f hf => hex f (frc_mem hf))
        have := hok.2
        omega
      have hq' : sumX (frc N.F 2 t fr to) (t + N.lat) = q := by rw [h.F, h.lat, hq]
      have e3 : frc N.F 3 t fr to = frc X.F 3 t fr to := by rw [h.F]
      rw [hP, hq', e3, h.sent]
      have hc1 : Rc (addN { N with sent := X.cnt + 1, now := t } ⟨q, fr, to, X.cnt + 1, 0, d⟩) (insA X.P ⟨q, fr, to, X.cnt + 1, 0, d⟩) := by
        rw [h.sent] at hI0
        exact hI0.add hq0 (fun p hp he => .inr ⟨he, .inl (by have := h.no p hp; show p.no < X.cnt + 1; omega)⟩)
      have hF : N.F = X.F := h.F
      have hc2 := Rc.adds (t := t) (fr := fr) (to := to) hq0 X.F hc1 hex (fun p hp => by
        rcases insA_mem.1 hp with rfl | hp
        · exact .inr ⟨rfl, Int.le_refl _⟩
        · exact .inl (by have := h.no p hp; show p.no < X.cnt + 1; omega))
      obtain ⟨k1, k2, k3, k4, k5⟩ := adN_keep q (frc X.F 3 t fr to) (addN { N with sent := X.cnt + 1, now := t } ⟨q, fr, to, X.cnt + 1, 0, d⟩) ⟨q, fr, to, X.cnt + 1, 0, d⟩
      refine ⟨k1.trans h.m, k2.trans h.lat, k3.trans h.F, k4, k5, ?_, fun a ha => ?_, fun a ha => ?_⟩
      · exact hc2
      · show a.no ≤ X.cnt + 1
        rcases adds_mem X.F ha with ha | ha
        · rcases insA_mem.1 ha with rfl | ha
          · exact Int.le_refl _
          · have := h.no a ha; omega
        · exact Int.le_of_eq ha.1
      · show okNd X.m a.fr ∧ okNd X.m a.to
        have hn := hok.1
        rcases adds_mem X.F ha with ha | ha
        · rcases insA_mem.1 ha with rfl | ha
          · exact ⟨hn.1, hn.2.1⟩
          · exact h.nd a ha
        · rw [ha.2.1, ha.2.2]; exact ⟨hn.1, hn.2.1⟩
  · rw [if_neg h0, if_neg h0]
    exact h
end Go.Proofs.Ytnjakmpddghhjaa

namespace Go.Proofs.Ytnjakmpddghhjaa
open Go.X
set_option linter.unusedVariables false
set_option linter.unusedSimpArgs false
theorem flat_sorted : ∀ (ts : List Int), ts.Pairwise (· < ·) → ∀ {P : List Arv}, srtA P → ts.flatMap (fun t => P.filter fun a => decide (a.at_ = t)) = P.filter fun a => decide (a.at_ ∈ ts)
  | [], _, P, _ => by rw [List.filter_eq_nil_iff.2 (by intro a _; simp)]; rfl
  | t :: ts, hp, P, hs => by
    have hp' := List.pairwise_cons.1 hp
    rw [List.flatMap_cons, flat_sorted ts hp'.2 hs]
    unfold srtA at hs
    induction P with
    | nil => rfl
    | cons a P ih =>
      have hs' := List.pairwise_cons.1 hs
      have ih := ih hs'.2
      by_cases h1 : a.at_ = t
      · have h2 : a.at_ ∉ ts := fun h => by have := hp'.1 _ h; omega
        rw [List.filter_cons_of_pos (by simpa using h1), List.filter_cons_of_neg (by simpa using h2), List.filter_cons_of_pos (by simp [h1]), List.cons_append, ih]
      · by_cases h2 : a.at_ ∈ ts
        · have h3 : P.filter (fun a => decide (a.at_ = t)) = [] := by
            rw [List.filter_eq_nil_iff]
            intro p hp2 hpt
            have := hs'.1 p hp2
            have := hp'.1 _ h2
            have hpt : p.at_ = t := by simpa using hpt
            omega
          rw [List.filter_cons_of_neg (by simpa using h1), List.filter_cons_of_pos (by simpa using h2), List.filter_cons_of_pos (by simp [h2]), ← ih, h3]
          rfl
        · rw [List.filter_cons_of_neg (by simpa using h1), List.filter_cons_of_neg (by simpa using h2), List.filter_cons_of_neg (by simp [h1, h2]), ih]
theorem flatMap_cong {α β : Type} {f g : α → List β} : ∀ {l : List α}, (∀ x ∈ l, f x = g x) → l.flatMap f = l.flatMap g
  | [], _ => rfl
  | a :: l, h => by rw [List.flatMap_cons, List.flatMap_cons, h a (List.mem_cons_self ..), flatMap_cong fun x hx => h x (List.mem_cons_of_mem _ hx)]
theorem Rc.recv {N : Pg} {P : List Arv} (h : Rc N P) {u : Int} {ts : List Int} (hp : ts.Pairwise (· < ·)) (hm : ∀ x, x ∈ ts ↔ 0 ≤ x ∧ N.D x.toNat ≠ [] ∧ x ≤ u) :
    ts.flatMap (fun t => N.D t.toNat) = rcvP u P ∧ (∀ x : Nat, dropD N.D ts x = (rcvQ u P).filter fun a => decide (a.at_ = (x : Int))) := by
  have hA : ∀ a ∈ P, (a.at_ ∈ ts ↔ a.at_ ≤ u) := fun a ha => by
    have h0 := h.nn a ha
    rw [hm]
    refine ⟨fun h1 => h1.2.2, fun h1 => ⟨h0, ?_, h1⟩⟩
    rw [h.eq, Int.toNat_of_nonneg h0]
    exact List.ne_nil_of_mem (List.mem_filter.2 ⟨ha, decide_eq_true rfl⟩)
  constructor
  · rw [flatMap_cong (g := fun t => P.filter fun a => decide (a.at_ = t)) (fun t ht => by
      rw [h.eq, Int.toNat_of_nonneg ((hm t).1 ht).1]), flat_sorted ts hp h.srt]
    unfold rcvP
    exact List.filter_congr fun a ha => decide_eq_decide.2 (hA a ha)
  · intro x
    unfold dropD rcvQ
    rw [List.filter_filter]
    by_cases hx : (x : Int) ∈ ts
    · rw [if_pos hx]
      symm
      rw [List.filter_eq_nil_iff]
      intro a ha h2
      simp only [Bool.and_eq_true, decide_eq_true_eq, Bool.not_eq_true', decide_eq_false_iff_not] at h2
      have := ((hm x).1 hx).2.2
      omega
    · rw [if_neg hx, h.eq]
      refine List.filter_congr fun a ha => ?_
      have := hA a ha
      by_cases h1 : a.at_ = (x : Int)
      · have h2 : ¬ a.at_ ≤ u := fun h3 => hx (h1 ▸ this.2 h3)
        rw [decide_eq_true h1, decide_eq_false h2]
        rfl
      · rw [decide_eq_false h1]
        rfl
theorem len_pq (u : Int) (P : List Arv) : (rcvP u P).length + (rcvQ u P).length = P.length := by
  unfold rcvP rcvQ
  induction P with
  | nil => rfl
  | cons a P ih =>
    by_cases h : a.at_ ≤ u
    · rw [List.filter_cons_of_pos (by simpa using h), List.filter_cons_of_neg (by simpa using h)]
      simp only [List.length_cons]
      omega
    · rw [List.filter_cons_of_neg (by simpa using h), List.filter_cons_of_pos (by simpa using h)]
      simp only [List.length_cons]
      omega
theorem srtA_filter {P : List Arv} (h : srtA P) (p : Arv → Bool) : srtA (P.filter p) := List.Pairwise.filter _ h
theorem PgI_of {N : Pg} (hO : PgOk N.M N.D N.ck) {P : List Arv} (h1 : ∀ x : Nat, N.D x = P.filter fun a => decide (a.at_ = (x : Int))) (h2 : ∀ a ∈ P, 0 ≤ a.at_) (h3 : N.cnt = P.length) : PgI N :=
  ⟨hO, fun x => by rw [h1, h3]; have := List.length_filter_le (fun a : Arv => decide (a.at_ = (x : Int))) P; omega, by rw [h3]; omega, P, h1, h2, h3⟩
theorem Rl.recv {N : Pg} {X : Nt} (h : Rl N X) {u : Int} {ts : List Int} {M' : List (Nat × Nat)} (hp : ts.Pairwise (· < ·)) (hm : ∀ x, x ∈ ts ↔ 0 ≤ x ∧ N.D x.toNat ≠ [] ∧ x ≤ u) (hO : PgOk M' (dropD N.D ts) N.ck) :
    ts.flatMap (fun t => N.D t.toNat) = rcvP u X.P ∧
      Rl { N with now := max N.now u, cnt := N.cnt - (ts.flatMap fun t => N.D t.toNat).length, M := M', D := dropD N.D ts } { X with P := rcvQ u X.P, last := max X.last u } := by
  obtain ⟨e1, e2⟩ := h.c.recv hp hm
  have hc := h.c.cnt
  have hl := len_pq u X.P
  refine ⟨e1, h.m, h.lat, h.F, h.sent, by show max N.now u = max X.last u; rw [h.now], ⟨?_, e2, fun a ha => h.c.nn a (List.mem_filter.1 ha).1, srtA_filter h.c.srt _⟩, fun a ha => h.no a (List.mem_filter.1 ha).1, fun a ha => h.nd a (List.mem_filter.1 ha).1⟩
  refine PgI_of (N := { N with now := max N.now u, cnt := N.cnt - (ts.flatMap fun t => N.D t.toNat).length, M := M', D := dropD N.D ts }) hO e2 (fun a ha => h.c.nn a (List.mem_filter.1 ha).1) ?_
  show N.cnt - ((ts.flatMap fun t => N.D t.toNat).length : Nat) = ((rcvQ u X.P).length : Nat)
  rw [e1]
  omega
theorem Rl.next {N : Pg} {X : Nt} (h : Rl N X) {l : Int} {o : Bool} (h0 : N.M.length = 0 → l = 0 ∧ o = false) (h1 : 0 < N.M.length → o = true ∧ (∃ i, i < N.M.length ∧ l = (N.M.getD i default).2) ∧ ∀ i, i < N.M.length → l ≤ (N.M.getD i default).2) :
    (X.P.length = 0 → l = 0 ∧ o = false) ∧ (X.P.length ≠ 0 → l = (X.P.getD 0 default).at_ ∧ o = true) := by
  have hk : ∀ a ∈ X.P, ∃ i, i < N.M.length ∧ ((N.M.getD i default).2 : Int) = a.at_ := fun a ha => by
    have hn := h.c.nn a ha
    obtain ⟨i, hi, e⟩ := h.c.I.ok.all a.at_.toNat (by
      rw [h.c.eq, Int.toNat_of_nonneg hn]
      exact List.ne_nil_of_mem (List.mem_filter.2 ⟨ha, decide_eq_true rfl⟩))
    exact ⟨i, hi, by omega⟩
  have hk2 : ∀ i, i < N.M.length → ∃ a ∈ X.P, a.at_ = ((N.M.getD i default).2 : Int) := fun i hi => by
    have := h.c.I.ok.ne i hi
    rw [h.c.eq] at this
    obtain ⟨a, ha⟩ := List.exists_mem_of_ne_nil _ this
    obtain ⟨h1, h2⟩ := List.mem_filter.1 ha
    exact ⟨a, h1, by simpa using h2⟩
  constructor
  · intro hP
    refine h0 ?_
    rcases Nat.eq_zero_or_pos N.M.length with h2 | h2
    · exact h2
    · obtain ⟨a, ha, _⟩ := hk2 0 h2
      rw [List.eq_nil_of_length_eq_zero hP] at ha
      cases ha
  · intro hP
    have hm : X.P.getD 0 default ∈ X.P := by rw [getD_at (by omega)]; exact List.getElem_mem _
    obtain ⟨i, hi, e⟩ := hk _ hm
    obtain ⟨g1, ⟨j, hj, g2⟩, g3⟩ := h1 (by omega)
    refine ⟨?_, g1⟩
    have h4 := g3 i hi
    obtain ⟨a, ha, e2⟩ := hk2 j hj
    have h5 : (X.P.getD 0 default).at_ ≤ a.at_ := by
      obtain ⟨q, hq, rfl⟩ := List.getElem_of_mem ha
      by_cases h0 : q = 0
      · subst h0; rw [getD_at (by omega)]; exact Int.le_refl _
      · have := List.pairwise_iff_getElem.1 h.c.srt 0 q (by omega) hq (by omega)
        rw [getD_at (by omega)]
        exact this
    omega
theorem Rl.clear {N : Pg} {X : Nt} (h : Rl N X) {u : Int} {Q : List Nat} {M' : List (Nat × Nat)} {ck' : Nat} (hQ : Seen N.M Q) (hall : ∀ i, i < N.M.length → i ∈ Q) (hO : PgOk M' (kept N u Q) ck') :
    Rl { N with cnt := kcnt N u Q, M := M', D := kept N u Q, ck := ck' } { X with P := clrP u X.P } := by
  have e1 : ∀ x, kept N u Q x = (N.D x).filter (kp u) := fun x => by
    unfold kept
    split
    · rfl
    · rename_i hx
      by_cases hD : N.D x = []
      · rw [hD]; rfl
      · obtain ⟨i, hi, e⟩ := h.c.I.ok.all x hD
        exact absurd (List.mem_map.2 ⟨i, hall i hi, e⟩) hx
  have e2 : ∀ x : Nat, kept N u Q x = (clrP u X.P).filter fun a => decide (a.at_ = (x : Int)) := fun x => by
    rw [e1, h.c.eq]
    unfold clrP
    rw [List.filter_filter, List.filter_filter]
    refine List.filter_congr fun a _ => ?_
    unfold kp
    exact Bool.and_comm _ _
  have hnn : ∀ a ∈ clrP u X.P, 0 ≤ a.at_ := fun a ha => h.c.nn a (List.mem_filter.1 ha).1
  have hcnt : ((kcnt N u Q : Nat) : Int) = (clrP u X.P).length := by
    have hnd : (Q.map fun q => ((N.M.getD q default).2 : Int)).Nodup := by
      rw [List.nodup_iff_pairwise_ne, List.pairwise_map]
      refine (List.nodup_iff_pairwise_ne.1 hQ.nd).imp_of_mem ?_
      intro a b ha hb hab e
      exact hab (h.c.I.ok.inj (hQ.lt a ha) (hQ.lt b hb) (by omega))
    have h1 := flat_len e2 (Q.map fun q => ((N.M.getD q default).2 : Int)) hnd (fun t ht => by obtain ⟨e, _, rfl⟩ := List.mem_map.1 ht; omega)
    rw [List.filter_eq_self.2 (fun a ha => decide_eq_true (by
      have ha' := (List.mem_filter.1 ha).1
      have hn := h.c.nn a ha'
      obtain ⟨i, hi, e⟩ := h.c.I.ok.all a.at_.toNat (by
        rw [h.c.eq, Int.toNat_of_nonneg hn]
        exact List.ne_nil_of_mem (List.mem_filter.2 ⟨ha', decide_eq_true rfl⟩))
      exact List.mem_map.2 ⟨i, hall i hi, by omega⟩))] at h1
    unfold kcnt
    rw [← h1]
    congr 2
    exact flatMap_cong fun x _ => (e1 _).symm
  refine ⟨h.m, h.lat, h.F, h.sent, h.now, ⟨?_, e2, hnn, srtA_filter h.c.srt _⟩, fun a ha => h.no a (List.mem_filter.1 ha).1, fun a ha => h.nd a (List.mem_filter.1 ha).1⟩
  exact PgI_of (N := { N with cnt := kcnt N u Q, M := M', D := kept N u Q, ck := ck' }) hO e2 hnn hcnt
theorem Rl.clear_no {N : Pg} {X : Nt} (h : Rl N X) {u : Int} (hu : ¬ (0 ≤ u ∧ u < X.m)) : clrP u X.P = X.P := by
  unfold clrP
  rw [List.filter_eq_self]
  intro a ha
  have := h.nd a ha
  unfold okNd at this
  simp only [decide_eq_true_eq]
  omega
theorem isCut_eq (F : List Flt) (t a b : Int) : isCut F t a b = true ↔ 0 < (frc F 4 t a b).length := by
  unfold isCut frc
  rw [List.any_eq_true]
  constructor
  · rintro ⟨f, hf, h⟩
    exact List.length_pos_of_mem (List.mem_filter.2 ⟨hf, h⟩)
  · intro h
    obtain ⟨f, hf⟩ := List.exists_mem_of_ne_nil _ (List.length_pos_iff.1 h)
    exact ⟨f, (List.mem_filter.1 hf).1, (List.mem_filter.1 hf).2⟩
end Go.Proofs.Ytnjakmpddghhjaa

namespace Go.Proofs.Ytnjakmpddghhjaa
open Go.X
set_option linter.unusedSimpArgs false
set_option linter.unusedVariables false
theorem rH14aJ0 {σ : List Sg} {H h' : List Fam} {v : T} {K : T → List Fam → Prop} {H' : List Fam} {v' : T} {N : Nat} (hk : K v' H') (hN : H.length = N := by (try simp only [↓List.length_cons, ↓List.length_nil, Nat.reduceAdd]) <;> rfl) (h : givesF σ N H σ h' = some H' := by (try simp (maxSteps := 1000000) only [givesF, setF, updF, Fam.zeroth, Fam.rk, Ck.rk, C.rk, E.rk, T.rk, key, List.map_cons, List.map_nil, List.cons_append, List.nil_append, List.length_cons, List.length_nil, Option.map_some, Option.bind_some, Nat.reduceAdd, Nat.zero_add, Nat.add_zero, Nat.add_sub_cancel_left, Int.toNat_natCast, reps, List.all_cons, List.all_nil, C.flat, List.append_eq, Bool.not_true, Bool.and_true, Bool.or_false, Bool.or_self, Bool.not_false, List.append_nil, Bool.and_self, ↓lsG_rk, encF]) <;> rfl) (hv : v.rk σ N = v' := by (try simp only [givesF, setF, updF, Fam.zeroth, Fam.rk, Ck.rk, C.rk, E.rk, T.rk, key, List.map_cons, List.map_nil, List.cons_append, List.nil_append, List.length_cons, List.length_nil, Option.map_some, Option.bind_some, Nat.reduceAdd, Nat.zero_add, Nat.add_zero, Nat.add_sub_cancel_left, Int.toNat_natCast, reps, List.all_cons, List.all_nil, C.flat, List.append_eq, Bool.not_true, Bool.and_true, Bool.or_false, Bool.or_self, Bool.not_false, List.append_nil, Bool.and_self, ↓lsG_rk, encF]) <;> rfl) : RetG σ H h' v K := ret_mk3 hN h hv hk
theorem rH14aJ1 {σ : List Sg} {H h' : List Fam} {v : T} {K : T → List Fam → Prop} {H' : List Fam} {v' : T} {N : Nat} (hk : K v' H') (hN : H.length = N := by (try simp only [↓List.length_cons, ↓List.length_nil, Nat.reduceAdd]) <;> rfl) (h : givesF σ N H σ h' = some H' := by (try simp (maxSteps := 1000000) only [givesF, setF, updF, Fam.zeroth, Fam.rk, Ck.rk, C.rk, E.rk, T.rk, key, List.map_cons, List.map_nil, List.cons_append, List.nil_append, List.length_cons, List.length_nil, Option.map_some, Option.bind_some, Nat.reduceAdd, Nat.zero_add, Nat.add_zero, Nat.add_sub_cancel_left, Int.toNat_natCast, reps, List.all_cons, List.all_nil, C.flat, List.append_eq, Bool.not_true, Bool.and_true, Bool.or_false, Bool.or_self, Bool.not_false, List.append_nil, Bool.and_self, ↓lsG_rk]) <;> rfl) (hv : v.rk σ N = v' := by (try simp only [givesF, setF, updF, Fam.zeroth, Fam.rk, Ck.rk, C.rk, E.rk, T.rk, key, List.map_cons, List.map_nil, List.cons_append, List.nil_append, List.length_cons, List.length_nil, Option.map_some, Option.bind_some, Nat.reduceAdd, Nat.zero_add, Nat.add_zero, Nat.add_sub_cancel_left, Int.toNat_natCast, reps, List.all_cons, List.all_nil, C.flat, List.append_eq, Bool.not_true, Bool.and_true, Bool.or_false, Bool.or_self, Bool.not_false, List.append_nil, Bool.and_self, ↓lsG_rk]) <;> rfl) : RetG σ H h' v K := ret_mk3 hN h hv hk
theorem cH14aJ2 {P : Program} {F : Nat} {args : List T} {H : List Fam} {K : T → List Fam → Prop} {σ : List Sg} {nl : List Fam} {args0 : List T} {h0 : List Fam} {Q : T → List Fam → Prop} {H2 H1 : List Fam} {N n : Nat} (hc : Ctr P F args0 h0 Q) (hk : ∀ v h', Q v h' → capsP h' → RetG σ H2 h' v K) (hap : apart σ = true := by rfl) (hnl : nl.all nilB = true := by rfl) (h1 : H ++ nl = H1 := by first | exact List.append_nil _ | ((try simp only [List.cons_append, List.nil_append]) <;> rfl)) (hN : H1.length = N := by (try simp only [↓List.length_cons, ↓List.length_nil, Nat.reduceAdd]) <;> rfl) (hn : H.length = n := by (try simp only [↓List.length_cons, ↓List.length_nil, Nat.reduceAdd]) <;> rfl) (hH : givesF σ N H1 σ h0 = some H2 := by (try simp (maxSteps := 1000000) only [givesF, setF, updF, Fam.zeroth, Fam.rk, Ck.rk, C.rk, E.rk, T.rk, key, List.map_cons, List.map_nil, List.cons_append, List.nil_append, List.length_cons, List.length_nil, Option.map_some, Option.bind_some, Nat.reduceAdd, Nat.zero_add, Nat.add_zero, Nat.add_sub_cancel_left, Int.toNat_natCast, reps, List.all_cons, List.all_nil, C.flat, List.append_eq, Bool.not_true, Bool.and_true, Bool.or_false, Bool.or_self, Bool.not_false, List.append_nil, Bool.and_self, ↓lsG_rk]) <;> rfl) (hle : leS n H1 σ N σ h0 (belsK N (h0.map (Fam.rk σ N)) (argsK n args (args0.map (T.rk σ N)) True)) := by repeat' first | refine And.intro ?_ ?_ | exact xeC | fail) : CallK P F args H K := CallK.mk3 hc hap hnl h1 hN hn hH hle hk
set_option maxRecDepth 10000 in
set_option maxHeartbeats 4000000 in
theorem cNew (m lat : Int) (l : List Flt) (c : Nat) (w : Bool) (hl : l.length ≤ 9223372036854775807) :
    Ctr Try.prog 8 [.c (.i .i64 m), .c (.i .i64 lat), .c (.sl 0 0 6 0 l.length c)] [.one (fltR w l c)]
      fun v h => (newE m lat l ≠ 0 ∧ v = .t [.c .nilp, .c (.i .i64 (newE m lat l))] ∧ h = [.one (fltR w l c)]) ∨ 
       (newE m lat l = 0 ∧ ∃ c', v = .t [.c (.p 1 0 0), .c (.i .i64 0)] ∧ h = [.one (fltR w l c), .one (.cells true [.i .i64 m, .i .i64 lat, .sl 2 0 6 0 l.length c', .mp 3 0, .i .i64 0, .i .i64 0, .i .i64 0]), .one (fltR true l c'), .one (mapN 4 [] (fun _ => []) (fun _ => 0) 0), arrs (fun _ => []) (fun _ => 0)]) := by
  refine Ctr.mk' tbv mixed Try.func8 rfl rfl rfl (fun _ _ => by kernel_rfl) (by kernel_rfl) (by rfl) (by rfl) (by (repeat' first | refine And.intro ?_ ?_ | exact xeC | fail)) ?_
  repeat' (first | (fail_if_success (with_reducible refine xstp ?_)); first | ((with_reducible refine And.intro (fun (hb : _ = true) => ?_) (fun (hb : _ = false) => ?_)) <;> replace hb := xnC hb <;> (try first | exact xfC | exact bff hb (by assumption) | exact bff (by assumption) hb)) | (with_reducible refine Both.mk ?_ ?_) | ((with_reducible refine And.intro ?_ ?_); focus exact xoC) | ((with_reducible refine Or.inl ⟨?_, ?_, ?_⟩); (focus rfl); focus exact xaC) | ((with_reducible refine xwB ?_ ?_); focus exact xaC) | ((with_reducible refine xwC ?_ ?_); focus exact xaC) | ((with_reducible refine xwD ?_ ?_); focus exact xaC) | ((with_reducible refine xwE ?_ ?_); focus exact xaC) | (with_reducible intro hc; (try simp only [capsP, and_true] at hc); (try exact xfC)) | ((fail_if_success (with_reducible first | refine xgon ?_ | intro _)); (conv => whnf); (fail_if_success (fail_if_success (with_reducible first | refine xstp ?_ | refine Both.mk ?_ ?_ | refine xgon ?_ | intro _)))))
  all_goals try (
    rw [newE_no (l := l) (show ¬ ((1 ≤ m ∧ m ≤ 8) ∧ (0 ≤ lat ∧ lat ≤ 1099511627776)) by omega)]
    refine FinK.mk ⟨[0], _, _, .inl ⟨by decide, rfl, rfl⟩, ?_⟩
    (repeat' first | refine And.intro ?_ ?_ | exact xeC | fail)
    done)
  · rw [newE_long (l := l) (show (1 ≤ m ∧ m ≤ 8) ∧ (0 ≤ lat ∧ lat ≤ 1099511627776) by omega) (by omega)]
    refine FinK.mk ⟨[0], _, _, .inl ⟨by decide, rfl, rfl⟩, ?_⟩
    (repeat' first | refine And.intro ?_ ?_ | exact xeC | fail)
  have hml : (1 ≤ m ∧ m ≤ 8) ∧ (0 ≤ lat ∧ lat ≤ 1099511627776) := by omega
  refine LoopK.mk' {i : Nat // i ≤ l.length ∧ ∀ j, j < i → okF m (l.getD j default)}
    (fun ⟨i, _⟩ => ⟨[(0, .c (.i .i64 m)), (1, .c (.i .i64 lat)), (2, .c (.sl 0 0 6 0 l.length c)), (28, .c (.sl 0 0 6 0 l.length c)), (29, .c (.i .i64 l.length)), (30, .c (.i .i64 (i : Nat)))],
      [.one (fltR w l c)]⟩) (fun k => l.length - k.1)
    ⟨⟨0, Nat.zero_le _, by intro j h; omega⟩, [0], ?_⟩ ?_
  · (repeat' first | refine And.intro ?_ ?_ | exact xeC | fail)
  rintro ⟨i, hi, hok⟩
  repeat' (first | (fail_if_success (with_reducible refine xstp ?_)); first | ((with_reducible refine And.intro (fun (hb : _ = true) => ?_) (fun (hb : _ = false) => ?_)) <;> replace hb := xnC hb <;> (try first | exact xfC | exact bff hb (by assumption) | exact bff (by assumption) hb)) | (with_reducible refine Both.mk ?_ ?_) | ((with_reducible refine And.intro ?_ ?_); focus exact xoC) | ((with_reducible refine Or.inl ⟨?_, ?_, ?_⟩); (focus rfl); focus exact xaC) | ((with_reducible refine xwB ?_ ?_); focus exact xaC) | ((with_reducible refine xwC ?_ ?_); focus exact xaC) | ((with_reducible refine xwD ?_ ?_); focus exact xaC) | ((with_reducible refine xwE ?_ ?_); focus exact xaC) | (with_reducible intro hc; (try simp only [capsP, and_true] at hc); (try exact xfC)) | ((fail_if_success (with_reducible first | refine xgon ?_ | intro _)); (conv => whnf); (fail_if_success (fail_if_success (with_reducible first | refine xstp ?_ | refine Both.mk ?_ ?_ | refine xgon ?_ | intro _)))))
  · have hlt : i < l.length := by omega
    refine cH14aJ2 (σ := []) (nl := []) (cCheck m (l.getD (0 + ((i : Nat) : Int).toNat) default)) ?_
    rw [Nat.zero_add, Int.toNat_natCast]
    rintro v h' ⟨rfl, rfl⟩ hcaps
    refine rH14aJ0 ?_
    repeat' (first | (fail_if_success (with_reducible refine xstp ?_)); first | ((with_reducible refine And.intro (fun (hb : _ = true) => ?_) (fun (hb : _ = false) => ?_)) <;> replace hb := xnC hb <;> (try first | exact xfC | exact bff hb (by assumption) | exact bff (by assumption) hb)) | (with_reducible refine Both.mk ?_ ?_) | ((with_reducible refine And.intro ?_ ?_); focus exact xoC) | ((with_reducible refine Or.inl ⟨?_, ?_, ?_⟩); (focus rfl); focus exact xaC) | ((with_reducible refine xwB ?_ ?_); focus exact xaC) | ((with_reducible refine xwC ?_ ?_); focus exact xaC) | ((with_reducible refine xwD ?_ ?_); focus exact xaC) | ((with_reducible refine xwE ?_ ?_); focus exact xaC) | (with_reducible intro hc; (try simp only [capsP, and_true] at hc); (try exact xfC)) | ((fail_if_success (with_reducible first | refine xgon ?_ | intro _)); (conv => whnf); (fail_if_success (fail_if_success (with_reducible first | refine xstp ?_ | refine Both.mk ?_ ?_ | refine xgon ?_ | intro _)))))
    · obtain ⟨k1, k2⟩ := chk_ne hb
      rw [k2, newE_bad hml (by omega) hlt k1]
      refine FinK.mk ⟨[0], _, _, .inl ⟨by decide, rfl, rfl⟩, ?_⟩
      (repeat' first | refine And.intro ?_ ?_ | exact xeC | fail)
    · refine ⟨⟨i + 1, by omega, fun j hj => ?_⟩, [0], by simp only; omega, ?_⟩
      · rcases (by omega : j < i ∨ j = i) with h | rfl
        · exact hok j h
        · exact chk_eq hb
      (repeat' first | refine And.intro ?_ ?_ | exact xeC | fail)
  · have hE := newE_ok hml (l := l) (by omega) (fun j hj => hok j (by omega))
    refine cH14aJ2 (σ := [.whole 0]) (nl := []) (cClone l c (by omega) w) ?_
    rintro v h' ⟨c', rfl, rfl⟩ hcaps
    refine rH14aJ1 ?_
    repeat' (first | (fail_if_success (with_reducible refine xstp ?_)); first | ((with_reducible refine And.intro (fun (hb : _ = true) => ?_) (fun (hb : _ = false) => ?_)) <;> replace hb := xnC hb <;> (try first | exact xfC | exact bff hb (by assumption) | exact bff (by assumption) hb)) | (with_reducible refine Both.mk ?_ ?_) | ((with_reducible refine And.intro ?_ ?_); focus exact xoC) | ((with_reducible refine Or.inl ⟨?_, ?_, ?_⟩); (focus rfl); focus exact xaC) | ((with_reducible refine xwB ?_ ?_); focus exact xaC) | ((with_reducible refine xwC ?_ ?_); focus exact xaC) | ((with_reducible refine xwD ?_ ?_); focus exact xaC) | ((with_reducible refine xwE ?_ ?_); focus exact xaC) | (with_reducible intro hc; (try simp only [capsP, and_true] at hc); (try exact xfC)) | ((fail_if_success (with_reducible first | refine xgon ?_ | intro _)); (conv => whnf); (fail_if_success (fail_if_success (with_reducible first | refine xstp ?_ | refine Both.mk ?_ ?_ | refine xgon ?_ | intro _)))))
    rw [hE]
    refine FinK.mk ⟨[0, 3, 1, 2, 99], _, _, .inr ⟨rfl, c', rfl, rfl⟩, ?_⟩
    (repeat' first | refine And.intro ?_ ?_ | exact xeC | fail)
    all_goals first | exact fun _ => rfl | exact fun _ => lsG_bel | (intro i hi; exact absurd hi (Nat.not_lt_zero i)) | skip
set_option maxRecDepth 10000 in
set_option maxHeartbeats 4000000 in
theorem cClearN (N : Pg) (c : Nat) (u : Int) (hu : ¬ (0 ≤ u ∧ u < N.m)) :
    Ctr Try.prog 27 [.c (.p 0 0 0), .c (.i .i64 u)] [.one (pgC N c), .one .no, .one .no]
      fun v h => v = .t [] ∧ h = [.one (pgC N c), .one .no, .one .no] := by
  refine Ctr.mk' tbv mixed Try.func27 rfl rfl rfl (fun _ _ => by kernel_rfl) (by kernel_rfl) (by rfl) (by rfl) (by (repeat' first | refine And.intro ?_ ?_ | exact xeC | fail)) ?_
  repeat' (first | (fail_if_success (with_reducible refine xstp ?_)); first | ((with_reducible refine And.intro (fun (hb : _ = true) => ?_) (fun (hb : _ = false) => ?_)) <;> replace hb := xnC hb <;> (try first | exact xfC | exact bff hb (by assumption) | exact bff (by assumption) hb)) | (with_reducible refine Both.mk ?_ ?_) | ((with_reducible refine And.intro ?_ ?_); focus exact xoC) | ((with_reducible refine Or.inl ⟨?_, ?_, ?_⟩); (focus rfl); focus exact xaC) | ((with_reducible refine xwB ?_ ?_); focus exact xaC) | ((with_reducible refine xwC ?_ ?_); focus exact xaC) | ((with_reducible refine xwD ?_ ?_); focus exact xaC) | ((with_reducible refine xwE ?_ ?_); focus exact xaC) | (with_reducible intro hc; (try simp only [capsP, and_true] at hc); (try exact xfC)) | ((fail_if_success (with_reducible first | refine xgon ?_ | intro _)); (conv => whnf); (fail_if_success (fail_if_success (with_reducible first | refine xstp ?_ | refine Both.mk ?_ ?_ | refine xgon ?_ | intro _)))))
  refine cH14aJ2 (σ := []) (nl := []) (cvalid N.m u) ?_
  rintro v h' ⟨rfl, rfl⟩ hcaps
  refine rH14aJ1 ?_
  repeat' (first | (fail_if_success (with_reducible refine xstp ?_)); first | ((with_reducible refine And.intro (fun (hb : _ = true) => ?_) (fun (hb : _ = false) => ?_)) <;> replace hb := xnC hb <;> (try first | exact xfC | exact bff hb (by assumption) | exact bff (by assumption) hb)) | (with_reducible refine Both.mk ?_ ?_) | ((with_reducible refine And.intro ?_ ?_); focus exact xoC) | ((with_reducible refine Or.inl ⟨?_, ?_, ?_⟩); (focus rfl); focus exact xaC) | ((with_reducible refine xwB ?_ ?_); focus exact xaC) | ((with_reducible refine xwC ?_ ?_); focus exact xaC) | ((with_reducible refine xwD ?_ ?_); focus exact xaC) | ((with_reducible refine xwE ?_ ?_); focus exact xaC) | (with_reducible intro hc; (try simp only [capsP, and_true] at hc); (try exact xfC)) | ((fail_if_success (with_reducible first | refine xgon ?_ | intro _)); (conv => whnf); (fail_if_success (fail_if_success (with_reducible first | refine xstp ?_ | refine Both.mk ?_ ?_ | refine xgon ?_ | intro _)))))
  refine FinK.mk ⟨[0, 1, 2], _, _, ⟨rfl, rfl⟩, ?_⟩; (repeat' first | refine And.intro ?_ ?_ | exact xeC | fail)
set_option maxRecDepth 10000 in
set_option maxHeartbeats 4000000 in
theorem cSame (l : List Arv) (c1 c2 : Nat) (hl : l.length ≤ 100000) :
    Ctr Try.prog 17 [.c (.sl 0 0 5 0 l.length c1), .c (.sl 1 0 6 0 l.length c2)] [.one (arvP l c1), .one (arvR true l c2)]
      fun v h => v = .c .tt ∧ h = [.one (arvP l c1), .one (arvR true l c2)] := by
  refine Ctr.mk' tbv mixed Try.func17 rfl rfl rfl (fun _ _ => by kernel_rfl) (by kernel_rfl) (by rfl) (by rfl) (by (repeat' first | refine And.intro ?_ ?_ | exact xeC | fail)) ?_
  repeat' (first | (fail_if_success (with_reducible refine xstp ?_)); first | ((with_reducible refine And.intro (fun (hb : _ = true) => ?_) (fun (hb : _ = false) => ?_)) <;> replace hb := xnC hb <;> (try first | exact xfC | exact bff hb (by assumption) | exact bff (by assumption) hb)) | (with_reducible refine Both.mk ?_ ?_) | ((with_reducible refine And.intro ?_ ?_); focus exact xoC) | ((with_reducible refine Or.inl ⟨?_, ?_, ?_⟩); (focus rfl); focus exact xaC) | ((with_reducible refine xwB ?_ ?_); focus exact xaC) | ((with_reducible refine xwC ?_ ?_); focus exact xaC) | ((with_reducible refine xwD ?_ ?_); focus exact xaC) | ((with_reducible refine xwE ?_ ?_); focus exact xaC) | (with_reducible intro hc; (try simp only [capsP, and_true] at hc); (try exact xfC)) | ((fail_if_success (with_reducible first | refine xgon ?_ | intro _)); (conv => whnf); (fail_if_success (fail_if_success (with_reducible first | refine xstp ?_ | refine Both.mk ?_ ?_ | refine xgon ?_ | intro _)))))
  refine LoopK.mk' {i : Nat // i ≤ l.length}
    (fun ⟨i, _⟩ => ⟨[(0, .c (.sl 0 0 5 0 l.length c1)), (1, .c (.sl 1 0 6 0 l.length c2)), (5, .c (.i .i64 (i : Nat)))], [.one (arvP l c1), .one (arvR true l c2)]⟩) (fun k => l.length - k.1)
    ⟨⟨0, Nat.zero_le _⟩, [0, 1], ?_⟩ ?_
  · (repeat' first | refine And.intro ?_ ?_ | exact xeC | fail)
  rintro ⟨i, hi⟩
  repeat' (first | (fail_if_success (with_reducible refine xstp ?_)); first | ((with_reducible refine And.intro (fun (hb : _ = true) => ?_) (fun (hb : _ = false) => ?_)) <;> replace hb := xnC hb <;> (try first | exact xfC | exact bff hb (by assumption) | exact bff (by assumption) hb)) | (with_reducible refine Both.mk ?_ ?_) | ((with_reducible refine And.intro ?_ ?_); focus exact xoC) | ((with_reducible refine Or.inl ⟨?_, ?_, ?_⟩); (focus rfl); focus exact xaC) | ((with_reducible refine xwB ?_ ?_); focus exact xaC) | ((with_reducible refine xwC ?_ ?_); focus exact xaC) | ((with_reducible refine xwD ?_ ?_); focus exact xaC) | ((with_reducible refine xwE ?_ ?_); focus exact xaC) | (with_reducible intro hc; (try simp only [capsP, and_true] at hc); (try exact xfC)) | ((fail_if_success (with_reducible first | refine xgon ?_ | intro _)); (conv => whnf); (fail_if_success (fail_if_success (with_reducible first | refine xstp ?_ | refine Both.mk ?_ ?_ | refine xgon ?_ | intro _)))))
  · refine ⟨⟨i + 1, by omega⟩, [0, 1], by simp only; omega, ?_⟩
    (repeat' first | refine And.intro ?_ ?_ | exact xeC | fail)
  · refine FinK.mk ⟨[0, 1], _, _, ⟨rfl, rfl⟩, ?_⟩; (repeat' first | refine And.intro ?_ ?_ | exact xeC | fail)
def F0 : List Flt := [⟨2, 0, 1, 0, 100, 7⟩, ⟨3, 0, 1, 0, 100, 3⟩]
def N0 (m lat : Int) (F : List Flt) : Pg := ⟨m, lat, F, fun _ => [], [], 0, 0, 0, 0⟩
def X0 (m lat : Int) (F : List Flt) : Nt := ⟨m, lat, F, [], 0, 0⟩
theorem rl0 (m lat : Int) (F : List Flt) : Rl (N0 m lat F) (X0 m lat F) := by
  have hI : PgI (N0 m lat F) := PgI_of (P := []) ⟨fun i j _ h => absurd h (Nat.not_lt_zero j), fun i j _ h => absurd h (Nat.not_lt_zero j), fun i h => absurd h (Nat.not_lt_zero i), fun i h => absurd h (Nat.not_lt_zero i), fun x h => absurd rfl h⟩ (fun x => rfl) (fun a h => absurd h List.not_mem_nil) rfl
  exact ⟨rfl, rfl, rfl, rfl, rfl, ⟨hI, fun x => rfl, fun a h => absurd h List.not_mem_nil, List.Pairwise.nil⟩, fun a h => absurd h List.not_mem_nil, fun a h => absurd h List.not_mem_nil⟩
/-- Bounds of a network. -/
structure XB (X : Nt) : Prop where
  F : X.F.length ≤ 64
  lat : 0 ≤ X.lat ∧ X.lat ≤ 1099511627776
  ex : ∀ f ∈ X.F, 0 ≤ f.ex ∧ f.ex ≤ 1099511627776
  P : X.P.length ≤ 65601
  cnt : 0 ≤ X.cnt
theorem adds_len {t fr to time : Int} : ∀ (F : List Flt) (P : List Arv) (a : Arv), (adds t fr to time F P a).length ≤ P.length + F.length
  | [], P, a => Nat.le_refl _
  | f :: F, P, a => by
    rw [adds]
    split
    · have := adds_len (t := t) (fr := fr) (to := to) (time := time) F (insA P { a with cp := a.cp + 1, at_ := time + f.ex }) { a with cp := a.cp + 1, at_ := time + f.ex }
      rw [insA_len] at this
      simp only [List.length_cons]
      omega
    · have := adds_len (t := t) (fr := fr) (to := to) (time := time) F P a
      simp only [List.length_cons]
      omega
theorem snd_cnt (X : Nt) (t fr to : Int) (d : ByteArray) : (snd X t fr to d).cnt = if sndE X t fr to d = 0 then X.cnt + 1 else X.cnt := by
  unfold snd
  split <;> rfl
theorem snd_F (X : Nt) (t fr to : Int) (d : ByteArray) : (snd X t fr to d).F = X.F ∧ (snd X t fr to d).lat = X.lat ∧ (snd X t fr to d).m = X.m := by
  unfold snd
  split <;> exact ⟨rfl, rfl, rfl⟩
theorem XB.snd {X : Nt} (h : XB X) (t fr to : Int) (d : ByteArray) : XB (Go.Proofs.Ytnjakmpddghhjaa.snd X t fr to d) := by
  obtain ⟨f1, f2, f3⟩ := snd_F X t fr to d
  refine ⟨by rw [f1]; exact h.F, by rw [f2]; exact h.lat, by rw [f1]; exact h.ex, ?_, by rw [snd_cnt]; have := h.cnt; split <;> omega⟩
  unfold Go.Proofs.Ytnjakmpddghhjaa.snd
  split
  · rename_i h0
    have hl : X.P.length < 65536 := by
      unfold sndE at h0
      by_cases h1 : okS X t fr to
      · by_cases h2 : 4000 < d.size
        · rw [if_neg (not_not_intro h1), if_pos h2] at h0; cases h0
        · by_cases h3 : t < X.last
          · rw [if_neg (not_not_intro h1), if_neg h2, if_pos h3] at h0; cases h0
          · by_cases h4 : 65536 ≤ X.P.length
            · rw [if_neg (not_not_intro h1), if_neg h2, if_neg h3, if_pos h4] at h0; cases h0
            · omega
      · rw [if_pos h1] at h0; cases h0
    have hF := h.F
    show (sndP X t fr to d).length ≤ 65601
    unfold sndP
    split
    · omega
    · rename_i x _
      have := adds_len (t := t) (fr := fr) (to := to) (time := x) X.F (insA X.P ⟨x, fr, to, X.cnt + 1, 0, d⟩) ⟨x, fr, to, X.cnt + 1, 0, d⟩
      rw [insA_len] at this
      omega
  · exact h.P
theorem pgSend_F (N : Pg) (t fr to : Int) (d : ByteArray) : (pgSend N t fr to d).F = N.F := by
  unfold pgSend
  split
  · split
    · rfl
    · exact (adN_keep _ _ _ _).2.2.1
  · rfl
def rcv (X : Nt) (u : Int) : Nt := { X with P := rcvQ u X.P, last := max X.last u }
def clr (X : Nt) (u : Int) : Nt := { X with P := clrP u X.P }
theorem XB.rcv {X : Nt} (h : XB X) (u : Int) : XB (Go.Proofs.Ytnjakmpddghhjaa.rcv X u) := ⟨h.F, h.lat, h.ex, Nat.le_trans (List.length_filter_le ..) h.P, h.cnt⟩
theorem XB.clr {X : Nt} (h : XB X) (u : Int) : XB (Go.Proofs.Ytnjakmpddghhjaa.clr X u) := ⟨h.F, h.lat, h.ex, Nat.le_trans (List.length_filter_le ..) h.P, h.cnt⟩
theorem Rl.cntb {N : Pg} {X : Nt} (h : Rl N X) (hb : XB X) : N.cnt ≤ 66000 := by
  have := h.c.cnt
  have := hb.P
  omega
theorem cSend3 {N : Pg} {X : Nt} (hr : Rl N X) (hb : XB X) (hcn : X.cnt ≤ 1099511627776) (c : Nat) (cs : Nat → Nat) (t a b : Int) (d : ByteArray) :
    Ctr Try.prog 20 [.c (.p 0 0 0), .c (.i .i64 t), .c (.i .i64 a), .c (.i .i64 b), .c (.s d)] (pgH N c cs)
      fun v h => ∃ N' cs', Rl N' (snd X t a b d) ∧ v = .t [.c (.i .i64 (if sndE X t a b d = 0 then X.cnt + 1 else 0)), .c (.i .i64 (sndE X t a b d))] ∧ h = [.one (pgC N' c), .one (fltR true N'.F c), .one (mapN 4 N'.M N'.D cs' N'.ck), .one .no, arrs N'.D cs'] := by
  obtain ⟨e1, e2⟩ := hr.snd hb.lat.1 (fun f hf => (hb.ex f hf).1) t a b d
  refine (cSend N c cs t a b d hr.c.I (by rw [hr.F]; exact hb.F) (by rw [hr.lat]; exact hb.lat) (by rw [hr.F]; exact hb.ex) (hr.cntb hb) (by rw [hr.sent]; exact ⟨hb.cnt, hcn⟩)).mono' ?_
  rintro v h' ⟨cs', rfl, rfl⟩
  exact ⟨pgSend N t a b d, cs', e2, by rw [e1, hr.sent], by rw [pgSend_F]⟩
theorem cRecv3 {N : Pg} {X : Nt} (hr : Rl N X) (hb : XB X) (c : Nat) (cs : Nat → Nat) (u : Int) :
    Ctr Try.prog 11 [.c (.p 0 0 0), .c (.i .i64 u)] [.one (pgC N c), .one .no, .one (mapN 3 N.M N.D cs N.ck), arrs N.D cs]
      fun v h => ∃ N' c1, Rl N' (rcv X u) ∧ N'.F = N.F ∧ v = .c (.sl 4 0 5 0 (rcvP u X.P).length c1) ∧ h = [.one (pgC N' c), .one .no, .one (mapN 3 N'.M N'.D cs N'.ck), arrs N'.D cs, .one (arvP (rcvP u X.P) c1)] := by
  refine (cRecv N c cs u hr.c.I (by have := hr.cntb hb; omega)).mono' ?_
  rintro v h' ⟨ts, M', c1, rfl, rfl, hO, hp, hm⟩
  obtain ⟨e1, e2⟩ := hr.recv hp hm hO
  exact ⟨{ N with now := max N.now u, cnt := N.cnt - (ts.flatMap fun t => N.D t.toNat).length, M := M', D := dropD N.D ts }, c1, e2, rfl, by rw [e1], by rw [e1]⟩
theorem cNext3 {N : Pg} {X : Nt} (hr : Rl N X) (c : Nat) (cs : Nat → Nat) :
    Ctr Try.prog 21 [.c (.p 0 0 0)] [.one (pgC N c), .one .no, .one (mapN 3 N.M N.D cs N.ck), .one .no]
      fun v h => (∃ b : Bool, b = !decide (X.P.length = 0) ∧ v = .t [.c (.i .i64 (if X.P.length = 0 then 0 else (X.P.getD 0 default).at_)), .c (.b b)]) ∧ h = [.one (pgC N c), .one .no, .one (mapN 3 N.M N.D cs N.ck), .one .no] := by
  refine (cNext N c cs hr.c.I.ok).mono' ?_
  rintro v h' ⟨l, o, rfl, rfl, h0, h1⟩
  obtain ⟨g0, g1⟩ := hr.next h0 h1
  refine ⟨⟨o, ?_, ?_⟩, rfl⟩
  · by_cases h : X.P.length = 0
    · rw [(g0 h).2, decide_eq_true h]; rfl
    · rw [(g1 h).2, decide_eq_false h]; rfl
  · by_cases h : X.P.length = 0
    · rw [(g0 h).1, if_pos h]
    · rw [(g1 h).1, if_neg h]
def xS : ByteArray := ⟨#[120]⟩
set_option maxRecDepth 20000 in
set_option maxHeartbeats 4000000 in
theorem cawake : Ctr Try.prog 9 [] [] fun v h => v = .c .tt ∧ h = [] := by
  have hE0 : newE 2 10 F0 = 0 := by decide
  refine Ctr.tt (R := fun h => h = []) ?_
  refine Ctr.mk' tbv mixed Try.func9 rfl rfl rfl (fun _ _ => by kernel_rfl) (by kernel_rfl) (by rfl) (by rfl) (by (repeat' first | refine And.intro ?_ ?_ | exact xeC | fail)) ?_
  repeat' (first | (fail_if_success (with_reducible refine xstp ?_)); first | ((with_reducible refine And.intro (fun (hb : _ = true) => ?_) (fun (hb : _ = false) => ?_)) <;> replace hb := xnC hb <;> (try first | exact xfC | exact bff hb (by assumption) | exact bff (by assumption) hb)) | (with_reducible refine Both.mk ?_ ?_) | ((with_reducible refine And.intro ?_ ?_); focus exact xoC) | ((with_reducible refine Or.inl ⟨?_, ?_, ?_⟩); (focus rfl); focus exact xaC) | ((with_reducible refine xwB ?_ ?_); focus exact xaC) | ((with_reducible refine xwC ?_ ?_); focus exact xaC) | ((with_reducible refine xwD ?_ ?_); focus exact xaC) | ((with_reducible refine xwE ?_ ?_); focus exact xaC) | (with_reducible intro hc; (try simp only [capsP, and_true] at hc); (try exact xfC)) | ((fail_if_success (with_reducible first | refine xgon ?_ | intro _)); (conv => whnf); (fail_if_success (fail_if_success (with_reducible first | refine xstp ?_ | refine Both.mk ?_ ?_ | refine xgon ?_ | intro _)))))
  refine cH14aJ2 (σ := [.whole 0]) (nl := []) (cNew 2 10 F0 2 true (by decide)) ?_ (hle := by (repeat' first | refine And.intro ?_ ?_ | exact xeC | fail) <;> (intro i hi; rcases i with _ | _ | i <;> first | rfl | (exfalso; simp [F0] at hi; omega)))
  rintro v h' (⟨h1, rfl, rfl⟩ | ⟨h1, c1, rfl, rfl⟩) hcaps
  · exact absurd hE0 h1
  refine rH14aJ0 ?_
  repeat' (first | (fail_if_success (with_reducible refine xstp ?_)); first | ((with_reducible refine And.intro (fun (hb : _ = true) => ?_) (fun (hb : _ = false) => ?_)) <;> replace hb := xnC hb <;> (try first | exact xfC | exact bff hb (by assumption) | exact bff (by assumption) hb)) | (with_reducible refine Both.mk ?_ ?_) | ((with_reducible refine And.intro ?_ ?_); focus exact xoC) | ((with_reducible refine Or.inl ⟨?_, ?_, ?_⟩); (focus rfl); focus exact xaC) | ((with_reducible refine xwB ?_ ?_); focus exact xaC) | ((with_reducible refine xwC ?_ ?_); focus exact xaC) | ((with_reducible refine xwD ?_ ?_); focus exact xaC) | ((with_reducible refine xwE ?_ ?_); focus exact xaC) | (with_reducible intro hc; (try simp only [capsP, and_true] at hc); (try exact xfC)) | ((fail_if_success (with_reducible first | refine xgon ?_ | intro _)); (conv => whnf); (fail_if_success (fail_if_success (with_reducible first | refine xstp ?_ | refine Both.mk ?_ ?_ | refine xgon ?_ | intro _)))))
  have hr0 := rl0 2 10 F0
  have hs1 : sndE (X0 2 10 F0) 1 0 1 xS = 0 := by decide
  have hX1 : snd (X0 2 10 F0) 1 0 1 xS = ⟨2, 10, F0, [⟨18, 0, 1, 1, 0, xS⟩, ⟨21, 0, 1, 1, 1, xS⟩], 1, 1⟩ := by rfl
  have hb0 : XB (X0 2 10 F0) := ⟨by decide, by decide, by decide, by decide, by decide⟩
  have hb1 := hb0.snd 1 0 1 xS
  rw [hX1] at hb1
  refine cH14aJ2 (σ := [.whole 1, .whole 2, .whole 3, .whole 4]) (nl := []) (cSend3 hr0 hb0 (by decide) c1 (fun _ => 0) 1 0 1 xS) ?_ (hle := by (repeat' first | refine And.intro ?_ ?_ | exact xeC | fail) <;> (first | exact fun x => lsG_le | exact fun x => lsG_bel | exact fun x => lsG_belR))
  rw [hs1, hX1, if_pos rfl, show (X0 2 10 F0).cnt + 1 = 1 from rfl]
  rintro v h' ⟨N1, cs1, hr1, rfl, rfl⟩ hcaps
  refine rH14aJ1 ?_
  repeat' (first | (fail_if_success (with_reducible refine xstp ?_)); first | ((with_reducible refine And.intro (fun (hb : _ = true) => ?_) (fun (hb : _ = false) => ?_)) <;> replace hb := xnC hb <;> (try first | exact xfC | exact bff hb (by assumption) | exact bff (by assumption) hb)) | (with_reducible refine Both.mk ?_ ?_) | ((with_reducible refine And.intro ?_ ?_); focus exact xoC) | ((with_reducible refine Or.inl ⟨?_, ?_, ?_⟩); (focus rfl); focus exact xaC) | ((with_reducible refine xwB ?_ ?_); focus exact xaC) | ((with_reducible refine xwC ?_ ?_); focus exact xaC) | ((with_reducible refine xwD ?_ ?_); focus exact xaC) | ((with_reducible refine xwE ?_ ?_); focus exact xaC) | (with_reducible intro hc; (try simp only [capsP, and_true] at hc); (try exact xfC)) | ((fail_if_success (with_reducible first | refine xgon ?_ | intro _)); (conv => whnf); (fail_if_success (fail_if_success (with_reducible first | refine xstp ?_ | refine Both.mk ?_ ?_ | refine xgon ?_ | intro _)))))
  refine cH14aJ2 (σ := [.whole 1, .name 2, .whole 3, .name 5]) (nl := []) (cNext3 hr1 c1 cs1) ?_
  rintro v h' ⟨⟨b, hb, rfl⟩, rfl⟩ hcaps
  have hb : b = true := hb
  subst hb
  rw [show (if ([⟨18, 0, 1, 1, 0, xS⟩, ⟨21, 0, 1, 1, 1, xS⟩] : List Arv).length = 0 then (0 : Int) else (([⟨18, 0, 1, 1, 0, xS⟩, ⟨21, 0, 1, 1, 1, xS⟩] : List Arv).getD 0 default).at_) = 18 from rfl]
  refine rH14aJ1 ?_
  repeat' (first | (fail_if_success (with_reducible refine xstp ?_)); first | ((with_reducible refine And.intro (fun (hb : _ = true) => ?_) (fun (hb : _ = false) => ?_)) <;> replace hb := xnC hb <;> (try first | exact xfC | exact bff hb (by assumption) | exact bff (by assumption) hb)) | (with_reducible refine Both.mk ?_ ?_) | ((with_reducible refine And.intro ?_ ?_); focus exact xoC) | ((with_reducible refine Or.inl ⟨?_, ?_, ?_⟩); (focus rfl); focus exact xaC) | ((with_reducible refine xwB ?_ ?_); focus exact xaC) | ((with_reducible refine xwC ?_ ?_); focus exact xaC) | ((with_reducible refine xwD ?_ ?_); focus exact xaC) | ((with_reducible refine xwE ?_ ?_); focus exact xaC) | (with_reducible intro hc; (try simp only [capsP, and_true] at hc); (try exact xfC)) | ((fail_if_success (with_reducible first | refine xgon ?_ | intro _)); (conv => whnf); (fail_if_success (fail_if_success (with_reducible first | refine xstp ?_ | refine Both.mk ?_ ?_ | refine xgon ?_ | intro _)))))
  refine cH14aJ2 (σ := [.whole 1, .name 2, .whole 3, .whole 5]) (nl := []) (cRecv3 hr1 hb1 c1 cs1 21) ?_ (hle := by (repeat' first | refine And.intro ?_ ?_ | exact xeC | fail) <;> (first | exact fun x => lsG_le | exact fun x => lsG_bel | exact fun x => lsG_belR))
  rw [show rcvP 21 ([⟨18, 0, 1, 1, 0, xS⟩, ⟨21, 0, 1, 1, 1, xS⟩] : List Arv) = [⟨18, 0, 1, 1, 0, xS⟩, ⟨21, 0, 1, 1, 1, xS⟩] from rfl]
  rintro v h' ⟨N2, c3, hr2, hF2, rfl, rfl⟩ hcaps
  refine rH14aJ1 ?_
  repeat' (first | (fail_if_success (with_reducible refine xstp ?_)); first | ((with_reducible refine And.intro (fun (hb : _ = true) => ?_) (fun (hb : _ = false) => ?_)) <;> replace hb := xnC hb <;> (try first | exact xfC | exact bff hb (by assumption) | exact bff (by assumption) hb)) | (with_reducible refine Both.mk ?_ ?_) | ((with_reducible refine And.intro ?_ ?_); focus exact xoC) | ((with_reducible refine Or.inl ⟨?_, ?_, ?_⟩); (focus rfl); focus exact xaC) | ((with_reducible refine xwB ?_ ?_); focus exact xaC) | ((with_reducible refine xwC ?_ ?_); focus exact xaC) | ((with_reducible refine xwD ?_ ?_); focus exact xaC) | ((with_reducible refine xwE ?_ ?_); focus exact xaC) | (with_reducible intro hc; (try simp only [capsP, and_true] at hc); (try exact xfC)) | ((fail_if_success (with_reducible first | refine xgon ?_ | intro _)); (conv => whnf); (fail_if_success (fail_if_success (with_reducible first | refine xstp ?_ | refine Both.mk ?_ ?_ | refine xgon ?_ | intro _)))))
  refine cH14aJ2 (σ := [.whole 1, .name 2, .name 3]) (nl := []) (cSent N2 c1) ?_
  rw [hr2.sent, show (rcv ⟨2, 10, F0, [⟨18, 0, 1, 1, 0, xS⟩, ⟨21, 0, 1, 1, 1, xS⟩], 1, 1⟩ 21).cnt = 1 from rfl]
  rintro v h' ⟨rfl, rfl⟩ hcaps
  refine rH14aJ1 ?_
  repeat' (first | (fail_if_success (with_reducible refine xstp ?_)); first | ((with_reducible refine And.intro (fun (hb : _ = true) => ?_) (fun (hb : _ = false) => ?_)) <;> replace hb := xnC hb <;> (try first | exact xfC | exact bff hb (by assumption) | exact bff (by assumption) hb)) | (with_reducible refine Both.mk ?_ ?_) | ((with_reducible refine And.intro ?_ ?_); focus exact xoC) | ((with_reducible refine Or.inl ⟨?_, ?_, ?_⟩); (focus rfl); focus exact xaC) | ((with_reducible refine xwB ?_ ?_); focus exact xaC) | ((with_reducible refine xwC ?_ ?_); focus exact xaC) | ((with_reducible refine xwD ?_ ?_); focus exact xaC) | ((with_reducible refine xwE ?_ ?_); focus exact xaC) | (with_reducible intro hc; (try simp only [capsP, and_true] at hc); (try exact xfC)) | ((fail_if_success (with_reducible first | refine xgon ?_ | intro _)); (conv => whnf); (fail_if_success (fail_if_success (with_reducible first | refine xstp ?_ | refine Both.mk ?_ ?_ | refine xgon ?_ | intro _)))))
  rw [← hF2]
  have hb2 := hb1.rcv 21
  refine cH14aJ2 (σ := [.whole 1, .whole 2, .whole 3, .whole 5]) (nl := []) (cSend3 hr2 hb2 (by decide) c1 cs1 5 0 0 ⟨#[115, 101, 108, 102]⟩) ?_ (hle := by (repeat' first | refine And.intro ?_ ?_ | exact xeC | fail) <;> (first | exact fun x => lsG_le | exact fun x => lsG_bel | exact fun x => lsG_belR))
  rw [show sndE (rcv ⟨2, 10, F0, [⟨18, 0, 1, 1, 0, xS⟩, ⟨21, 0, 1, 1, 1, xS⟩], 1, 1⟩ 21) 5 0 0 ⟨#[115, 101, 108, 102]⟩ = 4 from by decide]
  rintro v h' ⟨N3, cs3, hr3, rfl, rfl⟩ hcaps
  refine rH14aJ1 ?_
  repeat' (first | (fail_if_success (with_reducible refine xstp ?_)); first | ((with_reducible refine And.intro (fun (hb : _ = true) => ?_) (fun (hb : _ = false) => ?_)) <;> replace hb := xnC hb <;> (try first | exact xfC | exact bff hb (by assumption) | exact bff (by assumption) hb)) | (with_reducible refine Both.mk ?_ ?_) | ((with_reducible refine And.intro ?_ ?_); focus exact xoC) | ((with_reducible refine Or.inl ⟨?_, ?_, ?_⟩); (focus rfl); focus exact xaC) | ((with_reducible refine xwB ?_ ?_); focus exact xaC) | ((with_reducible refine xwC ?_ ?_); focus exact xaC) | ((with_reducible refine xwD ?_ ?_); focus exact xaC) | ((with_reducible refine xwE ?_ ?_); focus exact xaC) | (with_reducible intro hc; (try simp only [capsP, and_true] at hc); (try exact xfC)) | ((fail_if_success (with_reducible first | refine xgon ?_ | intro _)); (conv => whnf); (fail_if_success (fail_if_success (with_reducible first | refine xstp ?_ | refine Both.mk ?_ ?_ | refine xgon ?_ | intro _)))))
  · refine FinK.mk ⟨[], _, _, ⟨_, rfl, rfl, rfl⟩, ?_⟩
    (repeat' first | refine And.intro ?_ ?_ | exact xeC | fail)
  · exact absurd rfl hb
  · exact absurd rfl hb
  · rcases hb with h | h | h | h | h <;> exact absurd rfl h
end Go.Proofs.Ytnjakmpddghhjaa

namespace Go.Proofs.Ytnjakmpddghhjaa
open Go.X
set_option linter.unusedSimpArgs false
set_option linter.unusedVariables false
abbrev encSu (m lat : Int) (nF cF nO cO : Nat) : List C := [.i .i64 m, .i .i64 lat, .sl 0 0 6 0 nF cF, .sl 1 0 5 0 nO cO]
theorem rH14aK0 {σ : List Sg} {H h' : List Fam} {v : T} {K : T → List Fam → Prop} {H' : List Fam} {v' : T} {N : Nat} (hk : K v' H') (hN : H.length = N := by (try simp only [↓List.length_cons, ↓List.length_nil, Nat.reduceAdd]) <;> rfl) (h : givesF σ N H σ h' = some H' := by (try simp (maxSteps := 1000000) only [givesF, setF, updF, Fam.zeroth, Fam.rk, Ck.rk, C.rk, E.rk, T.rk, key, List.map_cons, List.map_nil, List.cons_append, List.nil_append, List.length_cons, List.length_nil, Option.map_some, Option.bind_some, Nat.reduceAdd, Nat.zero_add, Nat.add_zero, Nat.add_sub_cancel_left, Int.toNat_natCast, reps, List.all_cons, List.all_nil, C.flat, List.append_eq, Bool.not_true, Bool.and_true, Bool.or_false, Bool.or_self, Bool.not_false, List.append_nil, Bool.and_self, ↓lsG_rk, encF]) <;> rfl) (hv : v.rk σ N = v' := by (try simp only [givesF, setF, updF, Fam.zeroth, Fam.rk, Ck.rk, C.rk, E.rk, T.rk, key, List.map_cons, List.map_nil, List.cons_append, List.nil_append, List.length_cons, List.length_nil, Option.map_some, Option.bind_some, Nat.reduceAdd, Nat.zero_add, Nat.add_zero, Nat.add_sub_cancel_left, Int.toNat_natCast, reps, List.all_cons, List.all_nil, C.flat, List.append_eq, Bool.not_true, Bool.and_true, Bool.or_false, Bool.or_self, Bool.not_false, List.append_nil, Bool.and_self, ↓lsG_rk, encF]) <;> rfl) : RetG σ H h' v K := ret_mk3 hN h hv hk
theorem rH14aK1 {σ : List Sg} {H h' : List Fam} {v : T} {K : T → List Fam → Prop} {H' : List Fam} {v' : T} {N : Nat} (hk : K v' H') (hN : H.length = N := by (try simp only [↓List.length_cons, ↓List.length_nil, Nat.reduceAdd]) <;> rfl) (h : givesF σ N H σ h' = some H' := by (try simp (maxSteps := 1000000) only [givesF, setF, updF, Fam.zeroth, Fam.rk, Ck.rk, C.rk, E.rk, T.rk, key, List.map_cons, List.map_nil, List.cons_append, List.nil_append, List.length_cons, List.length_nil, Option.map_some, Option.bind_some, Nat.reduceAdd, Nat.zero_add, Nat.add_zero, Nat.add_sub_cancel_left, Int.toNat_natCast, reps, List.all_cons, List.all_nil, C.flat, List.append_eq, Bool.not_true, Bool.and_true, Bool.or_false, Bool.or_self, Bool.not_false, List.append_nil, Bool.and_self, ↓lsG_rk]) <;> rfl) (hv : v.rk σ N = v' := by (try simp only [givesF, setF, updF, Fam.zeroth, Fam.rk, Ck.rk, C.rk, E.rk, T.rk, key, List.map_cons, List.map_nil, List.cons_append, List.nil_append, List.length_cons, List.length_nil, Option.map_some, Option.bind_some, Nat.reduceAdd, Nat.zero_add, Nat.add_zero, Nat.add_sub_cancel_left, Int.toNat_natCast, reps, List.all_cons, List.all_nil, C.flat, List.append_eq, Bool.not_true, Bool.and_true, Bool.or_false, Bool.or_self, Bool.not_false, List.append_nil, Bool.and_self, ↓lsG_rk]) <;> rfl) : RetG σ H h' v K := ret_mk3 hN h hv hk
theorem cH14aK2 {P : Program} {F : Nat} {args : List T} {H : List Fam} {K : T → List Fam → Prop} {σ : List Sg} {nl : List Fam} {args0 : List T} {h0 : List Fam} {Q : T → List Fam → Prop} {H2 H1 : List Fam} {N n : Nat} (hc : Ctr P F args0 h0 Q) (hk : ∀ v h', Q v h' → capsP h' → RetG σ H2 h' v K) (hap : apart σ = true := by rfl) (hnl : nl.all nilB = true := by rfl) (h1 : H ++ nl = H1 := by first | exact List.append_nil _ | ((try simp only [List.cons_append, List.nil_append]) <;> rfl)) (hN : H1.length = N := by (try simp only [↓List.length_cons, ↓List.length_nil, Nat.reduceAdd]) <;> rfl) (hn : H.length = n := by (try simp only [↓List.length_cons, ↓List.length_nil, Nat.reduceAdd]) <;> rfl) (hH : givesF σ N H1 σ h0 = some H2 := by (try simp (maxSteps := 1000000) only [givesF, setF, updF, Fam.zeroth, Fam.rk, Ck.rk, C.rk, E.rk, T.rk, key, List.map_cons, List.map_nil, List.cons_append, List.nil_append, List.length_cons, List.length_nil, Option.map_some, Option.bind_some, Nat.reduceAdd, Nat.zero_add, Nat.add_zero, Nat.add_sub_cancel_left, Int.toNat_natCast, reps, List.all_cons, List.all_nil, C.flat, List.append_eq, Bool.not_true, Bool.and_true, Bool.or_false, Bool.or_self, Bool.not_false, List.append_nil, Bool.and_self, ↓lsG_rk]) <;> rfl) (hle : leS n H1 σ N σ h0 (belsK N (h0.map (Fam.rk σ N)) (argsK n args (args0.map (T.rk σ N)) True)) := by repeat' first | refine And.intro ?_ ?_ | exact xeC | fail) : CallK P F args H K := CallK.mk3 hc hap hnl h1 hN hn hH hle hk
set_option maxRecDepth 20000 in
set_option maxHeartbeats 4000000 in
theorem cchecks (m lat : Int) (F : List Flt) (cF nO cO : Nat) (hF : F.length ≤ 9223372036854775807) :
    Ctr Try.prog 4 [.a (encSu m lat F.length cF nO cO)] [.one (fltR false F cF), .one .no] fun v _ => v = .c .tt := by
  refine Ctr.mk' tbv mixed Try.func4 rfl rfl rfl (fun _ _ => by kernel_rfl) (by kernel_rfl) (by rfl) (by rfl) (by (repeat' first | refine And.intro ?_ ?_ | exact xeC | fail)) ?_
  repeat' (first | (fail_if_success (with_reducible refine xstp ?_)); first | ((with_reducible refine And.intro (fun (hb : _ = true) => ?_) (fun (hb : _ = false) => ?_)) <;> replace hb := xnC hb <;> (try first | exact xfC | exact bff hb (by assumption) | exact bff (by assumption) hb)) | (with_reducible refine Both.mk ?_ ?_) | ((with_reducible refine And.intro ?_ ?_); focus exact xoC) | ((with_reducible refine Or.inl ⟨?_, ?_, ?_⟩); (focus rfl); focus exact xaC) | ((with_reducible refine xwB ?_ ?_); focus exact xaC) | ((with_reducible refine xwC ?_ ?_); focus exact xaC) | ((with_reducible refine xwD ?_ ?_); focus exact xaC) | ((with_reducible refine xwE ?_ ?_); focus exact xaC) | (with_reducible intro hc; (try simp only [capsP, and_true] at hc); (try exact xfC)) | ((fail_if_success (with_reducible first | refine xgon ?_ | intro _)); (conv => whnf); (fail_if_success (fail_if_success (with_reducible first | refine xstp ?_ | refine Both.mk ?_ ?_ | refine xgon ?_ | intro _)))))
  refine LoopK.mk' {i : Nat // i ≤ F.length}
    (fun ⟨i, _⟩ => ⟨[(1, .c (.p 2 0 0)), (3, .c (.i .i64 (i : Nat)))], [.one (fltR false F cF), .one .no, .one (.cells true (encSu m lat F.length cF nO cO))]⟩) (fun k => F.length - k.1)
    ⟨⟨0, Nat.zero_le _⟩, [0, 1, 2], ?_⟩ ?_
  · (repeat' first | refine And.intro ?_ ?_ | exact xeC | fail)
  rintro ⟨i, hi⟩
  repeat' (first | (fail_if_success (with_reducible refine xstp ?_)); first | ((with_reducible refine And.intro (fun (hb : _ = true) => ?_) (fun (hb : _ = false) => ?_)) <;> replace hb := xnC hb <;> (try first | exact xfC | exact bff hb (by assumption) | exact bff (by assumption) hb)) | (with_reducible refine Both.mk ?_ ?_) | ((with_reducible refine And.intro ?_ ?_); focus exact xoC) | ((with_reducible refine Or.inl ⟨?_, ?_, ?_⟩); (focus rfl); focus exact xaC) | ((with_reducible refine xwB ?_ ?_); focus exact xaC) | ((with_reducible refine xwC ?_ ?_); focus exact xaC) | ((with_reducible refine xwD ?_ ?_); focus exact xaC) | ((with_reducible refine xwE ?_ ?_); focus exact xaC) | (with_reducible intro hc; (try simp only [capsP, and_true] at hc); (try exact xfC)) | ((fail_if_success (with_reducible first | refine xgon ?_ | intro _)); (conv => whnf); (fail_if_success (fail_if_success (with_reducible first | refine xstp ?_ | refine Both.mk ?_ ?_ | refine xgon ?_ | intro _)))))
  · have hlt : i < F.length := by omega
    have e1 : 0 + ((i : Nat) : Int).toNat = i := by omega
    rw [e1]
    refine cH14aK2 (σ := []) (nl := []) (cCheck m (F.getD i default)) ?_
    rintro v h' ⟨rfl, rfl⟩ hcaps
    refine rH14aK0 ?_
    repeat' (first | (fail_if_success (with_reducible refine xstp ?_)); first | ((with_reducible refine And.intro (fun (hb : _ = true) => ?_) (fun (hb : _ = false) => ?_)) <;> replace hb := xnC hb <;> (try first | exact xfC | exact bff hb (by assumption) | exact bff (by assumption) hb)) | (with_reducible refine Both.mk ?_ ?_) | ((with_reducible refine And.intro ?_ ?_); focus exact xoC) | ((with_reducible refine Or.inl ⟨?_, ?_, ?_⟩); (focus rfl); focus exact xaC) | ((with_reducible refine xwB ?_ ?_); focus exact xaC) | ((with_reducible refine xwC ?_ ?_); focus exact xaC) | ((with_reducible refine xwD ?_ ?_); focus exact xaC) | ((with_reducible refine xwE ?_ ?_); focus exact xaC) | (with_reducible intro hc; (try simp only [capsP, and_true] at hc); (try exact xfC)) | ((fail_if_success (with_reducible first | refine xgon ?_ | intro _)); (conv => whnf); (fail_if_success (fail_if_success (with_reducible first | refine xstp ?_ | refine Both.mk ?_ ?_ | refine xgon ?_ | intro _)))))
    refine cH14aK2 (σ := []) (nl := []) (cCheckR m (F.getD i default)) ?_
    rintro v h' ⟨rfl, rfl⟩ hcaps
    refine rH14aK0 ?_
    repeat' (first | (fail_if_success (with_reducible refine xstp ?_)); first | ((with_reducible refine And.intro (fun (hb : _ = true) => ?_) (fun (hb : _ = false) => ?_)) <;> replace hb := xnC hb <;> (try first | exact xfC | exact bff hb (by assumption) | exact bff (by assumption) hb)) | (with_reducible refine Both.mk ?_ ?_) | ((with_reducible refine And.intro ?_ ?_); focus exact xoC) | ((with_reducible refine Or.inl ⟨?_, ?_, ?_⟩); (focus rfl); focus exact xaC) | ((with_reducible refine xwB ?_ ?_); focus exact xaC) | ((with_reducible refine xwC ?_ ?_); focus exact xaC) | ((with_reducible refine xwD ?_ ?_); focus exact xaC) | ((with_reducible refine xwE ?_ ?_); focus exact xaC) | (with_reducible intro hc; (try simp only [capsP, and_true] at hc); (try exact xfC)) | ((fail_if_success (with_reducible first | refine xgon ?_ | intro _)); (conv => whnf); (fail_if_success (fail_if_success (with_reducible first | refine xstp ?_ | refine Both.mk ?_ ?_ | refine xgon ?_ | intro _)))))
    refine ⟨⟨i + 1, by omega⟩, [0, 1, 2], by simp only; omega, ?_⟩
    (repeat' first | refine And.intro ?_ ?_ | exact xeC | fail)
  all_goals (
    refine cH14aK2 (σ := [.whole 0]) (nl := []) (cNew m lat F cF false hF) ?_
    rintro v h' (⟨h1, rfl, rfl⟩ | ⟨h1, c1, rfl, rfl⟩) hcaps
    · refine rH14aK0 ?_
      repeat' (first | (fail_if_success (with_reducible refine xstp ?_)); first | ((with_reducible refine And.intro (fun (hb : _ = true) => ?_) (fun (hb : _ = false) => ?_)) <;> replace hb := xnC hb <;> (try first | exact xfC | exact bff hb (by assumption) | exact bff (by assumption) hb)) | (with_reducible refine Both.mk ?_ ?_) | ((with_reducible refine And.intro ?_ ?_); focus exact xoC) | ((with_reducible refine Or.inl ⟨?_, ?_, ?_⟩); (focus rfl); focus exact xaC) | ((with_reducible refine xwB ?_ ?_); focus exact xaC) | ((with_reducible refine xwC ?_ ?_); focus exact xaC) | ((with_reducible refine xwD ?_ ?_); focus exact xaC) | ((with_reducible refine xwE ?_ ?_); focus exact xaC) | (with_reducible intro hc; (try simp only [capsP, and_true] at hc); (try exact xfC)) | ((fail_if_success (with_reducible first | refine xgon ?_ | intro _)); (conv => whnf); (fail_if_success (fail_if_success (with_reducible first | refine xstp ?_ | refine Both.mk ?_ ?_ | refine xgon ?_ | intro _)))))
      refine cH14aK2 (σ := [.whole 0]) (nl := []) (cNewR m lat F cF false hF) ?_
      rintro v h' (⟨h2, rfl, rfl⟩ | ⟨h2, c2, rfl, rfl⟩) hcaps
      · refine rH14aK0 ?_
        repeat' (first | (fail_if_success (with_reducible refine xstp ?_)); first | ((with_reducible refine And.intro (fun (hb : _ = true) => ?_) (fun (hb : _ = false) => ?_)) <;> replace hb := xnC hb <;> (try first | exact xfC | exact bff hb (by assumption) | exact bff (by assumption) hb)) | (with_reducible refine Both.mk ?_ ?_) | ((with_reducible refine And.intro ?_ ?_); focus exact xoC) | ((with_reducible refine Or.inl ⟨?_, ?_, ?_⟩); (focus rfl); focus exact xaC) | ((with_reducible refine xwB ?_ ?_); focus exact xaC) | ((with_reducible refine xwC ?_ ?_); focus exact xaC) | ((with_reducible refine xwD ?_ ?_); focus exact xaC) | ((with_reducible refine xwE ?_ ?_); focus exact xaC) | (with_reducible intro hc; (try simp only [capsP, and_true] at hc); (try exact xfC)) | ((fail_if_success (with_reducible first | refine xgon ?_ | intro _)); (conv => whnf); (fail_if_success (fail_if_success (with_reducible first | refine xstp ?_ | refine Both.mk ?_ ?_ | refine xgon ?_ | intro _)))))
        refine cH14aK2 (σ := []) (nl := []) (cawake) ?_
        rintro v h' ⟨rfl, rfl⟩ hcaps
        refine rH14aK1 ?_
        repeat' (first | (fail_if_success (with_reducible refine xstp ?_)); first | ((with_reducible refine And.intro (fun (hb : _ = true) => ?_) (fun (hb : _ = false) => ?_)) <;> replace hb := xnC hb <;> (try first | exact xfC | exact bff hb (by assumption) | exact bff (by assumption) hb)) | (with_reducible refine Both.mk ?_ ?_) | ((with_reducible refine And.intro ?_ ?_); focus exact xoC) | ((with_reducible refine Or.inl ⟨?_, ?_, ?_⟩); (focus rfl); focus exact xaC) | ((with_reducible refine xwB ?_ ?_); focus exact xaC) | ((with_reducible refine xwC ?_ ?_); focus exact xaC) | ((with_reducible refine xwD ?_ ?_); focus exact xaC) | ((with_reducible refine xwE ?_ ?_); focus exact xaC) | (with_reducible intro hc; (try simp only [capsP, and_true] at hc); (try exact xfC)) | ((fail_if_success (with_reducible first | refine xgon ?_ | intro _)); (conv => whnf); (fail_if_success (fail_if_success (with_reducible first | refine xstp ?_ | refine Both.mk ?_ ?_ | refine xgon ?_ | intro _)))))
        refine FinK.mk ⟨[0, 1], _, [.one .no, .one .no], rfl, ?_⟩
        (repeat' first | refine And.intro ?_ ?_ | exact xeC | fail)
      · exact absurd h2 h1
    · refine rH14aK0 ?_
      repeat' (first | (fail_if_success (with_reducible refine xstp ?_)); first | ((with_reducible refine And.intro (fun (hb : _ = true) => ?_) (fun (hb : _ = false) => ?_)) <;> replace hb := xnC hb <;> (try first | exact xfC | exact bff hb (by assumption) | exact bff (by assumption) hb)) | (with_reducible refine Both.mk ?_ ?_) | ((with_reducible refine And.intro ?_ ?_); focus exact xoC) | ((with_reducible refine Or.inl ⟨?_, ?_, ?_⟩); (focus rfl); focus exact xaC) | ((with_reducible refine xwB ?_ ?_); focus exact xaC) | ((with_reducible refine xwC ?_ ?_); focus exact xaC) | ((with_reducible refine xwD ?_ ?_); focus exact xaC) | ((with_reducible refine xwE ?_ ?_); focus exact xaC) | (with_reducible intro hc; (try simp only [capsP, and_true] at hc); (try exact xfC)) | ((fail_if_success (with_reducible first | refine xgon ?_ | intro _)); (conv => whnf); (fail_if_success (fail_if_success (with_reducible first | refine xstp ?_ | refine Both.mk ?_ ?_ | refine xgon ?_ | intro _)))))
      refine cH14aK2 (σ := [.whole 0]) (nl := []) (cNewR m lat F cF false hF) ?_
      rintro v h' (⟨h2, rfl, rfl⟩ | ⟨h2, c2, rfl, rfl⟩) hcaps
      · exact absurd h1 h2
      · refine rH14aK0 ?_
        repeat' (first | (fail_if_success (with_reducible refine xstp ?_)); first | ((with_reducible refine And.intro (fun (hb : _ = true) => ?_) (fun (hb : _ = false) => ?_)) <;> replace hb := xnC hb <;> (try first | exact xfC | exact bff hb (by assumption) | exact bff (by assumption) hb)) | (with_reducible refine Both.mk ?_ ?_) | ((with_reducible refine And.intro ?_ ?_); focus exact xoC) | ((with_reducible refine Or.inl ⟨?_, ?_, ?_⟩); (focus rfl); focus exact xaC) | ((with_reducible refine xwB ?_ ?_); focus exact xaC) | ((with_reducible refine xwC ?_ ?_); focus exact xaC) | ((with_reducible refine xwD ?_ ?_); focus exact xaC) | ((with_reducible refine xwE ?_ ?_); focus exact xaC) | (with_reducible intro hc; (try simp only [capsP, and_true] at hc); (try exact xfC)) | ((fail_if_success (with_reducible first | refine xgon ?_ | intro _)); (conv => whnf); (fail_if_success (fail_if_success (with_reducible first | refine xstp ?_ | refine Both.mk ?_ ?_ | refine xgon ?_ | intro _)))))
        refine cH14aK2 (σ := []) (nl := []) (cawake) ?_
        rintro v h' ⟨rfl, rfl⟩ hcaps
        refine rH14aK1 ?_
        repeat' (first | (fail_if_success (with_reducible refine xstp ?_)); first | ((with_reducible refine And.intro (fun (hb : _ = true) => ?_) (fun (hb : _ = false) => ?_)) <;> replace hb := xnC hb <;> (try first | exact xfC | exact bff hb (by assumption) | exact bff (by assumption) hb)) | (with_reducible refine Both.mk ?_ ?_) | ((with_reducible refine And.intro ?_ ?_); focus exact xoC) | ((with_reducible refine Or.inl ⟨?_, ?_, ?_⟩); (focus rfl); focus exact xaC) | ((with_reducible refine xwB ?_ ?_); focus exact xaC) | ((with_reducible refine xwC ?_ ?_); focus exact xaC) | ((with_reducible refine xwD ?_ ?_); focus exact xaC) | ((with_reducible refine xwE ?_ ?_); focus exact xaC) | (with_reducible intro hc; (try simp only [capsP, and_true] at hc); (try exact xfC)) | ((fail_if_success (with_reducible first | refine xgon ?_ | intro _)); (conv => whnf); (fail_if_success (fail_if_success (with_reducible first | refine xstp ?_ | refine Both.mk ?_ ?_ | refine xgon ?_ | intro _)))))
        refine FinK.mk ⟨[0, 1], _, [.one .no, .one .no], rfl, ?_⟩
        (repeat' first | refine And.intro ?_ ?_ | exact xeC | fail)
        skip)
theorem cCut3 {N : Pg} {X : Nt} (hr : Rl N X) (hb : XB X) (c : Nat) (t a b : Int) : Ctr Try.prog 25 [.c (.p 0 0 0), .c (.i .i64 t), .c (.i .i64 a), .c (.i .i64 b)] [.one (pgC N c), .one (fltR true N.F c), .one .no]
    fun v h => v = .c (.b (decide ((okNd X.m a ∧ okNd X.m b ∧ a ≠ b) ∧ isCut X.F t a b = true))) ∧ h = [.one (pgC N c), .one (fltR true N.F c), .one .no] := by
  refine (cCut N c t a b (by rw [hr.F]; exact hb.F)).mono' ?_
  rintro v h' ⟨rfl, rfl⟩
  refine ⟨?_, rfl⟩
  rw [hr.m, hr.F]
  congr 2
  exact decide_eq_decide.2 (and_congr_right fun _ => (isCut_eq _ _ _ _).symm)
structure Opn where
  (kd at_ fr to : Int) (d : ByteArray)
instance : Inhabited Opn := ⟨⟨0, 0, 0, 0, ByteArray.empty⟩⟩
def encO (o : Opn) : List C := [.i .u8 o.kd, .i .i64 o.at_, .i .i64 o.fr, .i .i64 o.to, .s o.d]
abbrev opsR (l : List Opn) (c : Nat) : Ck := .row false false 50 5 l.length c (rowOf encO l)
abbrev pgC2 (N : Pg) (c p q : Nat) : Ck := .cells true [.i .i64 N.m, .i .i64 N.lat, .sl q 0 6 0 N.F.length c, .mp p 0, .i .i64 N.cnt, .i .i64 N.sent, .i .i64 N.now]
abbrev ntC2 (N : Nt) (c p q k : Nat) : Ck := .cells true [.i .i64 N.m, .i .i64 N.lat, .sl q 0 6 0 N.F.length c, .sl p 0 6 0 N.P.length k, .i .i64 N.cnt, .i .i64 N.last]
set_option maxRecDepth 20000 in
set_option maxHeartbeats 4000000 in
theorem cstep {N : Pg} {X : Nt} (hr : Rl N X) (hx : XB X) (hcn : X.cnt ≤ 100000) (c c2 k : Nat) (cs : Nat → Nat) (o : Opn) (ho : 0 ≤ o.kd ∧ o.kd ≤ 255) :
    Ctr Try.prog 16 [.c (.p 0 0 0), .c (.p 4 0 0), .a (encO o)] [.one (pgC2 N c 2 1), .one (fltR true N.F c), .one (mapN 3 N.M N.D cs N.ck), arrs N.D cs, .one (ntC2 X c2 6 5 k), .one (fltR true X.F c2), .one (arvR true X.P k)]
      fun v h => ∃ N' X' cs' k', Rl N' X' ∧ XB X' ∧ X'.cnt ≤ X.cnt + 1 ∧ v = .c .tt ∧ h = [.one (pgC2 N' c 7 1), .one (fltR true N'.F c), .one .no, .one .no, .one (ntC2 X' c2 9 5 k'), .one (fltR true X'.F c2), .one .no, .one (mapN 8 N'.M N'.D cs' N'.ck), arrs N'.D cs', .one (arvR true X'.P k')] := by
  refine Ctr.mk' tbv mixed Try.func16 rfl rfl rfl (fun _ _ => by kernel_rfl) (by kernel_rfl) (by rfl) (by rfl) (by (repeat' first | refine And.intro ?_ ?_ | exact xeC | fail) <;> exact fun x => lsG_bel) ?_
  repeat' (first | (fail_if_success (with_reducible refine xstp ?_)); first | ((with_reducible refine And.intro (fun (hb : _ = true) => ?_) (fun (hb : _ = false) => ?_)) <;> replace hb := xnC hb <;> (try first | exact xfC | exact bff hb (by assumption) | exact bff (by assumption) hb)) | (with_reducible refine Both.mk ?_ ?_) | ((with_reducible refine And.intro ?_ ?_); focus exact xoC) | ((with_reducible refine Or.inl ⟨?_, ?_, ?_⟩); (focus rfl); focus exact xaC) | ((with_reducible refine xwB ?_ ?_); focus exact xaC) | ((with_reducible refine xwC ?_ ?_); focus exact xaC) | ((with_reducible refine xwD ?_ ?_); focus exact xaC) | ((with_reducible refine xwE ?_ ?_); focus exact xaC) | (with_reducible intro hc; (try simp only [capsP, and_true] at hc); (try exact xfC)) | ((fail_if_success (with_reducible first | refine xgon ?_ | intro _)); (conv => whnf); (fail_if_success (fail_if_success (with_reducible first | refine xstp ?_ | refine Both.mk ?_ ?_ | refine xgon ?_ | intro _)))))
  · refine cH14aK2 (σ := [.whole 0, .name 1, .whole 2, .whole 3]) (nl := []) (cRecv3 hr hx c cs o.at_) ?_ (hle := by (repeat' first | refine And.intro ?_ ?_ | exact xeC | fail) <;> (first | exact fun x => lsG_le | exact fun x => lsG_bel | exact fun x => lsG_belR | skip))
    rintro v h' ⟨N', c1, hr', hF', rfl, rfl⟩ hcaps
    refine rH14aK1 ?_
    repeat' (first | (fail_if_success (with_reducible refine xstp ?_)); first | ((with_reducible refine And.intro (fun (hb : _ = true) => ?_) (fun (hb : _ = false) => ?_)) <;> replace hb := xnC hb <;> (try first | exact xfC | exact bff hb (by assumption) | exact bff (by assumption) hb)) | (with_reducible refine Both.mk ?_ ?_) | ((with_reducible refine And.intro ?_ ?_); focus exact xoC) | ((with_reducible refine Or.inl ⟨?_, ?_, ?_⟩); (focus rfl); focus exact xaC) | ((with_reducible refine xwB ?_ ?_); focus exact xaC) | ((with_reducible refine xwC ?_ ?_); focus exact xaC) | ((with_reducible refine xwD ?_ ?_); focus exact xaC) | ((with_reducible refine xwE ?_ ?_); focus exact xaC) | (with_reducible intro hc; (try simp only [capsP, and_true] at hc); (try exact xfC)) | ((fail_if_success (with_reducible first | refine xgon ?_ | intro _)); (conv => whnf); (fail_if_success (fail_if_success (with_reducible first | refine xstp ?_ | refine Both.mk ?_ ?_ | refine xgon ?_ | intro _)))))
    refine cH14aK2 (σ := [.whole 4, .whole 5, .whole 6]) (nl := []) (cRecvR X c2 k o.at_ (by have := hx.P; omega)) ?_ (hle := by (repeat' first | refine And.intro ?_ ?_ | exact xeC | fail) <;> (first | exact fun x => lsG_le | exact fun x => lsG_bel | exact fun x => lsG_belR | skip))
    rintro v h' ⟨c3, c4, rfl, rfl⟩ hcaps
    refine rH14aK1 ?_
    repeat' (first | (fail_if_success (with_reducible refine xstp ?_)); first | ((with_reducible refine And.intro (fun (hb : _ = true) => ?_) (fun (hb : _ = false) => ?_)) <;> replace hb := xnC hb <;> (try first | exact xfC | exact bff hb (by assumption) | exact bff (by assumption) hb)) | (with_reducible refine Both.mk ?_ ?_) | ((with_reducible refine And.intro ?_ ?_); focus exact xoC) | ((with_reducible refine Or.inl ⟨?_, ?_, ?_⟩); (focus rfl); focus exact xaC) | ((with_reducible refine xwB ?_ ?_); focus exact xaC) | ((with_reducible refine xwC ?_ ?_); focus exact xaC) | ((with_reducible refine xwD ?_ ?_); focus exact xaC) | ((with_reducible refine xwE ?_ ?_); focus exact xaC) | (with_reducible intro hc; (try simp only [capsP, and_true] at hc); (try exact xfC)) | ((fail_if_success (with_reducible first | refine xgon ?_ | intro _)); (conv => whnf); (fail_if_success (fail_if_success (with_reducible first | refine xstp ?_ | refine Both.mk ?_ ?_ | refine xgon ?_ | intro _)))))
    refine cH14aK2 (σ := [.whole 8, .whole 9]) (nl := []) (cSame (rcvP o.at_ X.P) c1 c3 (by have := List.length_filter_le (fun a : Arv => decide (a.at_ ≤ o.at_)) X.P; have := hx.P; unfold rcvP; omega)) ?_ (hle := by (repeat' first | refine And.intro ?_ ?_ | exact xeC | fail) <;> (first | exact fun x => lsG_le | exact fun x => lsG_bel | exact fun x => lsG_belR | skip))
    rintro v h' ⟨rfl, rfl⟩ hcaps
    refine rH14aK1 ?_
    repeat' (first | (fail_if_success (with_reducible refine xstp ?_)); first | ((with_reducible refine And.intro (fun (hb : _ = true) => ?_) (fun (hb : _ = false) => ?_)) <;> replace hb := xnC hb <;> (try first | exact xfC | exact bff hb (by assumption) | exact bff (by assumption) hb)) | (with_reducible refine Both.mk ?_ ?_) | ((with_reducible refine And.intro ?_ ?_); focus exact xoC) | ((with_reducible refine Or.inl ⟨?_, ?_, ?_⟩); (focus rfl); focus exact xaC) | ((with_reducible refine xwB ?_ ?_); focus exact xaC) | ((with_reducible refine xwC ?_ ?_); focus exact xaC) | ((with_reducible refine xwD ?_ ?_); focus exact xaC) | ((with_reducible refine xwE ?_ ?_); focus exact xaC) | (with_reducible intro hc; (try simp only [capsP, and_true] at hc); (try exact xfC)) | ((fail_if_success (with_reducible first | refine xgon ?_ | intro _)); (conv => whnf); (fail_if_success (fail_if_success (with_reducible first | refine xstp ?_ | refine Both.mk ?_ ?_ | refine xgon ?_ | intro _)))))
    rw [← hF']
    refine FinK.mk ⟨[0, 1, 2, 3, 4, 5, 6, 2, 3, 10], _, _, ⟨N', rcv X o.at_, cs, c4, hr', hx.rcv _, by show X.cnt ≤ _; omega, rfl, rfl⟩, ?_⟩
    (repeat' first | refine And.intro ?_ ?_ | exact xeC | fail)
    all_goals (first | exact fun x => lsG_le | exact fun x => lsG_bel | exact fun x => lsG_belR | skip)
  · refine cH14aK2 (σ := [.whole 0, .name 1, .whole 2, .name 3]) (nl := []) (cNext3 hr c cs) ?_ (hle := by (repeat' first | refine And.intro ?_ ?_ | exact xeC | fail) <;> (first | exact fun x => lsG_le | exact fun x => lsG_bel | exact fun x => lsG_belR | skip))
    rintro v h' ⟨⟨b, hb2, rfl⟩, rfl⟩ hcaps
    refine rH14aK1 ?_
    repeat' (first | (fail_if_success (with_reducible refine xstp ?_)); first | ((with_reducible refine And.intro (fun (hb : _ = true) => ?_) (fun (hb : _ = false) => ?_)) <;> replace hb := xnC hb <;> (try first | exact xfC | exact bff hb (by assumption) | exact bff (by assumption) hb)) | (with_reducible refine Both.mk ?_ ?_) | ((with_reducible refine And.intro ?_ ?_); focus exact xoC) | ((with_reducible refine Or.inl ⟨?_, ?_, ?_⟩); (focus rfl); focus exact xaC) | ((with_reducible refine xwB ?_ ?_); focus exact xaC) | ((with_reducible refine xwC ?_ ?_); focus exact xaC) | ((with_reducible refine xwD ?_ ?_); focus exact xaC) | ((with_reducible refine xwE ?_ ?_); focus exact xaC) | (with_reducible intro hc; (try simp only [capsP, and_true] at hc); (try exact xfC)) | ((fail_if_success (with_reducible first | refine xgon ?_ | intro _)); (conv => whnf); (fail_if_success (fail_if_success (with_reducible first | refine xstp ?_ | refine Both.mk ?_ ?_ | refine xgon ?_ | intro _)))))
    refine cH14aK2 (σ := [.whole 4, .whole 5, .whole 6]) (nl := []) (cNextR X c2 k) ?_ (hle := by (repeat' first | refine And.intro ?_ ?_ | exact xeC | fail) <;> (first | exact fun x => lsG_le | exact fun x => lsG_bel | exact fun x => lsG_belR | skip))
    have hv : (if X.P.length = 0 then T.t [.c (.i .i64 0), .c .ff] else .t [.c (.i .i64 (X.P.getD 0 default).at_), .c .tt]) = (if X.P.length = 0 then T.t [.c (.i .i64 0), .c .ff] else .t [.c (.i .i64 (X.P.getD 0 default).at_), .c .tt]) := rfl
    by_cases h0 : X.P.length = 0
    · rw [if_pos h0]
      rw [decide_eq_true h0] at hb2
      subst hb2
      rintro v h' ⟨rfl, rfl⟩ hcaps
      refine rH14aK1 ?_
      repeat' (first | (fail_if_success (with_reducible refine xstp ?_)); first | ((with_reducible refine And.intro (fun (hb : _ = true) => ?_) (fun (hb : _ = false) => ?_)) <;> replace hb := xnC hb <;> (try first | exact xfC | exact bff hb (by assumption) | exact bff (by assumption) hb)) | (with_reducible refine Both.mk ?_ ?_) | ((with_reducible refine And.intro ?_ ?_); focus exact xoC) | ((with_reducible refine Or.inl ⟨?_, ?_, ?_⟩); (focus rfl); focus exact xaC) | ((with_reducible refine xwB ?_ ?_); focus exact xaC) | ((with_reducible refine xwC ?_ ?_); focus exact xaC) | ((with_reducible refine xwD ?_ ?_); focus exact xaC) | ((with_reducible refine xwE ?_ ?_); focus exact xaC) | (with_reducible intro hc; (try simp only [capsP, and_true] at hc); (try exact xfC)) | ((fail_if_success (with_reducible first | refine xgon ?_ | intro _)); (conv => whnf); (fail_if_success (fail_if_success (with_reducible first | refine xstp ?_ | refine Both.mk ?_ ?_ | refine xgon ?_ | intro _)))))
      · rw [if_pos h0] at hb
        first
        | (exact absurd rfl hb)
        | (refine FinK.mk ⟨[0, 1, 2, 3, 4, 5, 6, 2, 3, 6], _, _, ⟨N, X, cs, k, hr, hx, by omega, rfl, rfl⟩, ?_⟩
           (repeat' first | refine And.intro ?_ ?_ | exact xeC | fail)
           all_goals first | (first | exact fun x => lsG_le | exact fun x => lsG_bel | exact fun x => lsG_belR | skip) | rfl)
      all_goals (rw [if_pos h0] at hb; exact absurd rfl hb)
    · rw [if_neg h0]
      rw [decide_eq_false h0] at hb2
      subst hb2
      rintro v h' ⟨rfl, rfl⟩ hcaps
      refine rH14aK1 ?_
      repeat' (first | (fail_if_success (with_reducible refine xstp ?_)); first | ((with_reducible refine And.intro (fun (hb : _ = true) => ?_) (fun (hb : _ = false) => ?_)) <;> replace hb := xnC hb <;> (try first | exact xfC | exact bff hb (by assumption) | exact bff (by assumption) hb)) | (with_reducible refine Both.mk ?_ ?_) | ((with_reducible refine And.intro ?_ ?_); focus exact xoC) | ((with_reducible refine Or.inl ⟨?_, ?_, ?_⟩); (focus rfl); focus exact xaC) | ((with_reducible refine xwB ?_ ?_); focus exact xaC) | ((with_reducible refine xwC ?_ ?_); focus exact xaC) | ((with_reducible refine xwD ?_ ?_); focus exact xaC) | ((with_reducible refine xwE ?_ ?_); focus exact xaC) | (with_reducible intro hc; (try simp only [capsP, and_true] at hc); (try exact xfC)) | ((fail_if_success (with_reducible first | refine xgon ?_ | intro _)); (conv => whnf); (fail_if_success (fail_if_success (with_reducible first | refine xstp ?_ | refine Both.mk ?_ ?_ | refine xgon ?_ | intro _)))))
      · rw [if_neg h0] at hb
        first
        | (exact absurd rfl hb)
        | (refine FinK.mk ⟨[0, 1, 2, 3, 4, 5, 6, 2, 3, 6], _, _, ⟨N, X, cs, k, hr, hx, by omega, rfl, rfl⟩, ?_⟩
           (repeat' first | refine And.intro ?_ ?_ | exact xeC | fail)
           all_goals first | (first | exact fun x => lsG_le | exact fun x => lsG_bel | exact fun x => lsG_belR | skip) | rfl)
      all_goals (rw [if_neg h0] at hb; exact absurd rfl hb)
  · refine cH14aK2 (σ := [.whole 0, .whole 1, .name 2]) (nl := []) (cCut3 hr hx c o.at_ o.fr o.to) ?_ (hle := by (repeat' first | refine And.intro ?_ ?_ | exact xeC | fail) <;> (first | exact fun x => lsG_le | exact fun x => lsG_bel | exact fun x => lsG_belR | skip))
    rintro v h' ⟨rfl, rfl⟩ hcaps
    refine rH14aK1 ?_
    repeat' (first | (fail_if_success (with_reducible refine xstp ?_)); first | ((with_reducible refine And.intro (fun (hb : _ = true) => ?_) (fun (hb : _ = false) => ?_)) <;> replace hb := xnC hb <;> (try first | exact xfC | exact bff hb (by assumption) | exact bff (by assumption) hb)) | (with_reducible refine Both.mk ?_ ?_) | ((with_reducible refine And.intro ?_ ?_); focus exact xoC) | ((with_reducible refine Or.inl ⟨?_, ?_, ?_⟩); (focus rfl); focus exact xaC) | ((with_reducible refine xwB ?_ ?_); focus exact xaC) | ((with_reducible refine xwC ?_ ?_); focus exact xaC) | ((with_reducible refine xwD ?_ ?_); focus exact xaC) | ((with_reducible refine xwE ?_ ?_); focus exact xaC) | (with_reducible intro hc; (try simp only [capsP, and_true] at hc); (try exact xfC)) | ((fail_if_success (with_reducible first | refine xgon ?_ | intro _)); (conv => whnf); (fail_if_success (fail_if_success (with_reducible first | refine xstp ?_ | refine Both.mk ?_ ?_ | refine xgon ?_ | intro _)))))
    refine cH14aK2 (σ := [.whole 4, .whole 5, .name 6]) (nl := []) (cCutR X c2 k o.at_ o.fr o.to hx.F) ?_ (hle := by (repeat' first | refine And.intro ?_ ?_ | exact xeC | fail) <;> (first | exact fun x => lsG_le | exact fun x => lsG_bel | exact fun x => lsG_belR | skip))
    rintro v h' ⟨rfl, rfl⟩ hcaps
    refine rH14aK1 ?_
    repeat' (first | (fail_if_success (with_reducible refine xstp ?_)); first | ((with_reducible refine And.intro (fun (hb : _ = true) => ?_) (fun (hb : _ = false) => ?_)) <;> replace hb := xnC hb <;> (try first | exact xfC | exact bff hb (by assumption) | exact bff (by assumption) hb)) | (with_reducible refine Both.mk ?_ ?_) | ((with_reducible refine And.intro ?_ ?_); focus exact xoC) | ((with_reducible refine Or.inl ⟨?_, ?_, ?_⟩); (focus rfl); focus exact xaC) | ((with_reducible refine xwB ?_ ?_); focus exact xaC) | ((with_reducible refine xwC ?_ ?_); focus exact xaC) | ((with_reducible refine xwD ?_ ?_); focus exact xaC) | ((with_reducible refine xwE ?_ ?_); focus exact xaC) | (with_reducible intro hc; (try simp only [capsP, and_true] at hc); (try exact xfC)) | ((fail_if_success (with_reducible first | refine xgon ?_ | intro _)); (conv => whnf); (fail_if_success (fail_if_success (with_reducible first | refine xstp ?_ | refine Both.mk ?_ ?_ | refine xgon ?_ | intro _)))))
    refine FinK.mk ⟨[0, 1, 2, 3, 4, 5, 6, 2, 3, 6], _, _, ⟨N, X, cs, k, hr, hx, by omega, rfl, rfl⟩, ?_⟩
    (repeat' first | refine And.intro ?_ ?_ | exact xeC | fail)
    all_goals first | exact beq_self_eq_true _ | (first | exact fun x => lsG_le | exact fun x => lsG_bel | exact fun x => lsG_belR | skip)
  · by_cases hu : 0 ≤ o.fr ∧ o.fr < N.m
    · refine cH14aK2 (σ := [.whole 0, .name 1, .whole 2, .whole 3]) (nl := []) (cClear N c cs o.fr hr.c.I (by have := hr.cntb hx; omega) hu) ?_ (hle := by (repeat' first | refine And.intro ?_ ?_ | exact xeC | fail) <;> (first | exact fun x => lsG_le | exact fun x => lsG_bel | exact fun x => lsG_belR | skip))
      rintro v h' ⟨M', ck', cs', Q, rfl, rfl, hO, hQ, hall⟩ hcaps
      refine rH14aK1 ?_
      repeat' (first | (fail_if_success (with_reducible refine xstp ?_)); first | ((with_reducible refine And.intro (fun (hb : _ = true) => ?_) (fun (hb : _ = false) => ?_)) <;> replace hb := xnC hb <;> (try first | exact xfC | exact bff hb (by assumption) | exact bff (by assumption) hb)) | (with_reducible refine Both.mk ?_ ?_) | ((with_reducible refine And.intro ?_ ?_); focus exact xoC) | ((with_reducible refine Or.inl ⟨?_, ?_, ?_⟩); (focus rfl); focus exact xaC) | ((with_reducible refine xwB ?_ ?_); focus exact xaC) | ((with_reducible refine xwC ?_ ?_); focus exact xaC) | ((with_reducible refine xwD ?_ ?_); focus exact xaC) | ((with_reducible refine xwE ?_ ?_); focus exact xaC) | (with_reducible intro hc; (try simp only [capsP, and_true] at hc); (try exact xfC)) | ((fail_if_success (with_reducible first | refine xgon ?_ | intro _)); (conv => whnf); (fail_if_success (fail_if_success (with_reducible first | refine xstp ?_ | refine Both.mk ?_ ?_ | refine xgon ?_ | intro _)))))
      refine cH14aK2 (σ := [.whole 4, .whole 5, .whole 6]) (nl := []) (cClearR X c2 k o.fr (by have := hx.P; omega)) ?_ (hle := by (repeat' first | refine And.intro ?_ ?_ | exact xeC | fail) <;> (first | exact fun x => lsG_le | exact fun x => lsG_bel | exact fun x => lsG_belR | skip))
      rintro v h' ⟨c3, rfl, rfl⟩ hcaps
      refine rH14aK1 ?_
      repeat' (first | (fail_if_success (with_reducible refine xstp ?_)); first | ((with_reducible refine And.intro (fun (hb : _ = true) => ?_) (fun (hb : _ = false) => ?_)) <;> replace hb := xnC hb <;> (try first | exact xfC | exact bff hb (by assumption) | exact bff (by assumption) hb)) | (with_reducible refine Both.mk ?_ ?_) | ((with_reducible refine And.intro ?_ ?_); focus exact xoC) | ((with_reducible refine Or.inl ⟨?_, ?_, ?_⟩); (focus rfl); focus exact xaC) | ((with_reducible refine xwB ?_ ?_); focus exact xaC) | ((with_reducible refine xwC ?_ ?_); focus exact xaC) | ((with_reducible refine xwD ?_ ?_); focus exact xaC) | ((with_reducible refine xwE ?_ ?_); focus exact xaC) | (with_reducible intro hc; (try simp only [capsP, and_true] at hc); (try exact xfC)) | ((fail_if_success (with_reducible first | refine xgon ?_ | intro _)); (conv => whnf); (fail_if_success (fail_if_success (with_reducible first | refine xstp ?_ | refine Both.mk ?_ ?_ | refine xgon ?_ | intro _)))))
      refine FinK.mk ⟨[0, 1, 2, 3, 4, 5, 6, 8, 9, 10], _, _, ⟨_, clr X o.fr, cs', c3, hr.clear hQ hall hO, hx.clr _, by show X.cnt ≤ _; omega, rfl, rfl⟩, ?_⟩
      (repeat' first | refine And.intro ?_ ?_ | exact xeC | fail)
      all_goals (first | exact fun x => lsG_le | exact fun x => lsG_bel | exact fun x => lsG_belR | skip)
    · refine cH14aK2 (σ := [.whole 0, .name 1, .name 2]) (nl := []) (cClearN N c o.fr hu) ?_ (hle := by (repeat' first | refine And.intro ?_ ?_ | exact xeC | fail) <;> (first | exact fun x => lsG_le | exact fun x => lsG_bel | exact fun x => lsG_belR | skip))
      rintro v h' ⟨rfl, rfl⟩ hcaps
      refine rH14aK1 ?_
      repeat' (first | (fail_if_success (with_reducible refine xstp ?_)); first | ((with_reducible refine And.intro (fun (hb : _ = true) => ?_) (fun (hb : _ = false) => ?_)) <;> replace hb := xnC hb <;> (try first | exact xfC | exact bff hb (by assumption) | exact bff (by assumption) hb)) | (with_reducible refine Both.mk ?_ ?_) | ((with_reducible refine And.intro ?_ ?_); focus exact xoC) | ((with_reducible refine Or.inl ⟨?_, ?_, ?_⟩); (focus rfl); focus exact xaC) | ((with_reducible refine xwB ?_ ?_); focus exact xaC) | ((with_reducible refine xwC ?_ ?_); focus exact xaC) | ((with_reducible refine xwD ?_ ?_); focus exact xaC) | ((with_reducible refine xwE ?_ ?_); focus exact xaC) | (with_reducible intro hc; (try simp only [capsP, and_true] at hc); (try exact xfC)) | ((fail_if_success (with_reducible first | refine xgon ?_ | intro _)); (conv => whnf); (fail_if_success (fail_if_success (with_reducible first | refine xstp ?_ | refine Both.mk ?_ ?_ | refine xgon ?_ | intro _)))))
      refine cH14aK2 (σ := [.whole 4, .whole 5, .whole 6]) (nl := []) (cClearR X c2 k o.fr (by have := hx.P; omega)) ?_ (hle := by (repeat' first | refine And.intro ?_ ?_ | exact xeC | fail) <;> (first | exact fun x => lsG_le | exact fun x => lsG_bel | exact fun x => lsG_belR | skip))
      rw [hr.clear_no (by rw [← hr.m]; exact hu)]
      rintro v h' ⟨c3, rfl, rfl⟩ hcaps
      refine rH14aK1 ?_
      repeat' (first | (fail_if_success (with_reducible refine xstp ?_)); first | ((with_reducible refine And.intro (fun (hb : _ = true) => ?_) (fun (hb : _ = false) => ?_)) <;> replace hb := xnC hb <;> (try first | exact xfC | exact bff hb (by assumption) | exact bff (by assumption) hb)) | (with_reducible refine Both.mk ?_ ?_) | ((with_reducible refine And.intro ?_ ?_); focus exact xoC) | ((with_reducible refine Or.inl ⟨?_, ?_, ?_⟩); (focus rfl); focus exact xaC) | ((with_reducible refine xwB ?_ ?_); focus exact xaC) | ((with_reducible refine xwC ?_ ?_); focus exact xaC) | ((with_reducible refine xwD ?_ ?_); focus exact xaC) | ((with_reducible refine xwE ?_ ?_); focus exact xaC) | (with_reducible intro hc; (try simp only [capsP, and_true] at hc); (try exact xfC)) | ((fail_if_success (with_reducible first | refine xgon ?_ | intro _)); (conv => whnf); (fail_if_success (fail_if_success (with_reducible first | refine xstp ?_ | refine Both.mk ?_ ?_ | refine xgon ?_ | intro _)))))
      refine FinK.mk ⟨[0, 1, 2, 3, 4, 5, 6, 2, 3, 8], _, _, ⟨N, X, cs, c3, hr, hx, by omega, rfl, rfl⟩, ?_⟩
      (repeat' first | refine And.intro ?_ ?_ | exact xeC | fail)
      all_goals (first | exact fun x => lsG_le | exact fun x => lsG_bel | exact fun x => lsG_belR | skip)
  · refine cH14aK2 (σ := [.whole 0, .whole 1, .whole 2, .whole 3]) (nl := []) (cSend3 hr hx (by omega) c cs o.at_ o.fr o.to o.d) ?_ (hle := by (repeat' first | refine And.intro ?_ ?_ | exact xeC | fail) <;> (first | exact fun x => lsG_le | exact fun x => lsG_bel | exact fun x => lsG_belR | skip))
    rintro v h' ⟨N', cs', hr', rfl, rfl⟩ hcaps
    refine rH14aK1 ?_
    repeat' (first | (fail_if_success (with_reducible refine xstp ?_)); first | ((with_reducible refine And.intro (fun (hb : _ = true) => ?_) (fun (hb : _ = false) => ?_)) <;> replace hb := xnC hb <;> (try first | exact xfC | exact bff hb (by assumption) | exact bff (by assumption) hb)) | (with_reducible refine Both.mk ?_ ?_) | ((with_reducible refine And.intro ?_ ?_); focus exact xoC) | ((with_reducible refine Or.inl ⟨?_, ?_, ?_⟩); (focus rfl); focus exact xaC) | ((with_reducible refine xwB ?_ ?_); focus exact xaC) | ((with_reducible refine xwC ?_ ?_); focus exact xaC) | ((with_reducible refine xwD ?_ ?_); focus exact xaC) | ((with_reducible refine xwE ?_ ?_); focus exact xaC) | (with_reducible intro hc; (try simp only [capsP, and_true] at hc); (try exact xfC)) | ((fail_if_success (with_reducible first | refine xgon ?_ | intro _)); (conv => whnf); (fail_if_success (fail_if_success (with_reducible first | refine xstp ?_ | refine Both.mk ?_ ?_ | refine xgon ?_ | intro _)))))
    refine cH14aK2 (σ := [.whole 4, .whole 5, .whole 6]) (nl := []) (cSendR X c2 k o.at_ o.fr o.to o.d hx.F hx.lat hx.ex ⟨hx.cnt, by omega⟩ (by have := hx.P; omega)) ?_ (hle := by (repeat' first | refine And.intro ?_ ?_ | exact xeC | fail) <;> (first | exact fun x => lsG_le | exact fun x => lsG_bel | exact fun x => lsG_belR | skip))
    rintro v h' ⟨k', rfl, rfl⟩ hcaps
    refine rH14aK1 ?_
    repeat' (first | (fail_if_success (with_reducible refine xstp ?_)); first | ((with_reducible refine And.intro (fun (hb : _ = true) => ?_) (fun (hb : _ = false) => ?_)) <;> replace hb := xnC hb <;> (try first | exact xfC | exact bff hb (by assumption) | exact bff (by assumption) hb)) | (with_reducible refine Both.mk ?_ ?_) | ((with_reducible refine And.intro ?_ ?_); focus exact xoC) | ((with_reducible refine Or.inl ⟨?_, ?_, ?_⟩); (focus rfl); focus exact xaC) | ((with_reducible refine xwB ?_ ?_); focus exact xaC) | ((with_reducible refine xwC ?_ ?_); focus exact xaC) | ((with_reducible refine xwD ?_ ?_); focus exact xaC) | ((with_reducible refine xwE ?_ ?_); focus exact xaC) | (with_reducible intro hc; (try simp only [capsP, and_true] at hc); (try exact xfC)) | ((fail_if_success (with_reducible first | refine xgon ?_ | intro _)); (conv => whnf); (fail_if_success (fail_if_success (with_reducible first | refine xstp ?_ | refine Both.mk ?_ ?_ | refine xgon ?_ | intro _)))))
    refine FinK.mk ⟨[0, 1, 2, 3, 4, 5, 6, 2, 8, 9], _, _, ⟨N', snd X o.at_ o.fr o.to o.d, cs', k', hr', hx.snd _ _ _ _, by rw [snd_cnt]; split <;> omega, rfl, rfl⟩, ?_⟩
    have hF3 := (snd_F X o.at_ o.fr o.to o.d).1
    (repeat' first | refine And.intro ?_ ?_ | exact xeC | fail)
    all_goals first
      | exact fun x => lsG_le
      | exact fun x => lsG_bel
      | exact fun x => lsG_belR
      | exact Nat.le_of_eq (congrArg List.length hF3)
      | exact Nat.le_of_eq (congrArg List.length hF3).symm
      | exact (congrArg List.length hF3).symm
      | exact decide_eq_true rfl
      | (rw [hF3]; done)
      | (intro i hi; rw [hF3]; done)
end Go.Proofs.Ytnjakmpddghhjaa

namespace Go.Proofs.Ytnjakmpddghhjaa
open Go.X
set_option linter.unusedSimpArgs false
set_option linter.unusedVariables false
theorem newE_zero {m lat : Int} {F : List Flt} (h : newE m lat F = 0) : ((1 ≤ m ∧ m ≤ 8) ∧ (0 ≤ lat ∧ lat ≤ 1099511627776)) ∧ F.length ≤ 64 ∧ ∀ f ∈ F, okF m f := by
  by_cases h1 : (1 ≤ m ∧ m ≤ 8) ∧ (0 ≤ lat ∧ lat ≤ 1099511627776)
  · by_cases h2 : 64 < F.length
    · rw [newE_long h1 h2] at h; cases h
    · refine ⟨h1, by omega, ?_⟩
      by_cases h3 : ∀ f ∈ F, okF m f
      · exact h3
      · unfold newE at h
        rw [if_neg (not_not_intro h1), if_neg h2, if_neg h3] at h
        cases h
  · rw [newE_no h1] at h; cases h
theorem xb0 {m lat : Int} {F : List Flt} (h : newE m lat F = 0) : XB (X0 m lat F) := by
  obtain ⟨h1, h2, h3⟩ := newE_zero h
  refine ⟨h2, h1.2, fun f hf => ?_, Nat.zero_le _, Int.le_refl _⟩
  have := h3 f hf
  unfold okF at this
  omega
theorem rH14aL0 {σ : List Sg} {H h' : List Fam} {v : T} {K : T → List Fam → Prop} {H' : List Fam} {v' : T} {N : Nat} (hk : K v' H') (hN : H.length = N := by (try simp only [↓List.length_cons, ↓List.length_nil, Nat.reduceAdd]) <;> rfl) (h : givesF σ N H σ h' = some H' := by (try simp (maxSteps := 1000000) only [givesF, setF, updF, Fam.zeroth, Fam.rk, Ck.rk, C.rk, E.rk, T.rk, key, List.map_cons, List.map_nil, List.cons_append, List.nil_append, List.length_cons, List.length_nil, Option.map_some, Option.bind_some, Nat.reduceAdd, Nat.zero_add, Nat.add_zero, Nat.add_sub_cancel_left, Int.toNat_natCast, reps, List.all_cons, List.all_nil, C.flat, List.append_eq, Bool.not_true, Bool.and_true, Bool.or_false, Bool.or_self, Bool.not_false, List.append_nil, Bool.and_self, ↓lsG_rk, encF]) <;> rfl) (hv : v.rk σ N = v' := by (try simp only [givesF, setF, updF, Fam.zeroth, Fam.rk, Ck.rk, C.rk, E.rk, T.rk, key, List.map_cons, List.map_nil, List.cons_append, List.nil_append, List.length_cons, List.length_nil, Option.map_some, Option.bind_some, Nat.reduceAdd, Nat.zero_add, Nat.add_zero, Nat.add_sub_cancel_left, Int.toNat_natCast, reps, List.all_cons, List.all_nil, C.flat, List.append_eq, Bool.not_true, Bool.and_true, Bool.or_false, Bool.or_self, Bool.not_false, List.append_nil, Bool.and_self, ↓lsG_rk, encF]) <;> rfl) : RetG σ H h' v K := ret_mk3 hN h hv hk
theorem rH14aL1 {σ : List Sg} {H h' : List Fam} {v : T} {K : T → List Fam → Prop} {H' : List Fam} {v' : T} {N : Nat} (hk : K v' H') (hN : H.length = N := by (try simp only [↓List.length_cons, ↓List.length_nil, Nat.reduceAdd]) <;> rfl) (h : givesF σ N H σ h' = some H' := by (try simp (maxSteps := 1000000) only [givesF, setF, updF, Fam.zeroth, Fam.rk, Ck.rk, C.rk, E.rk, T.rk, key, List.map_cons, List.map_nil, List.cons_append, List.nil_append, List.length_cons, List.length_nil, Option.map_some, Option.bind_some, Nat.reduceAdd, Nat.zero_add, Nat.add_zero, Nat.add_sub_cancel_left, Int.toNat_natCast, reps, List.all_cons, List.all_nil, C.flat, List.append_eq, Bool.not_true, Bool.and_true, Bool.or_false, Bool.or_self, Bool.not_false, List.append_nil, Bool.and_self, ↓lsG_rk]) <;> rfl) (hv : v.rk σ N = v' := by (try simp only [givesF, setF, updF, Fam.zeroth, Fam.rk, Ck.rk, C.rk, E.rk, T.rk, key, List.map_cons, List.map_nil, List.cons_append, List.nil_append, List.length_cons, List.length_nil, Option.map_some, Option.bind_some, Nat.reduceAdd, Nat.zero_add, Nat.add_zero, Nat.add_sub_cancel_left, Int.toNat_natCast, reps, List.all_cons, List.all_nil, C.flat, List.append_eq, Bool.not_true, Bool.and_true, Bool.or_false, Bool.or_self, Bool.not_false, List.append_nil, Bool.and_self, ↓lsG_rk]) <;> rfl) : RetG σ H h' v K := ret_mk3 hN h hv hk
theorem cH14aL2 {P : Program} {F : Nat} {args : List T} {H : List Fam} {K : T → List Fam → Prop} {σ : List Sg} {nl : List Fam} {args0 : List T} {h0 : List Fam} {Q : T → List Fam → Prop} {H2 H1 : List Fam} {N n : Nat} (hc : Ctr P F args0 h0 Q) (hk : ∀ v h', Q v h' → capsP h' → RetG σ H2 h' v K) (hap : apart σ = true := by rfl) (hnl : nl.all nilB = true := by rfl) (h1 : H ++ nl = H1 := by first | exact List.append_nil _ | ((try simp only [List.cons_append, List.nil_append]) <;> rfl)) (hN : H1.length = N := by (try simp only [↓List.length_cons, ↓List.length_nil, Nat.reduceAdd]) <;> rfl) (hn : H.length = n := by (try simp only [↓List.length_cons, ↓List.length_nil, Nat.reduceAdd]) <;> rfl) (hH : givesF σ N H1 σ h0 = some H2 := by (try simp (maxSteps := 1000000) only [givesF, setF, updF, Fam.zeroth, Fam.rk, Ck.rk, C.rk, E.rk, T.rk, key, List.map_cons, List.map_nil, List.cons_append, List.nil_append, List.length_cons, List.length_nil, Option.map_some, Option.bind_some, Nat.reduceAdd, Nat.zero_add, Nat.add_zero, Nat.add_sub_cancel_left, Int.toNat_natCast, reps, List.all_cons, List.all_nil, C.flat, List.append_eq, Bool.not_true, Bool.and_true, Bool.or_false, Bool.or_self, Bool.not_false, List.append_nil, Bool.and_self, ↓lsG_rk]) <;> rfl) (hle : leS n H1 σ N σ h0 (belsK N (h0.map (Fam.rk σ N)) (argsK n args (args0.map (T.rk σ N)) True)) := by repeat' first | refine And.intro ?_ ?_ | exact xeC | fail) : CallK P F args H K := CallK.mk3 hc hap hnl h1 hN hn hH hle hk
set_option maxRecDepth 20000 in
set_option maxHeartbeats 4000000 in
theorem cplays (m lat : Int) (F : List Flt) (O : List Opn) (cF cO : Nat) (hF : F.length ≤ 9223372036854775807) (hO : ∀ o ∈ O, 0 ≤ o.kd ∧ o.kd ≤ 255) :
    Ctr Try.prog 7 [.a (encSu m lat F.length cF O.length cO)] [.one (fltR false F cF), .one (opsR O cO)] fun v _ => v = .c .tt := by
  refine Ctr.mk' tbv mixed Try.func7 rfl rfl rfl (fun _ _ => by kernel_rfl) (by kernel_rfl) (by rfl) (by rfl) (by (repeat' first | refine And.intro ?_ ?_ | exact xeC | fail)) ?_
  repeat' (first | (fail_if_success (with_reducible refine xstp ?_)); first | ((with_reducible refine And.intro (fun (hb : _ = true) => ?_) (fun (hb : _ = false) => ?_)) <;> replace hb := xnC hb <;> (try first | exact xfC | exact bff hb (by assumption) | exact bff (by assumption) hb)) | (with_reducible refine Both.mk ?_ ?_) | ((with_reducible refine And.intro ?_ ?_); focus exact xoC) | ((with_reducible refine Or.inl ⟨?_, ?_, ?_⟩); (focus rfl); focus exact xaC) | ((with_reducible refine xwB ?_ ?_); focus exact xaC) | ((with_reducible refine xwC ?_ ?_); focus exact xaC) | ((with_reducible refine xwD ?_ ?_); focus exact xaC) | ((with_reducible refine xwE ?_ ?_); focus exact xaC) | (with_reducible intro hc; (try simp only [capsP, and_true] at hc); (try exact xfC)) | ((fail_if_success (with_reducible first | refine xgon ?_ | intro _)); (conv => whnf); (fail_if_success (fail_if_success (with_reducible first | refine xstp ?_ | refine Both.mk ?_ ?_ | refine xgon ?_ | intro _)))))
  refine cH14aL2 (σ := [.whole 0]) (nl := []) (cNew m lat F cF false hF) ?_
  rintro v h' (⟨h1, rfl, rfl⟩ | ⟨h1, c1, rfl, rfl⟩) hcaps
  · refine rH14aL0 ?_
    repeat' (first | (fail_if_success (with_reducible refine xstp ?_)); first | ((with_reducible refine And.intro (fun (hb : _ = true) => ?_) (fun (hb : _ = false) => ?_)) <;> replace hb := xnC hb <;> (try first | exact xfC | exact bff hb (by assumption) | exact bff (by assumption) hb)) | (with_reducible refine Both.mk ?_ ?_) | ((with_reducible refine And.intro ?_ ?_); focus exact xoC) | ((with_reducible refine Or.inl ⟨?_, ?_, ?_⟩); (focus rfl); focus exact xaC) | ((with_reducible refine xwB ?_ ?_); focus exact xaC) | ((with_reducible refine xwC ?_ ?_); focus exact xaC) | ((with_reducible refine xwD ?_ ?_); focus exact xaC) | ((with_reducible refine xwE ?_ ?_); focus exact xaC) | (with_reducible intro hc; (try simp only [capsP, and_true] at hc); (try exact xfC)) | ((fail_if_success (with_reducible first | refine xgon ?_ | intro _)); (conv => whnf); (fail_if_success (fail_if_success (with_reducible first | refine xstp ?_ | refine Both.mk ?_ ?_ | refine xgon ?_ | intro _)))))
    refine cH14aL2 (σ := [.whole 0]) (nl := []) (cNewR m lat F cF false hF) ?_
    rintro v h' (⟨h2, rfl, rfl⟩ | ⟨h2, c2, rfl, rfl⟩) hcaps
    · refine rH14aL0 ?_
      repeat' (first | (fail_if_success (with_reducible refine xstp ?_)); first | ((with_reducible refine And.intro (fun (hb : _ = true) => ?_) (fun (hb : _ = false) => ?_)) <;> replace hb := xnC hb <;> (try first | exact xfC | exact bff hb (by assumption) | exact bff (by assumption) hb)) | (with_reducible refine Both.mk ?_ ?_) | ((with_reducible refine And.intro ?_ ?_); focus exact xoC) | ((with_reducible refine Or.inl ⟨?_, ?_, ?_⟩); (focus rfl); focus exact xaC) | ((with_reducible refine xwB ?_ ?_); focus exact xaC) | ((with_reducible refine xwC ?_ ?_); focus exact xaC) | ((with_reducible refine xwD ?_ ?_); focus exact xaC) | ((with_reducible refine xwE ?_ ?_); focus exact xaC) | (with_reducible intro hc; (try simp only [capsP, and_true] at hc); (try exact xfC)) | ((fail_if_success (with_reducible first | refine xgon ?_ | intro _)); (conv => whnf); (fail_if_success (fail_if_success (with_reducible first | refine xstp ?_ | refine Both.mk ?_ ?_ | refine xgon ?_ | intro _)))))
      refine cH14aL2 (σ := []) (nl := []) (cawake) ?_
      rintro v h' ⟨rfl, rfl⟩ hcaps
      refine rH14aL1 ?_
      repeat' (first | (fail_if_success (with_reducible refine xstp ?_)); first | ((with_reducible refine And.intro (fun (hb : _ = true) => ?_) (fun (hb : _ = false) => ?_)) <;> replace hb := xnC hb <;> (try first | exact xfC | exact bff hb (by assumption) | exact bff (by assumption) hb)) | (with_reducible refine Both.mk ?_ ?_) | ((with_reducible refine And.intro ?_ ?_); focus exact xoC) | ((with_reducible refine Or.inl ⟨?_, ?_, ?_⟩); (focus rfl); focus exact xaC) | ((with_reducible refine xwB ?_ ?_); focus exact xaC) | ((with_reducible refine xwC ?_ ?_); focus exact xaC) | ((with_reducible refine xwD ?_ ?_); focus exact xaC) | ((with_reducible refine xwE ?_ ?_); focus exact xaC) | (with_reducible intro hc; (try simp only [capsP, and_true] at hc); (try exact xfC)) | ((fail_if_success (with_reducible first | refine xgon ?_ | intro _)); (conv => whnf); (fail_if_success (fail_if_success (with_reducible first | refine xstp ?_ | refine Both.mk ?_ ?_ | refine xgon ?_ | intro _)))))
      refine FinK.mk ⟨[0, 1], _, [.one .no, .one .no], rfl, ?_⟩
      (repeat' first | refine And.intro ?_ ?_ | exact xeC | fail)
    · exact absurd h2 h1
  · refine rH14aL0 ?_
    repeat' (first | (fail_if_success (with_reducible refine xstp ?_)); first | ((with_reducible refine And.intro (fun (hb : _ = true) => ?_) (fun (hb : _ = false) => ?_)) <;> replace hb := xnC hb <;> (try first | exact xfC | exact bff hb (by assumption) | exact bff (by assumption) hb)) | (with_reducible refine Both.mk ?_ ?_) | ((with_reducible refine And.intro ?_ ?_); focus exact xoC) | ((with_reducible refine Or.inl ⟨?_, ?_, ?_⟩); (focus rfl); focus exact xaC) | ((with_reducible refine xwB ?_ ?_); focus exact xaC) | ((with_reducible refine xwC ?_ ?_); focus exact xaC) | ((with_reducible refine xwD ?_ ?_); focus exact xaC) | ((with_reducible refine xwE ?_ ?_); focus exact xaC) | (with_reducible intro hc; (try simp only [capsP, and_true] at hc); (try exact xfC)) | ((fail_if_success (with_reducible first | refine xgon ?_ | intro _)); (conv => whnf); (fail_if_success (fail_if_success (with_reducible first | refine xstp ?_ | refine Both.mk ?_ ?_ | refine xgon ?_ | intro _)))))
    refine cH14aL2 (σ := [.whole 0]) (nl := []) (cNewR m lat F cF false hF) ?_
    rintro v h' (⟨h2, rfl, rfl⟩ | ⟨h2, c2, rfl, rfl⟩) hcaps
    · exact absurd h1 h2
    · refine rH14aL0 ?_
      repeat' (first | (fail_if_success (with_reducible refine xstp ?_)); first | ((with_reducible refine And.intro (fun (hb : _ = true) => ?_) (fun (hb : _ = false) => ?_)) <;> replace hb := xnC hb <;> (try first | exact xfC | exact bff hb (by assumption) | exact bff (by assumption) hb)) | (with_reducible refine Both.mk ?_ ?_) | ((with_reducible refine And.intro ?_ ?_); focus exact xoC) | ((with_reducible refine Or.inl ⟨?_, ?_, ?_⟩); (focus rfl); focus exact xaC) | ((with_reducible refine xwB ?_ ?_); focus exact xaC) | ((with_reducible refine xwC ?_ ?_); focus exact xaC) | ((with_reducible refine xwD ?_ ?_); focus exact xaC) | ((with_reducible refine xwE ?_ ?_); focus exact xaC) | (with_reducible intro hc; (try simp only [capsP, and_true] at hc); (try exact xfC)) | ((fail_if_success (with_reducible first | refine xgon ?_ | intro _)); (conv => whnf); (fail_if_success (fail_if_success (with_reducible first | refine xstp ?_ | refine Both.mk ?_ ?_ | refine xgon ?_ | intro _)))))
      refine LoopK.mk' {p : Nat × Pg × Nt × (Nat → Nat) × Nat // p.1 ≤ O.length ∧ Rl p.2.1 p.2.2.1 ∧ XB p.2.2.1 ∧ p.2.2.1.cnt ≤ p.1}
        (fun ⟨(i, N, X, cs, k), _⟩ => ⟨[(1, .c (.p 2 0 0)), (3, .c (.p 3 0 0)), (5, .c (.p 7 0 0)), (7, .c (.i .i64 (i : Nat)))],
          [.one .no, .one (opsR O cO), .one (.cells true (encSu m lat F.length cF O.length cO)), .one (pgC2 N c1 5 4), .one (fltR true N.F c1), .one (mapN 6 N.M N.D cs N.ck), arrs N.D cs, .one (ntC2 X c2 9 8 k), .one (fltR true X.F c2), .one (arvR true X.P k)]⟩) (fun q => O.length - q.1.1)
        ⟨⟨(0, N0 m lat F, X0 m lat F, fun _ => 0, 0), Nat.zero_le _, rl0 m lat F, xb0 h1, Int.le_refl _⟩, [0, 1, 2, 3, 4, 5, 6, 7, 8, 9], ?_⟩ ?_
      · (repeat' first | refine And.intro ?_ ?_ | exact xeC | fail)
        all_goals first | (first | exact fun x => lsG_le | exact fun x => lsG_bel | exact fun x => lsG_belR) | (intro i hi; exact absurd hi (Nat.not_lt_zero i))
      rintro ⟨⟨i, N, X, cs, k⟩, hi, hr, hx, hcn⟩
      simp only at hi hr hx hcn
      repeat' (first | (fail_if_success (with_reducible refine xstp ?_)); first | ((with_reducible refine And.intro (fun (hb : _ = true) => ?_) (fun (hb : _ = false) => ?_)) <;> replace hb := xnC hb <;> (try first | exact xfC | exact bff hb (by assumption) | exact bff (by assumption) hb)) | (with_reducible refine Both.mk ?_ ?_) | ((with_reducible refine And.intro ?_ ?_); focus exact xoC) | ((with_reducible refine Or.inl ⟨?_, ?_, ?_⟩); (focus rfl); focus exact xaC) | ((with_reducible refine xwB ?_ ?_); focus exact xaC) | ((with_reducible refine xwC ?_ ?_); focus exact xaC) | ((with_reducible refine xwD ?_ ?_); focus exact xaC) | ((with_reducible refine xwE ?_ ?_); focus exact xaC) | (with_reducible intro hc; (try simp only [capsP, and_true] at hc); (try exact xfC)) | ((fail_if_success (with_reducible first | refine xgon ?_ | intro _)); (conv => whnf); (fail_if_success (fail_if_success (with_reducible first | refine xstp ?_ | refine Both.mk ?_ ?_ | refine xgon ?_ | intro _)))))
      · have hlt : i < O.length := by omega
        have e1 : 0 + ((i : Nat) : Int).toNat = i := by omega
        rw [e1]
        refine cH14aL2 (σ := [.whole 3, .whole 4, .whole 5, .whole 6, .whole 7, .whole 8, .whole 9]) (nl := []) (cstep hr hx (by omega) c1 c2 k cs (O.getD i default) (hO _ (by rw [getD_at hlt]; exact List.getElem_mem _))) ?_ (hle := by (repeat' first | refine And.intro ?_ ?_ | exact xeC | fail) <;> (first | exact fun x => lsG_le | exact fun x => lsG_bel | exact fun x => lsG_belR))
        rintro v h' ⟨N', X', cs', k', hr', hx', hcn', rfl, rfl⟩ hcaps
        refine rH14aL1 ?_
        repeat' (first | (fail_if_success (with_reducible refine xstp ?_)); first | ((with_reducible refine And.intro (fun (hb : _ = true) => ?_) (fun (hb : _ = false) => ?_)) <;> replace hb := xnC hb <;> (try first | exact xfC | exact bff hb (by assumption) | exact bff (by assumption) hb)) | (with_reducible refine Both.mk ?_ ?_) | ((with_reducible refine And.intro ?_ ?_); focus exact xoC) | ((with_reducible refine Or.inl ⟨?_, ?_, ?_⟩); (focus rfl); focus exact xaC) | ((with_reducible refine xwB ?_ ?_); focus exact xaC) | ((with_reducible refine xwC ?_ ?_); focus exact xaC) | ((with_reducible refine xwD ?_ ?_); focus exact xaC) | ((with_reducible refine xwE ?_ ?_); focus exact xaC) | (with_reducible intro hc; (try simp only [capsP, and_true] at hc); (try exact xfC)) | ((fail_if_success (with_reducible first | refine xgon ?_ | intro _)); (conv => whnf); (fail_if_success (fail_if_success (with_reducible first | refine xstp ?_ | refine Both.mk ?_ ?_ | refine xgon ?_ | intro _)))))
        refine cH14aL2 (σ := [.whole 3, .name 4, .name 10]) (nl := []) (cSent N' c1) ?_
        rw [hr'.sent]
        rintro v h' ⟨rfl, rfl⟩ hcaps
        refine rH14aL1 ?_
        repeat' (first | (fail_if_success (with_reducible refine xstp ?_)); first | ((with_reducible refine And.intro (fun (hb : _ = true) => ?_) (fun (hb : _ = false) => ?_)) <;> replace hb := xnC hb <;> (try first | exact xfC | exact bff hb (by assumption) | exact bff (by assumption) hb)) | (with_reducible refine Both.mk ?_ ?_) | ((with_reducible refine And.intro ?_ ?_); focus exact xoC) | ((with_reducible refine Or.inl ⟨?_, ?_, ?_⟩); (focus rfl); focus exact xaC) | ((with_reducible refine xwB ?_ ?_); focus exact xaC) | ((with_reducible refine xwC ?_ ?_); focus exact xaC) | ((with_reducible refine xwD ?_ ?_); focus exact xaC) | ((with_reducible refine xwE ?_ ?_); focus exact xaC) | (with_reducible intro hc; (try simp only [capsP, and_true] at hc); (try exact xfC)) | ((fail_if_success (with_reducible first | refine xgon ?_ | intro _)); (conv => whnf); (fail_if_success (fail_if_success (with_reducible first | refine xstp ?_ | refine Both.mk ?_ ?_ | refine xgon ?_ | intro _)))))
        refine ⟨⟨(i + 1, N', X', cs', k'), by simp only; omega, hr', hx', by simp only; omega⟩, [0, 1, 2, 3, 4, 10, 11, 7, 8, 12], by simp only; omega, ?_⟩
        (repeat' first | refine And.intro ?_ ?_ | exact xeC | fail)
        all_goals first | (first | exact fun x => lsG_le | exact fun x => lsG_bel | exact fun x => lsG_belR) | exact hr'.sent.symm | exact hr'.sent | skip
      all_goals (
        refine cH14aL2 (σ := [.whole 3, .name 4, .whole 5, .whole 6]) (nl := []) (cRecv3 hr hx c1 cs 1152921504606846976) ?_ (hle := by (repeat' first | refine And.intro ?_ ?_ | exact xeC | fail) <;> (first | exact fun x => lsG_le | exact fun x => lsG_bel | exact fun x => lsG_belR))
        rintro v h' ⟨N', c3, hr', hF', rfl, rfl⟩ hcaps
        refine rH14aL1 ?_
        repeat' (first | (fail_if_success (with_reducible refine xstp ?_)); first | ((with_reducible refine And.intro (fun (hb : _ = true) => ?_) (fun (hb : _ = false) => ?_)) <;> replace hb := xnC hb <;> (try first | exact xfC | exact bff hb (by assumption) | exact bff (by assumption) hb)) | (with_reducible refine Both.mk ?_ ?_) | ((with_reducible refine And.intro ?_ ?_); focus exact xoC) | ((with_reducible refine Or.inl ⟨?_, ?_, ?_⟩); (focus rfl); focus exact xaC) | ((with_reducible refine xwB ?_ ?_); focus exact xaC) | ((with_reducible refine xwC ?_ ?_); focus exact xaC) | ((with_reducible refine xwD ?_ ?_); focus exact xaC) | ((with_reducible refine xwE ?_ ?_); focus exact xaC) | (with_reducible intro hc; (try simp only [capsP, and_true] at hc); (try exact xfC)) | ((fail_if_success (with_reducible first | refine xgon ?_ | intro _)); (conv => whnf); (fail_if_success (fail_if_success (with_reducible first | refine xstp ?_ | refine Both.mk ?_ ?_ | refine xgon ?_ | intro _)))))
        refine cH14aL2 (σ := [.whole 7, .whole 8, .whole 9]) (nl := []) (cRecvR X c2 k 1152921504606846976 (by have := hx.P; omega)) ?_
        rintro v h' ⟨c4, c5, rfl, rfl⟩ hcaps
        refine rH14aL1 ?_
        repeat' (first | (fail_if_success (with_reducible refine xstp ?_)); first | ((with_reducible refine And.intro (fun (hb : _ = true) => ?_) (fun (hb : _ = false) => ?_)) <;> replace hb := xnC hb <;> (try first | exact xfC | exact bff hb (by assumption) | exact bff (by assumption) hb)) | (with_reducible refine Both.mk ?_ ?_) | ((with_reducible refine And.intro ?_ ?_); focus exact xoC) | ((with_reducible refine Or.inl ⟨?_, ?_, ?_⟩); (focus rfl); focus exact xaC) | ((with_reducible refine xwB ?_ ?_); focus exact xaC) | ((with_reducible refine xwC ?_ ?_); focus exact xaC) | ((with_reducible refine xwD ?_ ?_); focus exact xaC) | ((with_reducible refine xwE ?_ ?_); focus exact xaC) | (with_reducible intro hc; (try simp only [capsP, and_true] at hc); (try exact xfC)) | ((fail_if_success (with_reducible first | refine xgon ?_ | intro _)); (conv => whnf); (fail_if_success (fail_if_success (with_reducible first | refine xstp ?_ | refine Both.mk ?_ ?_ | refine xgon ?_ | intro _)))))
        refine cH14aL2 (σ := [.whole 10, .whole 11]) (nl := []) (cSame (rcvP 1152921504606846976 X.P) c3 c4 (by have := List.length_filter_le (fun a : Arv => decide (a.at_ ≤ 1152921504606846976)) X.P; have := hx.P; unfold rcvP; omega)) ?_
        rintro v h' ⟨rfl, rfl⟩ hcaps
        refine rH14aL1 ?_
        repeat' (first | (fail_if_success (with_reducible refine xstp ?_)); first | ((with_reducible refine And.intro (fun (hb : _ = true) => ?_) (fun (hb : _ = false) => ?_)) <;> replace hb := xnC hb <;> (try first | exact xfC | exact bff hb (by assumption) | exact bff (by assumption) hb)) | (with_reducible refine Both.mk ?_ ?_) | ((with_reducible refine And.intro ?_ ?_); focus exact xoC) | ((with_reducible refine Or.inl ⟨?_, ?_, ?_⟩); (focus rfl); focus exact xaC) | ((with_reducible refine xwB ?_ ?_); focus exact xaC) | ((with_reducible refine xwC ?_ ?_); focus exact xaC) | ((with_reducible refine xwD ?_ ?_); focus exact xaC) | ((with_reducible refine xwE ?_ ?_); focus exact xaC) | (with_reducible intro hc; (try simp only [capsP, and_true] at hc); (try exact xfC)) | ((fail_if_success (with_reducible first | refine xgon ?_ | intro _)); (conv => whnf); (fail_if_success (fail_if_success (with_reducible first | refine xstp ?_ | refine Both.mk ?_ ?_ | refine xgon ?_ | intro _)))))
        refine cH14aL2 (σ := []) (nl := []) (cawake) ?_
        rintro v h' ⟨rfl, rfl⟩ hcaps
        refine rH14aL1 ?_
        repeat' (first | (fail_if_success (with_reducible refine xstp ?_)); first | ((with_reducible refine And.intro (fun (hb : _ = true) => ?_) (fun (hb : _ = false) => ?_)) <;> replace hb := xnC hb <;> (try first | exact xfC | exact bff hb (by assumption) | exact bff (by assumption) hb)) | (with_reducible refine Both.mk ?_ ?_) | ((with_reducible refine And.intro ?_ ?_); focus exact xoC) | ((with_reducible refine Or.inl ⟨?_, ?_, ?_⟩); (focus rfl); focus exact xaC) | ((with_reducible refine xwB ?_ ?_); focus exact xaC) | ((with_reducible refine xwC ?_ ?_); focus exact xaC) | ((with_reducible refine xwD ?_ ?_); focus exact xaC) | ((with_reducible refine xwE ?_ ?_); focus exact xaC) | (with_reducible intro hc; (try simp only [capsP, and_true] at hc); (try exact xfC)) | ((fail_if_success (with_reducible first | refine xgon ?_ | intro _)); (conv => whnf); (fail_if_success (fail_if_success (with_reducible first | refine xstp ?_ | refine Both.mk ?_ ?_ | refine xgon ?_ | intro _)))))
        refine FinK.mk ⟨[0, 1], _, [.one .no, .one .no], rfl, ?_⟩
        (repeat' first | refine And.intro ?_ ?_ | exact xeC | fail)
        skip)
end Go.Proofs.Ytnjakmpddghhjaa
